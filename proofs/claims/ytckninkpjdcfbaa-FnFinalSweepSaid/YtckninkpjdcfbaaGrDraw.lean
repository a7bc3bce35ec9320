/- The reference's drawing of graphs: it always answers, with small ones. -/
import Derived.Test.YtckninkpjdcfbaaRndOdd
import Derived.Test.YtckninkpjdcfbaaGrEv1
import Derived.Test.YtckninkpjdcfbaaQ6
set_option linter.unusedSimpArgs false
set_option linter.unusedVariables false
namespace Go.Proofs.Ytckninkpjdcfbaa.RD
open Go.RowKit Go.Proofs.Ytckninkpjdcfbaa.Q Go.Proofs.YtckninkpjdcfbaaW.PrintWords Go.Proofs.GR Go.Proofs.Ytckninkpjdcfbaa.GE

theorem numbers_l {d : List Int} (hd : Bytes d) (m : Int) : ∀ (e : Nat) (x c : Int) (l : List Int), x ≤ e → e ≤ 1000 → 0 ≤ c → c + e ≤ 10000000 → l.length + e ≤ 10000 →
    ∃ r c', Ev (fun k => spec_rnd_numbers.l0 k m l x d c) (r, c') ∧ r.length ≤ l.length + e ∧ c ≤ c' ∧ c' ≤ c + e := by
  intro e
  induction e with
  | zero =>
    intro x c l hx he hc hc2 hl
    refine ⟨l, c, Ev.step (fun k => spec_rnd_numbers.l0.eq_2 ..) ?_, by omega, by omega, by omega⟩
    simp only [if_neg (show ¬ x > 0 by omega)]
    exact Ev.now _
  | succ e ih =>
    intro x c l hx he hc hc2 hl
    by_cases h : x > 0
    · obtain ⟨v, c1, hv, g0, g1, g2, g3⟩ := pick_ok hd (n := m) hc (by omega)
      obtain ⟨r, c', hr, hrl, k2, k3⟩ := ih (x - 1) c1 (l ++ [v]) (by omega) (by omega) (by omega) (by omega) (by rw [List.length_append, List.length_singleton]; omega)
      rw [List.length_append, List.length_singleton] at hrl
      refine ⟨r, c', Ev.step (fun k => spec_rnd_numbers.l0.eq_2 ..) ?_, by omega, by omega, by omega⟩
      simp only [if_pos h, hv, Option.bind_some, if_pos (show l.length < 17592186044416 by omega), wr (x := x - 1) (by omega) (by omega)]
      exact hr
    · refine ⟨l, c, Ev.step (fun k => spec_rnd_numbers.l0.eq_2 ..) ?_, by omega, by omega, by omega⟩
      simp only [if_neg h]
      exact Ev.now _
theorem numbers_ev {d : List Int} (hd : Bytes d) (m : Int) {c : Int} (h0 : 0 ≤ c) (h1 : c ≤ 1000000) : ∃ r c', Ev (fun k => spec_rnd_numbers.f k d c 3 m) (r, c') ∧ r.length ≤ 10 ∧ c ≤ c' ∧ c' ≤ c + 10 := by
  obtain ⟨v, c1, hv, g0, g1, g2, g3⟩ := pick_ok hd (n := 4) h0 (by omega)
  have g1 := g1 (by omega)
  obtain ⟨r, c', hr, hrl, k2, k3⟩ := numbers_l hd m 3 v c1 [] (by omega) (by omega) (by omega) (by omega) (by simp)
  refine ⟨r, c', ?_, by simp at hrl; omega, by omega, by omega⟩
  unfold spec_rnd_numbers.f
  have e4 : wrap64 (3 + 1) = 4 := wr (x := 3 + 1) (by omega) (by omega)
  simp only [e4, hv, Option.bind_some]
  exact hr
/-- A graph as it is drawn. -/
def Small (g : List (List Int)) : Prop := g.length ≤ 50 ∧ ∀ r ∈ g, r.length ≤ 50
theorem Small.sz {g : List (List Int)} (h : Small g) : Sz g := by
  refine ⟨by have := h.1; omega, fun x => ?_⟩
  by_cases e : row g x = []
  · rw [e]; simp
  · have := h.2 _ (row_mem e); omega
theorem Small.snoc {g : List (List Int)} {r : List Int} (h : ∀ r ∈ g, r.length ≤ 50) (hr : r.length ≤ 50) : ∀ x ∈ g ++ [r], x.length ≤ 50 := by
  intro x hx
  rcases List.mem_append.1 hx with h1 | h1
  · exact h x h1
  · rw [List.mem_singleton.1 h1]; exact hr
theorem graph_j2 {d : List Int} (hd : Bytes d) {c : Int} (h0 : 0 ≤ c) (h1 : c ≤ 1000000) (g : List (List Int)) (l : List Int) (hl : l.length ≤ 100) : ∃ r c', Ev (fun k => spec_rnd_graph.j2 k g l d c) (g, r, c') ∧ r.length ≤ l.length + 1 ∧ c ≤ c' ∧ c' ≤ c + 2 := by
  obtain ⟨v, c1, hv, g0, g1, g2, g3⟩ := pick_ok hd (n := 14) h0 (by omega)
  obtain ⟨m, c2, hm, k2, k3⟩ := odd_ok hd (c := c1) (by omega) (by omega)
  by_cases e : v = 0
  · refine ⟨l ++ [m], c2, Ev.step (fun k => spec_rnd_graph.j2.eq_2 ..) ?_, by simp, by omega, by omega⟩
    simp only [hv, Option.bind_some, if_pos e, hm, if_pos (show l.length < 17592186044416 by omega)]
    exact Ev.now _
  · refine ⟨l, c1, Ev.step (fun k => spec_rnd_graph.j2.eq_2 ..) ?_, by omega, by omega, by omega⟩
    simp only [hv, Option.bind_some, if_neg e]
    exact Ev.now _
theorem graph_j1 {d : List Int} (hd : Bytes d) {c : Int} (h0 : 0 ≤ c) (h1 : c ≤ 100000) (g : List (List Int)) (hg : g.length ≤ 40) (hg2 : ∀ r ∈ g, r.length ≤ 50) (l : List Int) (hl : l.length ≤ 100) : ∃ g' r c', Ev (fun k => spec_rnd_graph.j1 k g l d c) (g', r, c') ∧ Small g' ∧ r.length ≤ 200 ∧ c ≤ c' ∧ c' ≤ c + 10 := by
  obtain ⟨v, c1, hv, g0, g1, g2, g3⟩ := pick_ok hd (n := 14) h0 (by omega)
  obtain ⟨m, c2, hm, k2, k3⟩ := odd_ok hd (c := c1) (by omega) (by omega)
  by_cases e : v = 0
  · obtain ⟨r, c', hr, hrl, q2, q3⟩ := graph_j2 hd (c := c2) (by omega) (by omega) (g ++ [[m]]) l hl
    refine ⟨g ++ [[m]], r, c', Ev.step (fun k => spec_rnd_graph.j1.eq_2 ..) ?_, ⟨by simp; omega, Small.snoc hg2 (by simp)⟩, by omega, by omega, by omega⟩
    simp only [hv, Option.bind_some, if_pos e, hm, if_pos (show g.length < 5864062014805 by omega)]
    exact hr
  · obtain ⟨r, c', hr, hrl, q2, q3⟩ := graph_j2 hd (c := c1) (by omega) (by omega) g l hl
    refine ⟨g, r, c', Ev.step (fun k => spec_rnd_graph.j1.eq_2 ..) ?_, ⟨by omega, hg2⟩, by omega, by omega, by omega⟩
    simp only [hv, Option.bind_some, if_neg e]
    exact hr
theorem graph_l0 {d : List Int} (hd : Bytes d) (n : Int) (hn : n ≤ 20) : ∀ (e : Nat) (i c : Int) (g : List (List Int)), n - i ≤ e → e ≤ 20 → 0 ≤ i → i ≤ 20 → 0 ≤ c → c + 10 * e ≤ 10000 → g.length + e ≤ 30 → (∀ r ∈ g, r.length ≤ 50) →
    ∃ g' r c', Ev (fun k => spec_rnd_graph.l0 k n g i d c) (g', r, c') ∧ Small g' ∧ r.length ≤ 200 ∧ c ≤ c' ∧ c' ≤ c + 10 * e + 20 := by
  intro e
  have stop : ∀ (e : Nat) (i c : Int) (g : List (List Int)), ¬ i < n → 0 ≤ c → c ≤ 10000 → g.length ≤ 30 → (∀ r ∈ g, r.length ≤ 50) → ∃ g' r c', Ev (fun k => spec_rnd_graph.l0 k n g i d c) (g', r, c') ∧ Small g' ∧ r.length ≤ 200 ∧ c ≤ c' ∧ c' ≤ c + 10 * e + 20 := by
    intro e i c g hi hc hc2 hg hg2
    by_cases h : n > 0
    · obtain ⟨l, c1, hl, hll, k2, k3⟩ := numbers_ev hd n hc (by omega)
      obtain ⟨g', r, c', hr, q1, q2, q3, q4⟩ := graph_j1 hd (c := c1) (by omega) (by omega) g (by omega) hg2 l (by omega)
      refine ⟨g', r, c', Ev.step (fun k => spec_rnd_graph.l0.eq_2 ..) ?_, q1, q2, by omega, by omega⟩
      simp only [if_neg hi, if_pos h]
      exact Ev.bind hl hr
    · obtain ⟨g', r, c', hr, q1, q2, q3, q4⟩ := graph_j1 hd (c := c) (by omega) (by omega) g (by omega) hg2 [] (by simp)
      refine ⟨g', r, c', Ev.step (fun k => spec_rnd_graph.l0.eq_2 ..) ?_, q1, q2, by omega, by omega⟩
      simp only [if_neg hi, if_neg h]
      exact hr
  induction e with
  | zero => intro i c g hm he hi hi2 hc hc2 hg hg2; exact stop 0 i c g (by omega) hc (by omega) (by omega) hg2
  | succ e ih =>
    intro i c g hm he hi hi2 hc hc2 hg hg2
    by_cases h : i < n
    · obtain ⟨l, c1, hl, hll, k2, k3⟩ := numbers_ev hd n hc (by omega)
      obtain ⟨g', r, c', hr, q1, q2, q3, q4⟩ := ih (i + 1) c1 (g ++ [l]) (by omega) (by omega) (by omega) (by omega) (by omega) (by omega) (by rw [List.length_append, List.length_singleton]; omega) (Small.snoc hg2 (by omega))
      refine ⟨g', r, c', Ev.step (fun k => spec_rnd_graph.l0.eq_2 ..) ?_, q1, q2, by omega, by omega⟩
      simp only [if_pos h]
      refine Ev.bind hl ?_
      simp only [if_pos (show g.length < 5864062014805 by omega), wr (x := i + 1) (by omega) (by omega)]
      exact hr
    · exact stop (e + 1) i c g h hc (by omega) (by omega) hg2
theorem graph_ev {d : List Int} (hd : Bytes d) : ∃ g r c', Ev (fun k => spec_rnd_graph.f k d 0) (g, r, c') ∧ Small g ∧ r.length ≤ 200 ∧ 0 ≤ c' ∧ c' ≤ 1000 := by
  obtain ⟨v, c1, hv, g0, g1, g2, g3⟩ := pick_ok hd (n := 9) (c := 0) (by omega) (by omega)
  have g1 := g1 (by omega)
  obtain ⟨g', r, c', hr, q1, q2, q3, q4⟩ := graph_l0 hd v (by omega) 9 0 c1 [] (by omega) (by omega) (by omega) (by omega) (by omega) (by omega) (by simp) (by simp)
  refine ⟨g', r, c', ?_, q1, q2, by omega, by omega⟩
  unfold spec_rnd_graph.f
  simp only [hv, Option.bind_some]
  exact hr
end Go.Proofs.Ytckninkpjdcfbaa.RD
