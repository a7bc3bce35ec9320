/- Drawn texts are short. -/
import Derived.Test.YtmchcbpjgkgejaaRndOf
import Derived.Test.YtmchcbpjgkgejaaQ1
set_option linter.unusedSimpArgs false
set_option linter.unusedVariables false
namespace Go.Proofs.Ytmchcbpjgkgejaa.RD
open Go.RowKit Go.Proofs.Ytmchcbpjgkgejaa.Q Go.Proofs.YtmchcbpjgkgejaaW.PrintWords
theorem size_app (a b : ByteArray) : (a ++ b).size = a.size + b.size := ByteArray.size_append
theorem text_grow {d : List Int} : ∀ (e : Nat) (s : ByteArray) (c : Int), (399 - (s.size : Int)) ≤ e → s.size ≤ 500 → ∃ s' : ByteArray, Ev (fun k => spec_rnd_text.l1 k s d c) (s', c) ∧ s'.size ≤ 500 := by
  intro e
  induction e with
  | zero =>
    intro s c h hs
    refine ⟨s, Ev.step (fun k => spec_rnd_text.l1.eq_2 ..) ?_, hs⟩
    simp only [if_neg (show ¬ (s.size : Int) ≤ 398 by omega)]
    exact Ev.now _
  | succ e ih =>
    intro s c h hs
    by_cases hc : (s.size : Int) ≤ 398
    · have h2 : (s ++ (⟨#[97, 98]⟩ : ByteArray)).size = s.size + 2 := size_app _ _
      obtain ⟨s', h1, h3⟩ := ih (s ++ (⟨#[97, 98]⟩ : ByteArray)) c (by rw [h2]; omega) (by rw [h2]; omega)
      refine ⟨s', Ev.step (fun k => spec_rnd_text.l1.eq_2 ..) ?_, h3⟩
      simp only [if_pos hc, if_pos (show s.size + 2 ≤ 9223372036854775807 by omega)]
      exact h1
    · refine ⟨s, Ev.step (fun k => spec_rnd_text.l1.eq_2 ..) ?_, hs⟩
      simp only [if_neg hc]
      exact Ev.now _
theorem text_l {d : List Int} (hd : Bytes d) : ∀ (e : Nat) (x c : Int) (s : ByteArray), x ≤ e → e ≤ 10 → 0 ≤ c → c + e ≤ 100000 → s.size + 5 * e ≤ 60 →
    ∃ s' c', Ev (fun k => spec_rnd_text.l0 k s x d c) (s', c') ∧ s'.size ≤ 500 ∧ c ≤ c' ∧ c' ≤ c + e + 1 := by
  have stop : ∀ (x c : Int) (s : ByteArray), ¬ x > 0 → 0 ≤ c → c ≤ 100000 → s.size ≤ 60 → ∃ s' c', Ev (fun k => spec_rnd_text.l0 k s x d c) (s', c') ∧ s'.size ≤ 500 ∧ c ≤ c' ∧ c' ≤ c + 1 := by
    intro x c s hx h0 h1 hs
    obtain ⟨v, c1, hv, g0, g1, g2, g3⟩ := pick_ok hd (n := 40) h0 (by omega)
    by_cases e : v = 0
    · obtain ⟨s', h2, h3⟩ := text_grow (d := d) 399 s c1 (by omega) (by omega)
      refine ⟨s', c1, Ev.step (fun k => spec_rnd_text.l0.eq_2 ..) ?_, h3, by omega, by omega⟩
      simp only [if_neg hx, hv, Option.bind_some, if_pos e]
      exact h2
    · refine ⟨s, c1, Ev.step (fun k => spec_rnd_text.l0.eq_2 ..) ?_, by omega, by omega, by omega⟩
      simp only [if_neg hx, hv, Option.bind_some, if_neg e]
      exact Ev.now _
  intro e
  induction e with
  | zero =>
    intro x c s hx he h0 h1 hs
    obtain ⟨s', c', h2, h3, h4, h5⟩ := stop x c s (by omega) h0 (by omega) (by omega)
    exact ⟨s', c', h2, h3, h4, by omega⟩
  | succ e ih =>
    intro x c s hx he h0 h1 hs
    by_cases h : x > 0
    · obtain ⟨w, c1, hw, w0, w1, w2⟩ := of_ok hd (c := c) (by omega) (by omega) [(⟨#[97]⟩ : ByteArray), (⟨#[98]⟩ : ByteArray), (⟨#[97, 98]⟩ : ByteArray), (⟨#[32]⟩ : ByteArray), (⟨#[97, 98, 97]⟩ : ByteArray), (⟨#[10]⟩ : ByteArray), (⟨#[39]⟩ : ByteArray), strOfNums (([92] : List Int)), (⟨#[0]⟩ : ByteArray), (⟨#[255]⟩ : ByteArray), (⟨#[195, 169]⟩ : ByteArray), (⟨#[44]⟩ : ByteArray)] (by simp) (by simp) (fun s => s.size ≤ 5) (by
        intro x hx
        simp only [List.mem_cons, List.not_mem_nil, or_false] at hx
        rcases hx with rfl | rfl | rfl | rfl | rfl | rfl | rfl | rfl | rfl | rfl | rfl | rfl <;> decide)
      have h2 := size_app s w
      obtain ⟨s', c', h3, h4, h5, h6⟩ := ih (x - 1) c1 (s ++ w) (by omega) (by omega) (by omega) (by omega) (by omega)
      refine ⟨s', c', Ev.step (fun k => spec_rnd_text.l0.eq_2 ..) ?_, h4, by omega, by omega⟩
      simp only [if_pos h, hw, Option.bind_some, if_pos (show s.size + w.size ≤ 9223372036854775807 by omega), wr (x := x - 1) (by omega) (by omega)]
      exact h3
    · obtain ⟨s', c', h2, h3, h4, h5⟩ := stop x c s h h0 (by omega) (by omega)
      exact ⟨s', c', h2, h3, h4, by omega⟩
theorem text_ok {d : List Int} (hd : Bytes d) {c : Int} (h0 : 0 ≤ c) (h1 : c ≤ 1000) : ∃ s c', Ev (fun k => spec_rnd_text.f k d c) (s, c') ∧ s.size ≤ 500 ∧ c ≤ c' ∧ c' ≤ c + 50 := by
  obtain ⟨v, c1, hv, g0, g1, g2, g3⟩ := pick_ok hd (n := 9) h0 (by omega)
  have g1 := g1 (by omega)
  obtain ⟨s, c', h2, h3, h4, h5⟩ := text_l hd 8 v c1 ⟨#[]⟩ (by omega) (by omega) (by omega) (by omega) (by decide)
  refine ⟨s, c', ?_, h3, by omega, by omega⟩
  unfold spec_rnd_text.f
  simp only [hv, Option.bind_some]
  exact h2
end Go.Proofs.Ytmchcbpjgkgejaa.RD
