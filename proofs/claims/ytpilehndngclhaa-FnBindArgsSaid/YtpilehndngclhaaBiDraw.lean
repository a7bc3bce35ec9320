/- Drawn parameters and arguments. -/
import Derived.Test.YtpilehndngclhaaLcDraw
import Derived.Test.YtpilehndngclhaaRndOf
import Derived.Test.YtpilehndngclhaaQ1
import Derived.Test.YtpilehndngclhaaQ2
set_option linter.unusedSimpArgs false
set_option linter.unusedVariables false
namespace Go.Proofs.Ytpilehndngclhaa.RD
open Go.RowKit Go.Proofs.Ytpilehndngclhaa.Q Go.Proofs.YtpilehndngclhaaW.PrintWords

theorem word_ok {d : List Int} (hd : Bytes d) {c : Int} (h0 : 0 ≤ c) (h1 : c ≤ 1000000) : ∃ v c', spec_rnd_word.f d c = some (v, c') ∧ v.size ≤ 20 ∧ c ≤ c' ∧ c' ≤ c + 1 := by
  unfold spec_rnd_word.f
  obtain ⟨v, c', e, hp, k2, k3⟩ := of_ok hd (c := c) h0 (by omega) [(⟨#[97]⟩ : ByteArray), (⟨#[98]⟩ : ByteArray), (⟨#[120]⟩ : ByteArray), (⟨#[102]⟩ : ByteArray), (⟨#[120, 115]⟩ : ByteArray), (⟨#[95, 49]⟩ : ByteArray), (⟨#[78, 97, 109, 101, 57]⟩ : ByteArray), (⟨#[105, 102]⟩ : ByteArray), (⟨#[78, 111, 110, 101]⟩ : ByteArray), (⟨#[108, 97, 109, 98, 100, 97]⟩ : ByteArray), (⟨#[49, 97]⟩ : ByteArray), (⟨#[]⟩ : ByteArray), (⟨#[97, 45, 98]⟩ : ByteArray), (⟨#[97, 98, 99, 100, 101, 102, 103, 104, 105, 106, 107, 108]⟩ : ByteArray), (⟨#[97, 98, 99, 100, 101, 102, 103, 104, 105, 106, 107, 108, 109]⟩ : ByteArray), (⟨#[105, 115]⟩ : ByteArray), (⟨#[105, 115, 97]⟩ : ByteArray)] (by simp) (by simp) (fun s => s.size ≤ 20) (by
    intro x hx
    simp only [List.mem_cons, List.not_mem_nil, or_false] at hx
    rcases hx with rfl | rfl | rfl | rfl | rfl | rfl | rfl | rfl | rfl | rfl | rfl | rfl | rfl | rfl | rfl | rfl | rfl <;> decide)
  refine ⟨v, c', ?_, hp, k2, k3⟩
  rw [e]
  rfl
def Short (P : List ByteArray) (n : Nat) : Prop := P.length ≤ n ∧ ∀ s ∈ P, s.size ≤ 20
theorem Short.snoc {P : List ByteArray} {n : Nat} (h : Short P n) {s : ByteArray} (hs : s.size ≤ 20) : Short (P ++ [s]) (n + 1) := by
  refine ⟨by rw [List.length_append, List.length_singleton]; have := h.1; omega, fun x hx => ?_⟩
  rcases List.mem_append.1 hx with hx | hx
  · exact h.2 x hx
  · rw [List.mem_singleton.1 hx]; exact hs
def five : List ByteArray := [⟨#[120]⟩, ⟨#[98]⟩, ⟨#[97]⟩, ⟨#[99]⟩, ⟨#[100]⟩]
theorem bend {d : List Int} (hd : Bytes d) (P : List ByteArray) (hP : Short P 10) (D A : List Int) (N : List ByteArray) (x c : Int) (h0 : 0 ≤ c) (h1 : c ≤ 100000) :
    ∃ P', Ev (fun k => spec_DrawBindArgs.j2 k P D A N five x false d c) (P', D, A, N) ∧ Short P' 11 := by
  obtain ⟨v, c1, hv, g0, g1, g2, g3⟩ := pick_ok hd (n := 14) h0 (by omega)
  by_cases e : v = 0
  · obtain ⟨w, c2, hw, w0, w1, w2⟩ := word_ok hd (c := c1) (by omega) (by omega)
    refine ⟨P ++ [w], Ev.step (fun k => spec_DrawBindArgs.j2.eq_2 ..) ?_, hP.snoc w0⟩
    simp only [Bool.false_eq_true, if_false, hv, Option.bind_some, if_pos e, hw, if_pos (show P.length < 8796093022208 by have := hP.1; omega)]
    exact Ev.now _
  · refine ⟨P, Ev.step (fun k => spec_DrawBindArgs.j2.eq_2 ..) ?_, by have := hP.1; omega, hP.2⟩
    simp only [Bool.false_eq_true, if_false, hv, Option.bind_some, if_neg e]
    exact Ev.now _
theorem bnames {d : List Int} (hd : Bytes d) (P : List ByteArray) (hP : Short P 10) (D A : List Int) : ∀ (e n : Nat) (x c : Int) (N : List ByteArray), 5 - n = e → n ≤ 5 → x = n → N.length ≤ n → 0 ≤ c → c + 10 * e ≤ 10000 →
    ∃ P' N', Ev (fun k => spec_DrawBindArgs.l0 k P D A N five x d c) (P', D, A, N') ∧ Short P' 11 ∧ N'.length ≤ 5 := by
  intro e
  induction e with
  | zero =>
    intro n x c N he hn hx hN h0 h1
    obtain ⟨P', hp, hs⟩ := bend hd P hP D A N x c h0 (by omega)
    refine ⟨P', N, Ev.step (fun k => spec_DrawBindArgs.l0.eq_2 ..) ?_, hs, by omega⟩
    simp only [if_neg (show ¬ x < (five.length : Int) by show ¬ x < (5 : Int); omega)]
    exact hp
  | succ e ih =>
    intro n x c N he hn hx hN h0 h1
    have h5 : x < (five.length : Int) := by show x < (5 : Int); omega
    by_cases ha : (N.length : Int) < (A.length : Int)
    · obtain ⟨v, c1, hv, g0, g1, g2, g3⟩ := pick_ok hd (n := 4) h0 (by omega)
      by_cases e0 : v = 0
      · obtain ⟨P', N', hp, hs, hn'⟩ := ih (n + 1) (x + 1) c1 (N ++ [rdOf ByteArray.empty five x]) (by omega) (by omega) (by omega) (by rw [List.length_append, List.length_singleton]; omega) (by omega) (by omega)
        refine ⟨P', N', Ev.step (fun k => spec_DrawBindArgs.l0.eq_2 ..) ?_, hs, hn'⟩
        simp only [if_pos h5, decide_eq_true ha]
        refine Ev.step (fun k => spec_DrawBindArgs.j2.eq_2 ..) ?_
        simp only [if_true, hv, Option.bind_some, if_pos e0, if_pos (show 0 ≤ x by omega), if_pos h5, if_pos (show N.length < 8796093022208 by omega), wr (x := x + 1) (by omega) (by omega)]
        exact hp
      · obtain ⟨P', N', hp, hs, hn'⟩ := ih (n + 1) (x + 1) c1 N (by omega) (by omega) (by omega) (by omega) (by omega) (by omega)
        refine ⟨P', N', Ev.step (fun k => spec_DrawBindArgs.l0.eq_2 ..) ?_, hs, hn'⟩
        simp only [if_pos h5, decide_eq_true ha]
        refine Ev.step (fun k => spec_DrawBindArgs.j2.eq_2 ..) ?_
        simp only [if_true, hv, Option.bind_some, if_neg e0, wr (x := x + 1) (by omega) (by omega)]
        exact hp
    · obtain ⟨P', hp, hs⟩ := bend hd P hP D A N x c h0 (by omega)
      refine ⟨P', N, Ev.step (fun k => spec_DrawBindArgs.l0.eq_2 ..) ?_, hs, by omega⟩
      simp only [if_pos h5, decide_eq_false ha]
      exact hp
theorem DrawBind_ev {l d : List Int} (hn : spec_newRnd.f l = some (d, 0)) (hd : Bytes d) : ∃ P D A N, Ev (fun k => spec_DrawBindArgs.f k l) (P, D, A, N) ∧ Short P 11 ∧ D.length ≤ 100 ∧ A.length ≤ 5 ∧ N.length ≤ 5 := by
  have j0 : ∀ (P : List ByteArray) (c : Int), Short P 10 → 0 ≤ c → c ≤ 10 → ∃ P' D A N, Ev (fun k => spec_DrawBindArgs.j0 k P d c) (P', D, A, N) ∧ Short P' 11 ∧ D.length ≤ 100 ∧ A.length ≤ 5 ∧ N.length ≤ 5 := by
    intro P c hP h0 h1
    have hp := hP.1
    obtain ⟨D, c1, hD, hDl, p0, p1⟩ := numbers_ev hd (P.length : Int) 50 (by omega) (by omega) (c := c) (by omega) (by omega)
    obtain ⟨A, c2, hA, hAl, q0, q1⟩ := numbers_ev hd 5 90 (by omega) (by omega) (c := c1) (by omega) (by omega)
    obtain ⟨P', N', hb, hs, hn'⟩ := bnames hd P hP D A 5 0 0 c2 [] rfl (Nat.zero_le _) rfl (Nat.le_refl _) (by omega) (by omega)
    refine ⟨P', D, A, N', Ev.step (fun k => spec_DrawBindArgs.j0.eq_2 ..) ?_, hs, by omega, by omega, hn'⟩
    exact Ev.bind hD (Ev.bind hA hb)
  have hpar : ∃ P c, spec_rnd_params.f d 0 = some (P, c) ∧ Short P 10 ∧ 0 ≤ c ∧ c ≤ 1 := by
    obtain ⟨v, c1, hv, g0, g1, g2, g3⟩ := pick_ok hd (n := 5) (c := 0) (by omega) (by omega)
    have g1 := g1 (by omega)
    unfold spec_rnd_params.f
    simp only [Option.bind_some, hv, if_pos g0]
    have hc : v = 0 ∨ v = 1 ∨ v = 2 ∨ v = 3 ∨ v = 4 := by omega
    rcases hc with rfl | rfl | rfl | rfl | rfl
    · exact ⟨[], c1, rfl, ⟨by decide, by simp⟩, by omega, by omega⟩
    · exact ⟨[⟨#[97]⟩], c1, rfl, ⟨by decide, by simp; decide⟩, by omega, by omega⟩
    · exact ⟨[⟨#[120]⟩], c1, rfl, ⟨by decide, by simp; decide⟩, by omega, by omega⟩
    · exact ⟨[⟨#[97]⟩, ⟨#[98]⟩], c1, rfl, ⟨by decide, by simp; decide⟩, by omega, by omega⟩
    · exact ⟨[⟨#[120]⟩, ⟨#[99]⟩], c1, rfl, ⟨by decide, by simp; decide⟩, by omega, by omega⟩
  obtain ⟨P, c, hp, hs, k0, k1⟩ := hpar
  obtain ⟨v, c1, hv, g0, g1, g2, g3⟩ := pick_ok hd (n := 3) (c := c) (by omega) (by omega)
  by_cases e : v = 0
  · obtain ⟨v2, c2, hv2, f0, f1, f2, f3⟩ := pick_ok hd (n := 4) (c := c1) (by omega) (by omega)
    have f1 := f1 (by omega)
    obtain ⟨P', D, A, N, hb, q⟩ := j0 (([⟨#[97]⟩, ⟨#[98]⟩, ⟨#[99]⟩, ⟨#[120]⟩] : List ByteArray).take (1 + v2).toNat) c2 ⟨by rw [List.length_take]; simp only [List.length_cons, List.length_nil]; omega, fun s hs => by
      have hs := List.mem_of_mem_take hs
      simp only [List.mem_cons, List.not_mem_nil, or_false] at hs
      rcases hs with rfl | rfl | rfl | rfl <;> decide⟩ (by omega) (by omega)
    refine ⟨P', D, A, N, ?_, q⟩
    unfold spec_DrawBindArgs.f
    simp only [hn, hp, hv, Option.bind_some, if_pos e, hv2, wr (x := 1 + v2) (by omega) (by omega), if_pos (show 0 ≤ 1 + v2 by omega), List.length_cons, List.length_nil, if_pos (show 1 + v2 ≤ ((0 + 1 + 1 + 1 + 1 : Nat) : Int) by omega)]
    exact hb
  · obtain ⟨P', D, A, N, hb, q⟩ := j0 P c1 hs (by omega) (by omega)
    refine ⟨P', D, A, N, ?_, q⟩
    unfold spec_DrawBindArgs.f
    simp only [hn, hp, hv, Option.bind_some, if_neg e]
    exact hb
end Go.Proofs.Ytpilehndngclhaa.RD
