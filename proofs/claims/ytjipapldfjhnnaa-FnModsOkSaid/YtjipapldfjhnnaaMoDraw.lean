/- The reference's drawing of modules: it always answers, with small ones. -/
import Derived.Test.YtjipapldfjhnnaaRndOdd
import Derived.Test.YtjipapldfjhnnaaRndOf
import Derived.Test.YtjipapldfjhnnaaMoValid
import Derived.Test.YtjipapldfjhnnaaQ0
import Derived.Test.YtjipapldfjhnnaaQ1
import Derived.Test.YtjipapldfjhnnaaQ2
set_option linter.unusedSimpArgs false
set_option linter.unusedVariables false
namespace Go.Proofs.Ytjipapldfjhnnaa.MO
open Go.RowKit Go.Proofs.Ytjipapldfjhnnaa.Q Go.Proofs.YtjipapldfjhnnaaW.PrintWords Go.Proofs.GR Go.Proofs.Ytjipapldfjhnnaa.RD
def I64 (x : Int) : Prop := -9223372036854775808 ≤ x ∧ x ≤ 9223372036854775807
theorem often_in {d : List Int} (hd : Bytes d) {c : Int} (h0 : 0 ≤ c) (h1 : c ≤ 1000000) (x : Int) (hx : I64 x) : ∃ v c', spec_rnd_often.f d c x = some (v, c') ∧ I64 v ∧ c ≤ c' ∧ c' ≤ c + 2 := by
  obtain ⟨v, c1, hv, g0, g1, g2, g3⟩ := pick_ok hd (n := 16) h0 (by omega)
  obtain ⟨m, c2, hm, hp, k2, k3⟩ := one_ok hd (c := c1) (by omega) (by omega) [(-1), 4611686018427387904, (-4611686018427387904), 1001, 7, 1000001, (-9223372036854775808), 9223372036854775807] (by simp) (by simp) I64 (by
    intro z hz
    simp only [List.mem_cons, List.not_mem_nil, or_false] at hz
    unfold I64
    omega)
  unfold spec_rnd_often.f spec_rnd_odd.f
  rw [hv]
  simp only [Option.bind_some]
  by_cases e : v = 0
  · rw [if_pos e, hm]
    exact ⟨m, c2, rfl, hp, by omega, by omega⟩
  · rw [if_neg e]
    exact ⟨x, c1, rfl, hx, by omega, by omega⟩
def Sm (l : List S44) (n : Nat) : Prop := l.length ≤ n ∧ ∀ m ∈ l, m.f0.length ≤ 10 ∧ ∀ s ∈ m.f0, s.f2.size ≤ 20
theorem word_ok {d : List Int} (hd : Bytes d) {c : Int} (h0 : 0 ≤ c) (h1 : c ≤ 1000000) : ∃ v c', spec_rnd_word.f d c = some (v, c') ∧ v.size ≤ 20 ∧ c ≤ c' ∧ c' ≤ c + 1 := by
  unfold spec_rnd_word.f
  obtain ⟨v, c', e, hp, k2, k3⟩ := of_ok hd (c := c) h0 (by omega) [(⟨#[97]⟩ : ByteArray), (⟨#[98]⟩ : ByteArray), (⟨#[120]⟩ : ByteArray), (⟨#[102]⟩ : ByteArray), (⟨#[120, 115]⟩ : ByteArray), (⟨#[95, 49]⟩ : ByteArray), (⟨#[78, 97, 109, 101, 57]⟩ : ByteArray), (⟨#[105, 102]⟩ : ByteArray), (⟨#[78, 111, 110, 101]⟩ : ByteArray), (⟨#[108, 97, 109, 98, 100, 97]⟩ : ByteArray), (⟨#[49, 97]⟩ : ByteArray), (⟨#[]⟩ : ByteArray), (⟨#[97, 45, 98]⟩ : ByteArray), (⟨#[97, 98, 99, 100, 101, 102, 103, 104, 105, 106, 107, 108]⟩ : ByteArray), (⟨#[97, 98, 99, 100, 101, 102, 103, 104, 105, 106, 107, 108, 109]⟩ : ByteArray), (⟨#[105, 115]⟩ : ByteArray), (⟨#[105, 115, 97]⟩ : ByteArray)] (by simp) (by simp) (fun s => s.size ≤ 20) (by
    intro z hz
    simp only [List.mem_cons, List.not_mem_nil, or_false] at hz
    rcases hz with rfl | rfl | rfl | rfl | rfl | rfl | rfl | rfl | rfl | rfl | rfl | rfl | rfl | rfl | rfl | rfl | rfl <;> decide)
  simp only [e, Option.bind_some]
  exact ⟨v, c', rfl, hp, k2, k3⟩
theorem mods_l {d : List Int} (hd : Bytes d) (m : Int) (hm : m ≤ 7) : ∀ (e n : Nat) (x c : Int) (acc : List S44), x = n → m - x ≤ e → Sm acc n → n + e ≤ 10 → 0 ≤ c → c + 100 * e ≤ 100000 →
    ∃ l c', Ev (fun k => spec_rnd_mods.l0 k acc m x d c) (l, c') ∧ Sm l (n + e) ∧ c ≤ c' ∧ c' ≤ c + 100 * e := by
  intro e
  induction e with
  | zero =>
    intro n x c acc hx h1 hf hn h0 hc
    refine ⟨acc, c, Ev.step (fun k => spec_rnd_mods.l0.eq_2 ..) ?_, hf, by omega, by omega⟩
    simp only [if_neg (show ¬ x < m by omega)]
    exact Ev.now _
  | succ e ih =>
    intro n x c acc hx h1 hf hn h0 hc
    by_cases hlt : x < m
    · obtain ⟨v, c1, hv, g0, g1, g2, g3⟩ := pick_ok hd (n := 6) h0 (by omega)
      have g1 := g1 (by omega)
      have inner : ∀ (f : Nat) (y c2 : Int) (bs : List S46), y ≤ f → f ≤ 5 → bs.length + f ≤ 5 → (∀ s ∈ bs, s.f2.size ≤ 20) → c1 ≤ c2 → c2 + 6 * f ≤ c1 + 30 → ∃ l c', Ev (fun k => spec_rnd_mods.l1 k acc m x bs y d c2) (l, c') ∧ Sm l (n + (e + 1)) ∧ c ≤ c' ∧ c' ≤ c + 100 * ((e + 1 : Nat) : Int) := by
        intro f
        have stop : ∀ (y c2 : Int) (bs : List S46), ¬ y > 0 → bs.length ≤ 5 → (∀ s ∈ bs, s.f2.size ≤ 20) → c1 ≤ c2 → c2 ≤ c1 + 30 → ∃ l c', Ev (fun k => spec_rnd_mods.l1 k acc m x bs y d c2) (l, c') ∧ Sm l (n + (e + 1)) ∧ c ≤ c' ∧ c' ≤ c + 100 * ((e + 1 : Nat) : Int) := by
          intro y c2 bs hy hb hs k1 k2
          obtain ⟨l, c', f1, f2, f3, f4⟩ := ih (n + 1) (x + 1) c2 (acc ++ [(⟨bs⟩ : S44)]) (by omega) (by omega) ⟨by rw [List.length_append, List.length_singleton]; have := hf.1; omega, fun z hz => by
            rcases List.mem_append.1 hz with q | q
            · exact hf.2 z q
            · rw [List.mem_singleton.1 q]; exact ⟨by show bs.length ≤ 10; omega, hs⟩⟩ (by omega) (by omega) (by omega)
          refine ⟨l, c', Ev.step (fun k => spec_rnd_mods.l1.eq_2 ..) ?_, ⟨by have := f2.1; omega, f2.2⟩, by omega, by omega⟩
          simp only [if_neg hy, if_pos (show acc.length < 5864062014805 by have := hf.1; omega), wr (x := x + 1) (by omega) (by omega)]
          exact f1
        induction f with
        | zero => intro y c2 bs hy _ hb hs k1 k2; exact stop y c2 bs (by omega) (by omega) hs k1 (by omega)
        | succ f ihf =>
          intro y c2 bs hy hf3 hb hs k1 k2
          by_cases hy0 : y > 0
          · obtain ⟨kd, c3, e3, _, q3, q3'⟩ := one_ok hd (c := c2) (by omega) (by omega) [1, 1, 2, 3, 3, 4, 4, 5] (by simp) (by simp) (fun _ => True) (by simp)
            obtain ⟨v1, c4, e4, v10, v11, q4, q4'⟩ := pick_ok hd (c := c3) (n := m) (by omega) (by omega)
            obtain ⟨v2, c5, e5, _, q5, q5'⟩ := often_in hd (c := c4) (by omega) (by omega) v1 (by
              unfold I64
              by_cases hm0 : 1 ≤ m
              · have := v11 hm0; omega
              · have : v1 = 0 := by
                  unfold spec_rnd_pick.f at e4
                  rw [if_pos (by omega)] at e4
                  simp at e4
                  exact e4.1.symm
                omega)
            have ew : wrap64 (y - 1) = y - 1 := wr (by omega) (by omega)
            have go : ∀ (b : Bool), ∃ l c', Ev (fun k => spec_rnd_mods.j2 k acc m x bs y b d c5 kd v2 (⟨#[]⟩ : ByteArray)) (l, c') ∧ Sm l (n + (e + 1)) ∧ c ≤ c' ∧ c' ≤ c + 100 * ((e + 1 : Nat) : Int) := by
              intro b
              cases b with
              | true =>
                obtain ⟨w, c6, e6, w6, q6, q6'⟩ := word_ok hd (c := c5) (by omega) (by omega)
                obtain ⟨z, c7, e7, w7, q7, q7'⟩ := of_ok hd (c := c6) (by omega) (by omega) [(⟨#[97]⟩ : ByteArray), (⟨#[97]⟩ : ByteArray), (⟨#[98]⟩ : ByteArray), w] (by simp) (by simp) (fun s => s.size ≤ 20) (by
                  intro z hz
                  simp only [List.mem_cons, List.not_mem_nil, or_false] at hz
                  rcases hz with rfl | rfl | rfl | rfl
                  · decide
                  · decide
                  · decide
                  · exact w6)
                obtain ⟨l, c', f1, f2⟩ := ihf (y - 1) c7 (bs ++ [(⟨kd, v2, z⟩ : S46)]) (by omega) (by omega) (by rw [List.length_append, List.length_singleton]; omega) (fun s hs' => by
                  rcases List.mem_append.1 hs' with q | q
                  · exact hs s q
                  · rw [List.mem_singleton.1 q]; exact w7) (by omega) (by omega)
                refine ⟨l, c', Ev.step (fun k => spec_rnd_mods.j2.eq_2 ..) ?_, f2⟩
                simp only [if_true, e6, Option.bind_some, e7, if_pos (show bs.length < 4398046511104 by omega), ew]
                exact f1
              | false =>
                obtain ⟨l, c', f1, f2⟩ := ihf (y - 1) c5 (bs ++ [(⟨kd, v2, (⟨#[]⟩ : ByteArray)⟩ : S46)]) (by omega) (by omega) (by rw [List.length_append, List.length_singleton]; omega) (fun s hs' => by
                  rcases List.mem_append.1 hs' with q | q
                  · exact hs s q
                  · rw [List.mem_singleton.1 q]; show (⟨#[]⟩ : ByteArray).size ≤ 20; decide) (by omega) (by omega)
                refine ⟨l, c', Ev.step (fun k => spec_rnd_mods.j2.eq_2 ..) ?_, f2⟩
                simp only [Bool.false_eq_true, if_false, if_pos (show bs.length < 4398046511104 by omega), ew]
                exact f1
            by_cases hk : kd = 3
            · obtain ⟨l, c', f1, f2⟩ := go true
              refine ⟨l, c', Ev.step (fun k => spec_rnd_mods.l1.eq_2 ..) ?_, f2⟩
              simp only [if_pos hy0, e3, Option.bind_some, e4, e5, if_pos hk]
              exact f1
            · obtain ⟨l, c', f1, f2⟩ := go (kd == 4)
              refine ⟨l, c', Ev.step (fun k => spec_rnd_mods.l1.eq_2 ..) ?_, f2⟩
              simp only [if_pos hy0, e3, Option.bind_some, e4, e5, if_neg hk]
              exact f1
          · exact stop y c2 bs hy0 (by omega) hs k1 (by omega)
      obtain ⟨l, c', f1, f2⟩ := inner 5 v c1 [] (by omega) (by omega) (by simp) (by simp) (by omega) (by omega)
      refine ⟨l, c', Ev.step (fun k => spec_rnd_mods.l0.eq_2 ..) ?_, f2⟩
      simp only [if_pos hlt, hv, Option.bind_some]
      exact f1
    · refine ⟨acc, c, Ev.step (fun k => spec_rnd_mods.l0.eq_2 ..) ?_, ⟨by have := hf.1; omega, hf.2⟩, by omega, by omega⟩
      simp only [if_neg hlt]
      exact Ev.now _
theorem mods_ev {d : List Int} (hd : Bytes d) {c : Int} (h0 : 0 ≤ c) (h1 : c ≤ 1000) : ∃ l c', Ev (fun k => spec_rnd_mods.f k d c) (l, c') ∧ Sm l 10 ∧ c ≤ c' ∧ c' ≤ c + 10000 := by
  obtain ⟨v, c1, hv, g0, g1, g2, g3⟩ := pick_ok hd (n := 5) h0 (by omega)
  have g1 := g1 (by omega)
  have ew : wrap64 (1 + v) = 1 + v := wr (by omega) (by omega)
  obtain ⟨l, c', f1, f2, f3, f4⟩ := mods_l hd (1 + v) (by omega) 7 0 0 c1 [] rfl (by omega) ⟨by simp, by simp⟩ (by omega) (by omega) (by omega)
  refine ⟨l, c', ?_, ⟨by have := f2.1; omega, f2.2⟩, by omega, by omega⟩
  unfold spec_rnd_mods.f
  simp only [hv, Option.bind_some, ew]
  exact f1
theorem Sm.bnd {l : List S44} (h : Sm l 10) : Bnd l := ⟨by have := h.1; unfold maxLen; omega, fun m hm => ⟨by have := (h.2 m hm).1; unfold maxLen; omega, fun s hs => by have := (h.2 m hm).2 s hs; unfold maxLen; omega⟩⟩
theorem drawn {code : List Int} (h0 : ¬ (code.length : Int) > 1048576) (h1 : ∀ x ∈ code, (Lit.int .u8 x).wf = true) : ∃ d l c a c2 a' c3, spec_newRnd.f code = some (d, 0) ∧ Ev (fun k => spec_rnd_mods.f k d 0) (l, c) ∧ Bnd l ∧ spec_rnd_pick.f d c (l.length : Int) = some (a, c2) ∧ spec_rnd_often.f d c2 a = some (a', c3) ∧ I64 a' := by
  obtain ⟨d, e1, e2, e3⟩ := newRnd_ok (Bytes.of h0 h1)
  obtain ⟨l, c, f1, f2, f3, f4⟩ := mods_ev e2 (c := 0) (by omega) (by omega)
  obtain ⟨a, c2, g1, g2, g3, g4, g5⟩ := pick_ok e2 (c := c) (n := (l.length : Int)) (by omega) (by omega)
  have hl := f2.1
  obtain ⟨a', c3, k1, k2, k3, k4⟩ := often_in e2 (c := c2) (by omega) (by omega) a (by
    unfold I64
    by_cases hm0 : 1 ≤ (l.length : Int)
    · have := g3 hm0; omega
    · have : a = 0 := by
        unfold spec_rnd_pick.f at g1
        rw [if_pos (by omega)] at g1
        simp at g1
        exact g1.1.symm
      omega)
  exact ⟨d, l, c, a, c2, a', c3, e1, f1, f2.bnd, g1, k1, k2⟩
end Go.Proofs.Ytjipapldfjhnnaa.MO
