/- The reference's drawing of classes: it always answers, with few. -/
import Derived.Test.YtdlobdhpledbfaaRndOften
import Derived.Test.YtdlobdhpledbfaaClTop
import Derived.Test.YtdlobdhpledbfaaQ0
import Derived.Test.YtdlobdhpledbfaaQ7
import Derived.Test.YtdlobdhpledbfaaQ8
import Derived.Test.YtdlobdhpledbfaaQ9
import Derived.Test.YtdlobdhpledbfaaQ12
import Derived.Test.YtdlobdhpledbfaaQ13
import Derived.Test.YtdlobdhpledbfaaQ19
set_option linter.unusedSimpArgs false
set_option linter.unusedVariables false
namespace Go.Proofs.Ytdlobdhpledbfaa.CL
open Go.RowKit Go.Proofs.Ytdlobdhpledbfaa.Q Go.Proofs.YtdlobdhpledbfaaW.PrintWords Go.Proofs.GR Go.Proofs.Ytdlobdhpledbfaa.GE Go.Proofs.Ytdlobdhpledbfaa.RD
theorem attrs_l {d : List Int} (hd : Bytes d) (nm : List ByteArray) (hn : nm.length = 3) : ∀ (e n : Nat) (x c : Int) (acc : List S64), x = n → n + e = 3 → acc.length + e ≤ 10 → 0 ≤ c → c + 20 * e ≤ 1000000 →
    ∃ l c', Ev (fun k => spec_rnd_attrs.l0 k true acc nm x d c) (l, c') ∧ c ≤ c' ∧ c' ≤ c + 20 * e := by
  intro e
  induction e with
  | zero =>
    intro n x c acc hx he ha h0 h1
    refine ⟨acc, c, Ev.step (fun k => spec_rnd_attrs.l0.eq_2 ..) ?_, by omega, by omega⟩
    simp only [if_neg (show ¬ x < (nm.length : Int) by omega)]
    exact Ev.now _
  | succ e ih =>
    intro n x c acc hx he ha h0 h1
    obtain ⟨v, c1, hv, g0, g1, g2, g3⟩ := pick_ok hd (n := 2) h0 (by omega)
    have ew : wrap64 (x + 1) = x + 1 := wr (by omega) (by omega)
    by_cases hv0 : v = 0
    · obtain ⟨k1, c2, e2, _, q2, q2'⟩ := one_ok hd (c := c1) (by omega) (by omega) [1, 2, 3] (by simp) (by simp) (fun _ => True) (by simp)
      obtain ⟨k2, c3, e3, q3, q3'⟩ := often_ok hd (c := c2) (by omega) (by omega) k1
      obtain ⟨k3, c4, e4, _, _, q4, q4'⟩ := pick_ok hd (c := c3) (n := 20) (by omega) (by omega)
      obtain ⟨k4, c5, e5, q5, q5'⟩ := often_ok hd (c := c4) (by omega) (by omega) k3
      obtain ⟨l, c', f1, f2, f3⟩ := ih (n + 1) (x + 1) c5 (acc ++ [(⟨rdOf ByteArray.empty nm x, k2, k4⟩ : S64)]) (by omega) (by omega) (by rw [List.length_append, List.length_singleton]; omega) (by omega) (by omega)
      refine ⟨l, c', Ev.step (fun k => spec_rnd_attrs.l0.eq_2 ..) ?_, by omega, by omega⟩
      simp only [if_pos (show x < (nm.length : Int) by omega), hv, Option.bind_some, if_pos hv0, if_true, e2, e3, e4, e5, if_pos (show (0 : Int) ≤ x by omega), if_pos (show acc.length < 4398046511104 by omega), ew]
      exact f1
    · obtain ⟨l, c', f1, f2, f3⟩ := ih (n + 1) (x + 1) c1 acc (by omega) (by omega) (by omega) (by omega) (by omega)
      refine ⟨l, c', Ev.step (fun k => spec_rnd_attrs.l0.eq_2 ..) ?_, by omega, by omega⟩
      simp only [if_pos (show x < (nm.length : Int) by omega), hv, Option.bind_some, if_neg hv0, ew]
      exact f1
theorem attrs_ev {d : List Int} (hd : Bytes d) {c : Int} (h0 : 0 ≤ c) (h1 : c ≤ 900000) : ∃ l c', Ev (fun k => spec_rnd_attrs.f k d c true) (l, c') ∧ c ≤ c' ∧ c' ≤ c + 60 := by
  unfold spec_rnd_attrs.f
  obtain ⟨l, c', f1, f2, f3⟩ := attrs_l hd [(⟨#[97]⟩ : ByteArray), (⟨#[98]⟩ : ByteArray), (⟨#[99]⟩ : ByteArray)] rfl 3 0 0 c [] rfl rfl (by simp) h0 (by omega)
  exact ⟨l, c', f1, f2, by omega⟩
/-- Classes as they are drawn. -/
def Few (l : List S55) (n : Nat) : Prop := l.length ≤ n ∧ ∀ x ∈ l, x.f0.length ≤ 10
theorem classes_l {d : List Int} (hd : Bytes d) (m : Int) (hm : m ≤ 7) : ∀ (e n : Nat) (x c : Int) (acc : List S55), x = n → m - x ≤ e → 0 ≤ m - x → Few acc n → n + e ≤ 10 → 0 ≤ c → c + 100 * e ≤ 100000 →
    ∃ l c', Ev (fun k => spec_rnd_classes.l0 k acc m x d c) (l, c') ∧ Few l (n + e) ∧ c ≤ c' ∧ c' ≤ c + 100 * e := by
  intro e
  induction e with
  | zero =>
    intro n x c acc hx h1 h2 hf hn h0 hc
    refine ⟨acc, c, Ev.step (fun k => spec_rnd_classes.l0.eq_2 ..) ?_, hf, by omega, by omega⟩
    simp only [if_neg (show ¬ x < m by omega)]
    exact Ev.now _
  | succ e ih =>
    intro n x c acc hx h1 h2 hf hn h0 hc
    by_cases hlt : x < m
    · obtain ⟨v, c1, hv, g0, g1, g2, g3⟩ := pick_ok hd (n := 4) h0 (by omega)
      have g1 := g1 (by omega)
      have inner : ∀ (f : Nat) (y c2 : Int) (bs : List Int), y ≤ f → f ≤ 3 → bs.length + f ≤ 3 → c1 ≤ c2 → c2 + 3 * f ≤ c1 + 9 → ∃ l c', Ev (fun k => spec_rnd_classes.l1 k acc m x y d c2 bs) (l, c') ∧ Few l (n + (e + 1)) ∧ c ≤ c' ∧ c' ≤ c + 100 * ((e + 1 : Nat) : Int) := by
        intro f
        have stop : ∀ (y c2 : Int) (bs : List Int), ¬ y > 0 → bs.length ≤ 3 → c1 ≤ c2 → c2 ≤ c1 + 9 → ∃ l c', Ev (fun k => spec_rnd_classes.l1 k acc m x y d c2 bs) (l, c') ∧ Few l (n + (e + 1)) ∧ c ≤ c' ∧ c' ≤ c + 100 * ((e + 1 : Nat) : Int) := by
          intro y c2 bs hy hb k1 k2
          obtain ⟨ats, c3, e3, q3, q3'⟩ := attrs_ev hd (c := c2) (by omega) (by omega)
          obtain ⟨l, c', f1, f2, f3, f4⟩ := ih (n + 1) (x + 1) c3 (acc ++ [(⟨bs, ats⟩ : S55)]) (by omega) (by omega) (by omega) ⟨by rw [List.length_append, List.length_singleton]; have := hf.1; omega, fun z hz => by
            rcases List.mem_append.1 hz with q | q
            · exact hf.2 z q
            · rw [List.mem_singleton.1 q]; show bs.length ≤ 10; omega⟩ (by omega) (by omega) (by omega)
          refine ⟨l, c', Ev.step (fun k => spec_rnd_classes.l1.eq_2 ..) ?_, ⟨by have := f2.1; omega, f2.2⟩, by omega, by omega⟩
          simp only [if_neg hy]
          refine Ev.bind e3 ?_
          simp only [if_pos (show acc.length < 2932031007402 by have := hf.1; omega), wr (x := x + 1) (by omega) (by omega)]
          exact f1
        induction f with
        | zero => intro y c2 bs hy _ hb k1 k2; exact stop y c2 bs (by omega) (by omega) k1 (by omega)
        | succ f ihf =>
          intro y c2 bs hy hf3 hb k1 k2
          by_cases hy0 : y > 0
          · obtain ⟨v1, c3, e3, _, _, q3, q3'⟩ := pick_ok hd (c := c2) (n := mx 1 x) (by omega) (by omega)
            obtain ⟨v2, c4, e4, q4, q4'⟩ := often_ok hd (c := c3) (by omega) (by omega) v1
            have ew : wrap64 (y - 1) = y - 1 := wr (by omega) (by omega)
            by_cases hx0 : x > 0
            · by_cases hin : v2 ∈ bs
              · obtain ⟨l, c', f1, f2⟩ := ihf (y - 1) c4 bs (by omega) (by omega) (by omega) (by omega) (by omega)
                refine ⟨l, c', Ev.step (fun k => spec_rnd_classes.l1.eq_2 ..) ?_, f2⟩
                simp only [if_pos hy0, e3, Option.bind_some, e4, if_pos hx0]
                refine Ev.bind (inList_ev bs v2 (by omega)) ?_
                simp only [decide_eq_true hin, if_true, ew]
                exact f1
              · obtain ⟨l, c', f1, f2⟩ := ihf (y - 1) c4 (bs ++ [v2]) (by omega) (by omega) (by rw [List.length_append, List.length_singleton]; omega) (by omega) (by omega)
                refine ⟨l, c', Ev.step (fun k => spec_rnd_classes.l1.eq_2 ..) ?_, f2⟩
                simp only [if_pos hy0, e3, Option.bind_some, e4, if_pos hx0]
                refine Ev.bind (inList_ev bs v2 (by omega)) ?_
                simp only [decide_eq_false hin, Bool.false_eq_true, if_false, if_pos (show bs.length < 17592186044416 by omega), ew]
                exact f1
            · obtain ⟨l, c', f1, f2⟩ := ihf (y - 1) c4 bs (by omega) (by omega) (by omega) (by omega) (by omega)
              refine ⟨l, c', Ev.step (fun k => spec_rnd_classes.l1.eq_2 ..) ?_, f2⟩
              simp only [if_pos hy0, e3, Option.bind_some, e4, if_neg hx0, ew]
              exact f1
          · exact stop y c2 bs hy0 (by omega) k1 (by omega)
      obtain ⟨l, c', f1, f2⟩ := inner 3 v c1 [] (by omega) (by omega) (by simp) (by omega) (by omega)
      refine ⟨l, c', Ev.step (fun k => spec_rnd_classes.l0.eq_2 ..) ?_, f2⟩
      simp only [if_pos hlt, hv, Option.bind_some]
      exact f1
    · refine ⟨acc, c, Ev.step (fun k => spec_rnd_classes.l0.eq_2 ..) ?_, ⟨by have := hf.1; omega, hf.2⟩, by omega, by omega⟩
      simp only [if_neg hlt]
      exact Ev.now _
theorem classes_ev {d : List Int} (hd : Bytes d) {c : Int} (h0 : 0 ≤ c) (h1 : c ≤ 1000) : ∃ l c', Ev (fun k => spec_rnd_classes.f k d c) (l, c') ∧ Few l 10 ∧ c ≤ c' ∧ c' ≤ c + 10000 := by
  obtain ⟨v, c1, hv, g0, g1, g2, g3⟩ := pick_ok hd (n := 7) h0 (by omega)
  have g1 := g1 (by omega)
  obtain ⟨l, c', f1, f2, f3, f4⟩ := classes_l hd v (by omega) 7 0 0 c1 [] rfl (by omega) (by omega) ⟨by simp, by simp⟩ (by omega) (by omega) (by omega)
  refine ⟨l, c', ?_, ⟨by have := f2.1; omega, f2.2⟩, by omega, by omega⟩
  unfold spec_rnd_classes.f
  simp only [hv, Option.bind_some]
  exact f1
theorem basesOf_l (cs : List S55) (hl : cs.length ≤ 1000) : ∀ (e n : Nat) (acc : List (List Int)), cs.length - n = e → n ≤ cs.length → acc = (cs.take n).map S55.f0 → Ev (fun k => spec_basesOf.l0 k cs acc (n : Int)) (cs.map S55.f0) := by
  intro e
  induction e with
  | zero =>
    intro n acc h1 h2 h3
    obtain rfl : n = cs.length := by omega
    refine Ev.step (fun k => spec_basesOf.l0.eq_2 ..) ?_
    simp only [if_neg (show ¬ (cs.length : Int) < (cs.length : Int) by omega), h3, List.take_length]
    exact Ev.now _
  | succ e ih =>
    intro n acc h1 h2 h3
    have hn : n < cs.length := by omega
    have hr : rd_T55 cs (n : Int) = cs[n] := by unfold rd_T55; simp [hn]
    refine Ev.step (fun k => spec_basesOf.l0.eq_2 ..) ?_
    have hal : acc.length = n := by rw [h3]; simp; omega
    simp only [if_pos (show (n : Int) < (cs.length : Int) by omega), if_pos (show (0 : Int) ≤ (n : Int) by omega), if_pos (show acc.length < 5864062014805 by omega), wr1 (show n ≤ 1000000 by omega), hr]
    refine ih (n + 1) _ (by omega) (by omega) ?_
    rw [List.take_succ_eq_append_getElem hn, List.map_append, h3]
    rfl
/-- Bases as they are drawn. -/
theorem drawn {code : List Int} (h0 : ¬ (code.length : Int) > 1048576) (h1 : ∀ x ∈ code, (Lit.int .u8 x).wf = true) : ∃ d cs c, spec_newRnd.f code = some (d, 0) ∧ Bytes d ∧ Ev (fun k => spec_rnd_classes.f k d 0) (cs, c) ∧ 0 ≤ c ∧ c ≤ 10000 ∧ Ev (fun k => spec_basesOf.f k cs) (cs.map S55.f0) ∧ BSz (cs.map S55.f0) := by
  obtain ⟨d, e1, e2, e3⟩ := newRnd_ok (Bytes.of h0 h1)
  obtain ⟨cs, c, f1, f2, f3, f4⟩ := classes_ev e2 (c := 0) (by omega) (by omega)
  refine ⟨d, cs, c, e1, e2, f1, f3, by omega, basesOf_l cs (by have := f2.1; omega) _ 0 [] rfl (by omega) rfl, ?_, fun l hl => ?_⟩
  · rw [List.length_map]; have := f2.1; omega
  · obtain ⟨x, hx, rfl⟩ := List.mem_map.1 hl
    have := f2.2 x hx; omega
theorem draw_bases {code : List Int} (h0 : ¬ (code.length : Int) > 1048576) (h1 : ∀ x ∈ code, (Lit.int .u8 x).wf = true) : ∃ g, Ev (fun k => spec_DrawBasesOk.f k code) g ∧ BSz g := by
  obtain ⟨d, cs, c, e1, e2, e3, e4, e5, e6, e7⟩ := drawn h0 h1
  refine ⟨_, ?_, e7⟩
  unfold spec_DrawBasesOk.f
  simp only [e1, Option.bind_some]
  exact Ev.bind e3 (Ev.bind e6 (Ev.now _))
theorem draw_mro {code : List Int} (h0 : ¬ (code.length : Int) > 1048576) (h1 : ∀ x ∈ code, (Lit.int .u8 x).wf = true) : ∃ g a, Ev (fun k => spec_DrawMroOf.f k code) (g, a) ∧ BSz g := by
  obtain ⟨d, cs, c, e1, e2, e3, e4, e5, e6, e7⟩ := drawn h0 h1
  obtain ⟨v1, c1, f1, _, _, q1, q1'⟩ := pick_ok e2 (c := c) (n := mx 1 ((cs.map S55.f0).length : Int)) (by omega) (by omega)
  obtain ⟨v2, c2, f2, q2, q2'⟩ := often_ok e2 (c := c1) (by omega) (by omega) v1
  refine ⟨_, v2, ?_, e7⟩
  unfold spec_DrawMroOf.f
  simp only [e1, Option.bind_some]
  refine Ev.bind e3 (Ev.bind e6 ?_)
  simp only [f1, Option.bind_some, f2]
  exact Ev.now _
theorem draw_sub {code : List Int} (h0 : ¬ (code.length : Int) > 1048576) (h1 : ∀ x ∈ code, (Lit.int .u8 x).wf = true) : ∃ g a b, Ev (fun k => spec_DrawIsSub.f k code) (g, a, b) ∧ BSz g := by
  obtain ⟨d, cs, c, e1, e2, e3, e4, e5, e6, e7⟩ := drawn h0 h1
  obtain ⟨v1, c1, f1, _, _, q1, q1'⟩ := pick_ok e2 (c := c) (n := mx 1 ((cs.map S55.f0).length : Int)) (by omega) (by omega)
  obtain ⟨v2, c2, f2, q2, q2'⟩ := often_ok e2 (c := c1) (by omega) (by omega) v1
  obtain ⟨v3, c3, f3, _, _, q3, q3'⟩ := pick_ok e2 (c := c2) (n := mx 1 ((cs.map S55.f0).length : Int)) (by omega) (by omega)
  obtain ⟨v4, c4, f4, q4, q4'⟩ := often_ok e2 (c := c3) (by omega) (by omega) v3
  refine ⟨_, v2, v4, ?_, e7⟩
  unfold spec_DrawIsSub.f
  simp only [e1, Option.bind_some]
  refine Ev.bind e3 (Ev.bind e6 ?_)
  simp only [f1, Option.bind_some, f2, f3, f4]
  exact Ev.now _
end Go.Proofs.Ytdlobdhpledbfaa.CL
