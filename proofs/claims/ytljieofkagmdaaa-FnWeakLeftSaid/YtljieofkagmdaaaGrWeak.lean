/- Weak references, for the program. -/
import Derived.Test.YtljieofkagmdaaaGrEv5
import Derived.Test.YtljieofkagmdaaaQ16
set_option linter.unusedSimpArgs false
set_option linter.unusedVariables false
namespace Go.Proofs.Ytljieofkagmdaaa.GE
open Go.RowKit Go.Proofs.Ytljieofkagmdaaa.Q Go.Proofs.YtljieofkagmdaaaW.PrintWords Go.Proofs.GR

def wok (n : Nat) (w : List Int) : Bool := w.all fun x => decide (-1 ≤ x ∧ x < (n : Int))
theorem wok_cons {n : Nat} {x : Int} {l : List Int} : wok n (x :: l) = (decide (-1 ≤ x ∧ x < (n : Int)) && wok n l) := by simp [wok]
theorem wok_iff {n : Nat} {l : List Int} : wok n l = true ↔ ∀ x ∈ l, -1 ≤ x ∧ x < (n : Int) := by simp [wok, List.all_eq_true]
def left (f : List Bool) (x : Int) : Int := if x ≥ 0 ∧ f.getD x.toNat false = true then x else -1
noncomputable def weakR (g : List (List Int)) (r w : List Int) : List Int := if (okG g && okR g r) = true ∧ w.length ≤ 12 ∧ wok g.length w = true then w.map (left (flags g r)) else []
theorem map_take_drop {f : Int → Int} {w : List Int} {n : Nat} (h : n < w.length) : (w.take (n + 1)).map f ++ w.drop (n + 1) = ((w.take n).map f ++ w.drop n).set n (f (w.getD n 0)) := by
  rw [take_succ (d := (0 : Int)) h, List.map_append, drop_cons (d := (0 : Int)) h, List.set_append]
  have hl : ((w.take n).map f).length = n := by rw [List.length_map, List.length_take]; omega
  rw [if_neg (by omega), hl, Nat.sub_self, List.set_cons_zero]
  simp
theorem impl_Weak_l0 (g : List (List Int)) (f : List Bool) (hf : f.length = g.length) (hgl : g.length ≤ 100000) (w : List Int) (hw : w.length ≤ 12) : ∀ (d n : Nat) (i : Int), i = n → n ≤ w.length → w.length - n ≤ d →
    Ev (fun k => impl_WeakLeft.l0 k g f ((w.take n).map (left f) ++ w.drop n) w w.length i) (if wok g.length (w.drop n) = true then w.map (left f) else []) := by
  have stop : ∀ (n : Nat) (i : Int), i = n → n = w.length → Ev (fun k => impl_WeakLeft.l0 k g f ((w.take n).map (left f) ++ w.drop n) w w.length i) (if wok g.length (w.drop n) = true then w.map (left f) else []) := by
    intro n i hi hn
    refine Ev.step (fun k => impl_WeakLeft.l0.eq_2 ..) ?_
    simp only [if_neg (show ¬ i < (w.length : Int) by omega)]
    rw [hn, List.drop_length, List.take_length, if_pos (by rfl), List.append_nil]
    exact Ev.now _
  intro d
  induction d with
  | zero => intro n i hi hn hd; exact stop n i hi (by omega)
  | succ d ih =>
    intro n i hi hn hd
    rcases Nat.lt_or_ge n w.length with hlt | hge
    · have h1 := ih (n + 1) (i + 1) (by omega) (by omega) (by omega)
      rw [map_take_drop hlt] at h1
      have hcl : ((w.take n).map (left f) ++ w.drop n).length = w.length := by rw [List.length_append, List.length_map, List.length_take, List.length_drop]; omega
      have hself : ((w.take n).map (left f) ++ w.drop n).getD n 0 = w.getD n 0 := by
        have hl : ((w.take n).map (left f)).length = n := by rw [List.length_map, List.length_take]; omega
        rw [List.getD_eq_getElem?_getD, List.getElem?_append_right (by omega), hl, Nat.sub_self, drop_cons (d := (0 : Int)) hlt]; rfl
      generalize (w.take n).map (left f) ++ w.drop n = C at *
      have j2 : ∀ (b : Bool), b = !(decide (-1 ≤ w.getD n 0 ∧ w.getD n 0 < (g.length : Int))) → Ev (fun k => impl_WeakLeft.j2 k g f C i (w.getD n 0) w w.length i b) (if wok g.length (w.drop n) = true then w.map (left f) else []) := by
        intro b hb
        refine Ev.step (fun k => impl_WeakLeft.j2.eq_2 ..) ?_
        rw [drop_cons (d := (0 : Int)) hlt, wok_cons]
        by_cases c : -1 ≤ w.getD n 0 ∧ w.getD n 0 < (g.length : Int)
        · rw [decide_eq_true c, Bool.not_true] at hb
          subst hb
          rw [decide_eq_true c, Bool.true_and]
          simp only [Bool.false_eq_true, if_false, w64 (x := i + 1) (by omega) (by omega)]
          by_cases c1 : w.getD n 0 ≥ 0
          · simp only [if_pos c1, if_pos (show 0 ≤ w.getD n 0 from c1), if_pos (show w.getD n 0 < (f.length : Int) by omega)]
            rw [show rdOf false f (w.getD n 0) = f.getD (w.getD n 0).toNat false from rfl]
            by_cases c2 : f.getD (w.getD n 0).toNat false = true
            · simp only [if_pos c2]
              have e : left f (w.getD n 0) = w.getD n 0 := by unfold left; rw [if_pos ⟨c1, c2⟩]
              have e2 : C.set n (w.getD n 0) = C := by
                refine ext_getD (d := (0 : Int)) (by simp) (fun j hj => ?_)
                rw [getD_set (by omega)]
                split
                · rename_i q; rw [← q]; exact hself.symm
                · rfl
              rw [e, e2] at h1
              exact h1
            · simp only [if_neg c2, if_pos (show 0 ≤ i by omega), if_pos (show i < (C.length : Int) by omega)]
              have e : left f (w.getD n 0) = -1 := by unfold left; rw [if_neg (fun q => c2 q.2)]
              rw [e] at h1
              rw [show i.toNat = n by omega]
              exact h1
          · simp only [if_neg c1]
            have e : left f (w.getD n 0) = w.getD n 0 := by unfold left; rw [if_neg (fun q => c1 q.1)]; omega
            have e2 : C.set n (w.getD n 0) = C := by
              refine ext_getD (d := (0 : Int)) (by simp) (fun j hj => ?_)
              rw [getD_set (by omega)]
              split
              · rename_i q; rw [← q]; exact hself.symm
              · rfl
            rw [e, e2] at h1
            exact h1
        · rw [decide_eq_false c, Bool.not_false] at hb
          subst hb
          rw [decide_eq_false c, Bool.false_and]
          simp only [if_true, Bool.false_eq_true, if_false]
          exact Ev.now _
      refine Ev.step (fun k => impl_WeakLeft.l0.eq_2 ..) ?_
      simp only [if_pos (show i < (w.length : Int) by omega), if_pos (show 0 ≤ i by omega), rd_nat w n i hi]
      by_cases c : w.getD n 0 < -1
      · simp only [if_pos c]
        exact j2 true (by rw [decide_eq_false (by omega)]; rfl)
      · simp only [if_neg c]
        refine j2 _ ?_
        rw [← decide_not]
        rw [Bool.eq_iff_iff, decide_eq_true_eq, decide_eq_true_eq]
        omega
    · exact stop n i hi (by omega)
theorem impl_WeakLeft_ev (g : List (List Int)) (hz : Sz g) (r : List Int) (hr : r.length ≤ 100000) (w : List Int) (hw : w.length ≤ 100000) : Ev (fun k => impl_WeakLeft.f k g r w) (weakR g r w) := by
  have hgl := hz.len
  unfold impl_WeakLeft.f weakR
  have fail : Ev (fun k => impl_WeakLeft.j0 k g r w true) [] := by
    refine Ev.step (fun k => impl_WeakLeft.j0.eq_2 ..) ?_
    simp only [if_true]
    exact Ev.now _
  refine Ev.bind (impl_GraphOk_ev g hz r hr) ?_
  cases h : (okG g && okR g r) with
  | false =>
    rw [if_neg (by simp)]
    simp only [Bool.false_eq_true, if_false]
    exact fail
  | true =>
    simp only [if_true]
    by_cases c : (w.length : Int) > 12
    · rw [if_neg (fun q => by omega), decide_eq_true c]
      exact fail
    · rw [decide_eq_false c]
      obtain ⟨q1, q2, q3, q4⟩ := okGR h
      refine Ev.step (fun k => impl_WeakLeft.j0.eq_2 ..) ?_
      simp only [Bool.false_eq_true, if_false]
      refine Ev.bind (impl_reached_ev g (Gr.of q1) r q2 hr) ?_
      simp only [Clone_eq w (by omega), Option.bind_some]
      have := impl_Weak_l0 g (flags g r) (flags_length g r) (by omega) w (by omega) w.length 0 0 rfl (Nat.zero_le _) (by omega)
      rw [List.take_zero, List.map_nil, List.nil_append, List.drop_zero] at this
      by_cases hok : wok g.length w = true
      · rw [if_pos ⟨trivial, by omega, hok⟩]
        rw [if_pos hok] at this
        exact this
      · rw [if_neg (fun q => hok q.2.2)]
        rw [if_neg hok] at this
        exact this
end Go.Proofs.Ytljieofkagmdaaa.GE
