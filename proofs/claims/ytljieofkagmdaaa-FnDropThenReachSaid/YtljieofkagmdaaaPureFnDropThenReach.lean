/- Proved: dropping a root frees what counts alone kept; no condition beyond the statement's. -/
import Derived.Test.YtljieofkagmdaaaGrKept
import Derived.Test.YtljieofkagmdaaaGrSame
import Derived.Test.YtljieofkagmdaaaGrDrawDrop
import Derived.Test.YtljieofkagmdaaaQ10
import Derived.Test.YtljieofkagmdaaaQ25
set_option linter.unusedSimpArgs false
set_option linter.unusedVariables false
namespace Go.Proofs.Ytljieofkagmdaaa.Pure
open Go.RowKit Go.Proofs.Ytljieofkagmdaaa.Q Go.Proofs.YtljieofkagmdaaaW.PrintWords Go.Proofs.YtljieofkagmdaaaW.PrintLast Go.Proofs.GR Go.Proofs.Ytljieofkagmdaaa.GE Go.Proofs.Ytljieofkagmdaaa.RD

theorem dtr_l1 (O K : List Int) (hK : K.length ≤ 1000000) (hO : O.length ≤ 1000000) (h : ∀ x ∈ O, x ∉ K) : ∀ (e n : Nat) (i : Int), i = n → n ≤ O.length → O.length - n ≤ e → Ev (fun k => laws_FnDropThenReach.l1 k O K i) true := by
  have stop : ∀ (n : Nat) (i : Int), i = n → n = O.length → Ev (fun k => laws_FnDropThenReach.l1 k O K i) true := by
    intro n i hi hn
    refine Ev.step (fun k => laws_FnDropThenReach.l1.eq_2 ..) ?_
    simp only [if_neg (show ¬ i < (O.length : Int) by omega)]
    exact Ev.now _
  intro e
  induction e with
  | zero => intro n i hi hn he; exact stop n i hi (by omega)
  | succ e ih =>
    intro n i hi hn he
    rcases Nat.lt_or_ge n O.length with hlt | hge
    · have hx := getD_mem (d := (0 : Int)) hlt
      refine Ev.step (fun k => laws_FnDropThenReach.l1.eq_2 ..) ?_
      simp only [if_pos (show i < (O.length : Int) by omega), if_pos (show 0 ≤ i by omega), rd_nat O n i hi]
      refine Ev.bind (HasInt_ev K _ (by omega)) ?_
      simp only [decide_eq_false (h _ hx), Bool.false_eq_true, if_false]
      rw [w64 (x := i + 1) (by omega) (by omega)]
      exact ih (n + 1) (i + 1) (by omega) (by omega) (by omega)
    · exact stop n i hi (by omega)
theorem dtr_l0 (O K K' : List Int) (hK : K.length ≤ 1000000) (hK' : K'.length ≤ 1000000) (hO : O.length ≤ 1000000) (h : ∀ x ∈ O, x ∉ K') (h2 : ∀ x ∈ K', x ∈ K) : ∀ (e n : Nat) (i : Int), i = n → n ≤ K'.length → K'.length - n ≤ e → Ev (fun k => laws_FnDropThenReach.l0 k O K K' i) true := by
  have stop : ∀ (n : Nat) (i : Int), i = n → n = K'.length → Ev (fun k => laws_FnDropThenReach.l0 k O K K' i) true := by
    intro n i hi hn
    refine Ev.step (fun k => laws_FnDropThenReach.l0.eq_2 ..) ?_
    simp only [if_neg (show ¬ i < (K'.length : Int) by omega)]
    exact dtr_l1 O K' hK' hO h _ 0 0 rfl (Nat.zero_le _) (Nat.le_refl _)
  intro e
  induction e with
  | zero => intro n i hi hn he; exact stop n i hi (by omega)
  | succ e ih =>
    intro n i hi hn he
    rcases Nat.lt_or_ge n K'.length with hlt | hge
    · have hx := getD_mem (d := (0 : Int)) hlt
      refine Ev.step (fun k => laws_FnDropThenReach.l0.eq_2 ..) ?_
      simp only [if_pos (show i < (K'.length : Int) by omega), if_pos (show 0 ≤ i by omega), rd_nat K' n i hi]
      refine Ev.bind (HasInt_ev K _ (by omega)) ?_
      simp only [decide_eq_true (h2 _ hx), if_true]
      rw [w64 (x := i + 1) (by omega) (by omega)]
      exact ih (n + 1) (i + 1) (by omega) (by omega) (by omega)
    · exact stop n i hi (by omega)

theorem dtr_j0 (g : List (List Int)) (r : List Int) (m : Nat) (hm : m < r.length) (hrl : r.length ≤ 200) (O K K' : List Int) (hK : K.length ≤ 1000000) (hK' : K'.length ≤ 1000000) (hO : O.length ≤ 1000000) (h : ∀ x ∈ O, x ∉ K') (h2 : ∀ x ∈ K', x ∈ K)
    (q1 : Ev (fun k => impl_KeptBy.f k g r) K) (s1 : Ev (fun k => impl_KeptBy.f k g (without r m)) K') : Ev (fun k => laws_FnDropThenReach.j0 k g r (m : Int) O false) true := by
  refine Ev.step (fun k => laws_FnDropThenReach.j0.eq_2 ..) ?_
  simp only [Bool.false_eq_true, if_false]
  refine Ev.bind q1 ?_
  have htl : (r.take m).length = m := by rw [List.length_take]; omega
  have hdl : (r.drop (m + 1)).length = r.length - (m + 1) := List.length_drop
  have hw1 : wrap64 ((m : Int) + 1) = ((m + 1 : Nat) : Int) := by rw [w64 (by omega) (by omega)]; rfl
  simp only [Option.bind_some, if_pos (show 0 ≤ (m : Int) by omega), if_pos (show (m : Int) ≤ (r.length : Int) by omega), Int.toNat_natCast, List.length_nil, Nat.zero_add, htl, if_pos (show m < 17592186044416 by omega), hw1, if_pos (show 0 ≤ ((m + 1 : Nat) : Int) by omega), if_pos (show ((m + 1 : Nat) : Int) ≤ (r.length : Int) by omega), List.nil_append, hdl, if_pos (show m + (r.length - (m + 1)) < 17592186044416 by omega)]
  refine Ev.bind s1 ?_
  exact dtr_l0 O K K' hK hK' hO h h2 _ 0 0 rfl (Nat.zero_le _) (Nat.le_refl _)

theorem FnDropThenReach : laws_FnDropThenReach.Pure := by
  intro l h0 h1 hw
  refine Ev.rounds (g := fun k => laws_FnDropThenReach.f k l) ?_
  unfold laws_FnDropThenReach.f
  by_cases c0 : (l.length : Int) > 1048576
  · simp only [if_pos c0]; exact Ev.now _
  · simp only [if_neg c0]
    obtain ⟨d, hn, hd, -⟩ := newRnd_ok (Bytes.of c0 hw)
    obtain ⟨g, r, at_, hdr, hsm, hrl⟩ := drawDrop_ev hn hd
    have hg1 := hsm.1
    have hz := hsm.sz
    obtain ⟨O, f1, f2, f3, f4⟩ := DropRoot_ev g hz r (by omega) at_
    refine Ev.bind hdr (Ev.bind f1 (Ev.bind f2 ?_))
    have hOl : O.length ≤ 1000000 := by
      by_cases hok : okD g r at_
      · have hch := (f4 hok).1
        have := nodup_len hch.nodup hch.idx
        omega
      · rw [f3 hok]; simp
    refine Ev.bind (SameInts_ev O O hOl) ?_
    simp only [decide_true, if_true]
    refine Ev.bind (impl_GraphOk_ev g hz r (by omega)) ?_
    have fail : ¬ okD g r at_ → Ev (fun k => laws_FnDropThenReach.j0 k g r at_ O true) true := by
      intro hok
      rw [f3 hok]
      refine Ev.step (fun k => laws_FnDropThenReach.j0.eq_2 ..) ?_
      simp only [if_true, List.length_nil, Int.natCast_zero]
      exact Ev.now _
    by_cases ho : (okG g && okR g r) = true
    · simp only [ho, if_true]
      by_cases a0 : at_ < 0
      · simp only [if_pos a0]
        exact fail fun h => by have := h.2.1; omega
      · simp only [if_neg a0]
        by_cases a1 : at_ ≥ (r.length : Int)
        · rw [decide_eq_true a1]
          exact fail fun h => by have := h.2.2; omega
        · rw [decide_eq_false a1]
          have hok : okD g r at_ := ⟨ho, by omega, by omega⟩
          obtain ⟨k1, k2, k3, k4⟩ := okGR ho
          have hg := Gr.of k1
          obtain ⟨hch, -⟩ := f4 hok
          obtain ⟨m, rfl⟩ := Int.eq_ofNat_of_zero_le (show 0 ≤ at_ by omega)
          rw [show ((m : Int)).toNat = m from Int.toNat_natCast m] at hch
          have hm : m < r.length := by omega
          have hwl := without_len r m
          have k2' : ∀ x ∈ without r m, 0 ≤ x ∧ x < (g.length : Int) := fun x hx => k2 x (without_sub hx)
          have ho' : (okG g && okR g (without r m)) = true := by
            rw [Bool.and_eq_true]
            refine ⟨k1, ?_⟩
            unfold okR
            rw [Bool.and_eq_true]
            exact ⟨idx_iff.2 k2', by simp; omega⟩
          obtain ⟨K, q1, -, ql, -, q4⟩ := KeptBy_ev g hz r (by omega)
          obtain ⟨F, hF1, hF2, rfl⟩ := q4 ho
          obtain ⟨K', s1, -, sl, -, s4⟩ := KeptBy_ev g hz (without r m) (by omega)
          obtain ⟨F', hF1', hF2', rfl⟩ := s4 ho'
          have hcle : ∀ x, (without r m).count x ≤ r.count x := fun x => by have := count_without hm x; omega
          have hFF : ∀ x ∈ F, x ∈ F' := hF1.sub hg hcle hF2'
          have hOF : ∀ x ∈ O, x ∈ F' := hch.sub hg (fun x => Nat.le_refl _) hF2'
          exact dtr_j0 g r m hm hrl O (keepTo F g.length) (keepTo F' g.length) (by omega) (by omega) hOl (fun x hx q => (mem_keepTo.1 q).2 (hOF _ hx)) (fun x hx => mem_keepTo.2 ⟨(mem_keepTo.1 hx).1, fun q => (mem_keepTo.1 hx).2 (hFF _ q)⟩) q1 s1
    · simp only [ho, Bool.false_eq_true, if_false]
      exact fail fun h => ho h.1

end Go.Proofs.Ytljieofkagmdaaa.Pure
