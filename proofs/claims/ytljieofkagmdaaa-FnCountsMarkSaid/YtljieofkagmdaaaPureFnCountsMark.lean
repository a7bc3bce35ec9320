/- Proved: counts and marks agree without circles; no condition beyond the statement's. -/
import Derived.Test.YtljieofkagmdaaaGrKept
import Derived.Test.YtljieofkagmdaaaGrSame
import Derived.Test.YtljieofkagmdaaaGrDraw
import Derived.Test.YtljieofkagmdaaaQ18
import Derived.Test.YtljieofkagmdaaaQ27
set_option linter.unusedSimpArgs false
set_option linter.unusedVariables false
namespace Go.Proofs.Ytljieofkagmdaaa.Pure
open Go.RowKit Go.Proofs.Ytljieofkagmdaaa.Q Go.Proofs.YtljieofkagmdaaaW.PrintWords Go.Proofs.YtljieofkagmdaaaW.PrintLast Go.Proofs.GR Go.Proofs.Ytljieofkagmdaaa.GE Go.Proofs.Ytljieofkagmdaaa.RD

open Classical in
/-- How many objects are reached from one. -/
noncomputable def desc (g : List (List Int)) (x : Int) : Nat := ((allL g.length).filter fun y => decide (Rch g [x] y)).length
open Classical in
theorem desc_le (g : List (List Int)) (x : Int) : desc g x ≤ g.length := by
  have := List.length_filter_le (fun y => decide (Rch g [x] y)) (allL g.length)
  rw [allL_length] at this
  exact this
theorem filter_lt {p q : Int → Bool} {z : Int} : ∀ {l : List Int}, (∀ y, p y = true → q y = true) → z ∈ l → p z = false → q z = true → (l.filter p).length < (l.filter q).length := by
  have le : ∀ (l : List Int), (∀ y, p y = true → q y = true) → (l.filter p).length ≤ (l.filter q).length := by
    intro l h
    induction l with
    | nil => simp
    | cons a l ih =>
      cases hp : p a with
      | true => rw [List.filter_cons_of_pos hp, List.filter_cons_of_pos (h a hp)]; simpa using ih
      | false =>
        rw [List.filter_cons_of_neg (by simp [hp])]
        cases hq : q a with
        | true => rw [List.filter_cons_of_pos hq]; simp; omega
        | false => rw [List.filter_cons_of_neg (by simp [hq])]; exact ih
  intro l
  induction l with
  | nil => intro _ h; simp at h
  | cons a l ih =>
    intro h hz hpz hqz
    by_cases e : a = z
    · subst e
      rw [List.filter_cons_of_neg (by simp [hpz]), List.filter_cons_of_pos hqz]
      have := le l h
      simp; omega
    · have hz' : z ∈ l := by
        rcases List.mem_cons.1 hz with q | q
        · exact absurd q.symm e
        · exact q
      have := ih h hz' hpz hqz
      cases hp : p a with
      | true => rw [List.filter_cons_of_pos hp, List.filter_cons_of_pos (h a hp)]; simpa using this
      | false =>
        rw [List.filter_cons_of_neg (by simp [hp])]
        cases hq : q a with
        | true => rw [List.filter_cons_of_pos hq]; simp; omega
        | false => rw [List.filter_cons_of_neg (by simp [hq])]; exact this
open Classical in
theorem desc_lt {g : List (List Int)} (hac : ∀ x, 0 ≤ x ∧ x < (g.length : Int) → ¬ Rch g (row g x) x) {x z : Int} (hz : 0 ≤ z ∧ z < (g.length : Int)) (hx : x ∈ row g z) : desc g x < desc g z := by
  unfold desc
  refine filter_lt (z := z) (fun y hy => ?_) (mem_allL.2 hz) ?_ ?_
  · rw [decide_eq_true_eq] at hy ⊢
    exact hy.mono fun w hw => by rw [List.mem_singleton] at hw; rw [hw]; exact .step (.base (List.mem_singleton.2 rfl)) hx
  · rw [decide_eq_false_iff_not]
    intro h
    exact hac z hz (h.mono fun w hw => by rw [List.mem_singleton] at hw; rw [hw]; exact .base hx)
  · rw [decide_eq_true_eq]; exact .base (List.mem_singleton.2 rfl)
theorem kept_reached {g : List (List Int)} {r F : List Int} (hac : ∀ x, 0 ≤ x ∧ x < (g.length : Int) → ¬ Rch g (row g x) x) (hf : Full g r F) : ∀ (d : Nat) (x : Int), g.length - desc g x ≤ d → 0 ≤ x ∧ x < (g.length : Int) → x ∉ F → Rch g r x := by
  intro d
  induction d with
  | zero =>
    intro x hd hx hxF
    have hne : ¬ (r.count x + restc g F x = 0) := fun h => hxF (hf x hx h)
    rcases Nat.eq_zero_or_pos (restc g F x) with e | e
    · exact .base (List.count_pos_iff.1 (by omega))
    · obtain ⟨z, hz, hzF, hxz⟩ := restc_ex e
      have := desc_lt hac hz hxz
      have := desc_le g z
      omega
  | succ d ih =>
    intro x hd hx hxF
    have hne : ¬ (r.count x + restc g F x = 0) := fun h => hxF (hf x hx h)
    rcases Nat.eq_zero_or_pos (restc g F x) with e | e
    · exact .base (List.count_pos_iff.1 (by omega))
    · obtain ⟨z, hz, hzF, hxz⟩ := restc_ex e
      have h1 := desc_lt hac hz hxz
      have h2 := desc_le g z
      exact .step (ih z (by omega) hz hzF) hxz

theorem FnCountsMark : laws_FnCountsMark.Pure := by
  intro l h0 h1 hw
  refine Ev.rounds (g := fun k => laws_FnCountsMark.f k l) ?_
  unfold laws_FnCountsMark.f
  by_cases c0 : (l.length : Int) > 1048576
  · simp only [if_pos c0]; exact Ev.now _
  · simp only [if_neg c0]
    obtain ⟨d, hn, hd, -⟩ := newRnd_ok (Bytes.of c0 hw)
    obtain ⟨g, r, c1, hgr, hsm, hrl, p0, p1⟩ := graph_ev hd
    have hg1 := hsm.1
    have hz := hsm.sz
    have hdr : Ev (fun k => spec_DrawKeptBy.f k l) (g, r) := by
      unfold spec_DrawKeptBy.f
      simp only [hn, Option.bind_some]
      exact Ev.bind hgr (Ev.now _)
    obtain ⟨K, f1, f2, fl, f3, f4⟩ := KeptBy_ev g hz r (by omega)
    refine Ev.bind hdr (Ev.bind f1 (Ev.bind f2 (Ev.bind (SameInts_ev K K (by omega)) ?_)))
    simp only [decide_true, if_true]
    have hrlen := reachedR_len g r
    have loop : ∀ (e n : Nat) (i : Int), i = n → n ≤ g.length → g.length - n ≤ e → (∀ j : Nat, j < n → ¬ Rch g (row g (j : Int)) (j : Int)) → Ev (fun k => laws_FnCountsMark.l0 k g r K i) true := by
      have stop : ∀ (i : Int), ((okG g && okR g r) = true → ∀ x, 0 ≤ x ∧ x < (g.length : Int) → ¬ Rch g (row g x) x) → Ev (fun k => laws_FnCountsMark.j1 k g r K i false) true := by
        intro i hac
        refine Ev.step (fun k => laws_FnCountsMark.j1.eq_2 ..) ?_
        simp only [Bool.false_eq_true, if_false]
        refine Ev.bind (impl_ReachedFrom_ev g hz r (by omega)) (Ev.bind (SameInts_ev K _ (by omega)) ?_)
        have e : K = reachedR g r := by
          by_cases ho : (okG g && okR g r) = true
          · obtain ⟨k1, k2, k3, k4⟩ := okGR ho
            have hg := Gr.of k1
            obtain ⟨F, hch, hfull, rfl⟩ := f4 ho
            have hrr : reachedR g r = idxs (flags g r) true := by unfold reachedR; rw [if_pos ho]
            rw [hrr]
            refine asc_ext (asc_filter (allL_asc _) _) (idxs_asc _ _) (fun x => ?_)
            rw [mem_keepTo, mem_reached hg k2]
            constructor
            · exact fun h => kept_reached (hac ho) hfull g.length x (by omega) h.1 h.2
            · exact fun h => ⟨h.idx hg k2, hch.unreached hg k2 h⟩
          · rw [f3 ho]; unfold reachedR; rw [if_neg ho]
        rw [decide_eq_true e]
        exact Ev.now _
      intro e
      induction e with
      | zero =>
        intro n i hi hn he hac
        refine Ev.step (fun k => laws_FnCountsMark.l0.eq_2 ..) ?_
        refine Ev.bind (impl_GraphOk_ev g hz r (by omega)) ?_
        have hfin : Ev (fun k => laws_FnCountsMark.j1 k g r K i false) true := stop i fun _ x hx => by
          have := hac x.toNat (by omega)
          rwa [show ((x.toNat : Nat) : Int) = x by omega] at this
        cases ho : (okG g && okR g r) with
        | true =>
          simp only [if_true, decide_eq_false (show ¬ i < (g.length : Int) by omega)]
          exact hfin
        | false =>
          simp only [Bool.false_eq_true, if_false]
          exact hfin
      | succ e ih =>
        intro n i hi hn he hac
        refine Ev.step (fun k => laws_FnCountsMark.l0.eq_2 ..) ?_
        refine Ev.bind (impl_GraphOk_ev g hz r (by omega)) ?_
        cases ho : (okG g && okR g r) with
        | false =>
          simp only [Bool.false_eq_true, if_false]
          exact stop i fun h => by rw [h] at ho; simp at ho
        | true =>
          simp only [if_true]
          rcases Nat.lt_or_ge n g.length with hlt | hge
          · obtain ⟨k1, k2, k3, k4⟩ := okGR ho
            have hg := Gr.of k1
            rw [decide_eq_true (show i < (g.length : Int) by omega)]
            refine Ev.step (fun k => laws_FnCountsMark.j1.eq_2 ..) ?_
            simp only [if_true, if_pos (show 0 ≤ i by omega), if_pos (show i < (g.length : Int) by omega)]
            have hrow : (row g i).length ≤ 5 ∧ ∀ y ∈ row g i, 0 ≤ y ∧ y < (g.length : Int) := by
              refine ⟨?_, hg.row_idx i⟩
              by_cases hne : row g i = []
              · rw [hne]; simp
              · exact ((okG_iff.1 k1).1 _ (row_mem hne)).2
            refine Ev.bind (impl_ReachedFrom_ev g hz (row g i) (by omega)) ?_
            have hl2 := reachedR_len g (row g i)
            refine Ev.bind (HasInt_ev (reachedR g (row g i)) i (by omega)) ?_
            have ho2 : (okG g && okR g (row g i)) = true := by
              rw [Bool.and_eq_true]
              refine ⟨k1, ?_⟩
              unfold okR
              rw [Bool.and_eq_true]
              exact ⟨idx_iff.2 hrow.2, by simp; omega⟩
            have hrr : reachedR g (row g i) = idxs (flags g (row g i)) true := by unfold reachedR; rw [if_pos ho2]
            by_cases c : i ∈ reachedR g (row g i)
            · simp only [decide_eq_true c, if_true]
              exact Ev.now _
            · simp only [decide_eq_false c, Bool.false_eq_true, if_false]
              rw [w64 (x := i + 1) (by omega) (by omega)]
              refine ih (n + 1) (i + 1) (by omega) (by omega) (by omega) (fun j hj => ?_)
              rcases Nat.lt_or_ge j n with hjn | hjn
              · exact hac j hjn
              · have : (j : Int) = i := by omega
                rw [this]
                rw [hrr, mem_reached hg hrow.2] at c
                exact c
          · rw [decide_eq_false (show ¬ i < (g.length : Int) by omega)]
            exact stop i fun _ x hx => by
              have := hac x.toNat (by omega)
              rwa [show ((x.toNat : Nat) : Int) = x by omega] at this
    exact loop g.length 0 0 rfl (Nat.zero_le _) (by omega) (fun j hj => absurd hj (Nat.not_lt_zero _))

end Go.Proofs.Ytljieofkagmdaaa.Pure
