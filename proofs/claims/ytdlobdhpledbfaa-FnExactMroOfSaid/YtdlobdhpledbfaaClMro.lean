/- The orders of classes: the reference and the program come to the same, and what it is. -/
import Derived.Test.YtdlobdhpledbfaaClMerge
import Derived.Test.YtdlobdhpledbfaaQ0
import Derived.Test.YtdlobdhpledbfaaQ3
import Derived.Test.YtdlobdhpledbfaaQ4
set_option linter.unusedSimpArgs false
set_option linter.unusedVariables false
namespace Go.Proofs.Ytdlobdhpledbfaa.CL
open Go.RowKit Go.Proofs.Ytdlobdhpledbfaa.Q Go.Proofs.YtdlobdhpledbfaaW.PrintWords Go.Proofs.GR Go.Proofs.Ytdlobdhpledbfaa.GE
theorem nodup_len : ∀ (n : Nat) (l : List Int), l.Nodup → (∀ x ∈ l, 0 ≤ x ∧ x < (n : Int)) → l.length ≤ n
  | 0, l, _, h => by
    cases l with
    | nil => simp
    | cons a b => have := h a List.mem_cons_self; omega
  | n + 1, l, hn, h => by
    have h1 := nodup_len n (l.erase (n : Int)) (hn.erase _) (fun x hx => by
      have hm := (List.Nodup.mem_erase_iff hn).1 hx
      have := h x hm.2
      have : x ≠ (n : Int) := hm.1
      omega)
    have h2 : l.length ≤ (l.erase (n : Int)).length + 1 := by
      rw [List.length_erase]
      split <;> omega
    omega
def at_ (g : List (List Int)) (d : Int) : List Int := g.getD d.toNat []
theorem rd_at (g : List (List Int)) (d : Int) : rd_L1 g d = at_ g d := rfl
/-- Element j of the row of class c is one that may stand there. -/
def okAt (c : Nat) (row : List Int) (j : Nat) : Prop := 0 ≤ row.getD j 0 ∧ row.getD j 0 < (c : Int) ∧ row.getD j 0 ∉ row.take j
def RowOk (c : Nat) (row : List Int) : Prop := row.length ≤ 6 ∧ ∀ j, j < row.length → okAt c row j
/-- What is known of the order of a class. -/
structure Fct (g : List (List Int)) (c : Nat) (l : List Int) : Prop where
  impl : Ev (fun k => impl_mro.f k g (c : Int)) (l, true)
  head : ∃ m, l = (c : Int) :: m ∧ ∀ x ∈ m, 0 ≤ x ∧ x < (c : Int)
  nodup : l.Nodup
  row : List.Sublist (at_ g c) l
  below : ∀ d ∈ l, ∃ ld, Ev (fun k => impl_mro.f k g d) (ld, true) ∧ List.Sublist ld l
  sup : ∀ d ∈ l, ∀ b ∈ at_ g d, b ∈ l
theorem Fct.range {g : List (List Int)} {c : Nat} {l : List Int} (h : Fct g c l) : ∀ x ∈ l, 0 ≤ x ∧ x < ((c + 1 : Nat) : Int) := by
  obtain ⟨m, rfl, hm⟩ := h.head
  intro x hx
  rcases List.mem_cons.1 hx with rfl | hx
  · omega
  · have := hm x hx; omega
theorem Fct.len {g : List (List Int)} {c : Nat} {l : List Int} (h : Fct g c l) : l.length ≤ c + 1 := nodup_len _ _ h.nodup h.range
/-- What the loop leaves when it ends well. -/
def Ends (g : List (List Int)) (c : Nat) (r : List Int) : Prop := ∃ m acc, r = (c : Int) :: m ∧ Mg (acc ++ [at_ g c]) m ∧ acc.length = (at_ g c).length ∧ (∀ i, i < (at_ g c).length → Fct g ((at_ g c).getD i 0).toNat (acc.getD i []) ∧ okAt c (at_ g c) i)
theorem wr1 {n : Nat} (h : n ≤ 1000000) : wrap64 ((n : Int) + 1) = ((n + 1 : Nat) : Int) := by rw [w64 (by omega) (by omega)]; omega
def Both (g : List (List Int)) (c : Nat) : Prop := ∃ r : List Int × Bool, Ev (fun k => impl_mro.f k g (c : Int)) r ∧ (r.2 = false → r.1 = []) ∧ (¬ RowOk c (at_ g c) → r.2 = false) ∧ ((∀ i, i ≤ c → RowOk i (at_ g i)) → Ev (fun k => spec_orderOf.f k g (c : Int)) r) ∧ (r.2 = true → Fct g c r.1)
theorem loop (g : List (List Int)) (hg : g.length ≤ 8) (c : Nat) (hc : c < g.length) (hr : (at_ g c).length ≤ 6) (ih : ∀ b, b < c → Both g b) : ∀ (d j : Nat) (acc : List (List Int)), (at_ g c).length - j = d → j ≤ (at_ g c).length → acc.length = j → (∀ i, i < j → Fct g ((at_ g c).getD i 0).toNat (acc.getD i []) ∧ okAt c (at_ g c) i) →
    ∃ r : List Int × Bool, Ev (fun k => impl_mro.l0 k g (c : Int) (at_ g c) acc (at_ g c) ((at_ g c).length : Int) (j : Int)) r ∧ (r.2 = false → r.1 = []) ∧ ((∃ i, i < (at_ g c).length ∧ ¬ okAt c (at_ g c) i) → r.2 = false) ∧
      ((∀ i, i ≤ c → RowOk i (at_ g i)) → Ev (fun k => spec_orderOf.l0 k g (c : Int) acc (j : Int)) r) ∧ (r.2 = true → Ends g c r.1) := by
  intro d
  generalize hrow : at_ g c = row at *
  induction d with
  | zero =>
    intro j acc h1 h2 h3 h4
    obtain rfl : j = row.length := by omega
    have hbd : Bd (acc ++ [row]) := by
      refine ⟨by simp; omega, fun l hl => ?_, fun l hl x hx => ?_⟩
      · rcases List.mem_append.1 hl with q | q
        · obtain ⟨i, hi, rfl⟩ := List.getElem_of_mem q
          have := (h4 i (by omega)).1.len
          have e2 := (h4 i (by omega)).2.2.1
          rw [getD_lt hi] at this
          omega
        · rw [List.mem_singleton.1 q]; omega
      · rcases List.mem_append.1 hl with q | q
        · obtain ⟨i, hi, rfl⟩ := List.getElem_of_mem q
          have := (h4 i (by omega)).1.range x (by rw [getD_lt hi]; exact hx)
          exact this.1
        · rw [List.mem_singleton.1 q] at hx
          obtain ⟨i, hi, rfl⟩ := List.getElem_of_mem hx
          have := (h4 i (by omega)).2.1
          rw [getD_lt hi] at this
          exact this
    have htot : total (acc ++ [row]) ≤ 100000 := by
      have : ∀ (ls : List (List Int)), (∀ l ∈ ls, l.length ≤ 1000) → total ls ≤ ls.length * 1000 := by
        intro ls
        induction ls with
        | nil => intro _; simp [total]
        | cons a b ihl =>
          intro h
          have h1 := ihl (fun l hl => h l (List.mem_cons_of_mem _ hl))
          have h2 := h a List.mem_cons_self
          unfold total at *
          rw [List.map_cons, List.sum_cons, List.length_cons]
          omega
      have := this _ hbd.rows
      simp at this
      omega
    obtain ⟨r, e1, e2, e3, e4⟩ := merges (acc ++ [row]) hbd htot
    have hml : r.1.length ≤ 100000 := by
      cases hq : r.2 with
      | false => rw [e3 hq]; simp
      | true =>
        have hm := e4 hq
        have := nodup_len 100 r.1 hm.nodup (fun x hx => by
          obtain ⟨l, hl, hx'⟩ := hm.mem x hx
          rcases List.mem_append.1 hl with q | q
          · obtain ⟨i, hi, rfl⟩ := List.getElem_of_mem q
            have h5 := (h4 i (by omega)).1.range x (by rw [getD_lt hi]; exact hx')
            have h6 := (h4 i (by omega)).2.2.1
            omega
          · rw [List.mem_singleton.1 q] at hx'
            obtain ⟨i, hi, rfl⟩ := List.getElem_of_mem hx'
            have := (h4 i (by omega)).2
            unfold okAt at this
            rw [getD_lt hi] at this
            omega)
        omega
    refine ⟨if r.2 = true then ((c : Int) :: r.1, true) else ([], false), ?_, ?_, ?_, ?_, ?_⟩
    · refine Ev.step (fun k => impl_mro.l0.eq_2 ..) ?_
      simp only [if_neg (show ¬ ((row.length : Nat) : Int) < ((row.length : Nat) : Int) by omega), slices_Clone_int_int.f, Option.bind_some, List.nil_append, List.length_nil, if_pos (show 0 + row.length < 17592186044416 by omega), if_pos (show acc.length < 5864062014805 by omega)]
      refine Ev.bind e2 ?_
      by_cases q : r.2 = true
      · simp only [if_pos q, List.length_singleton, if_pos (show 1 + r.1.length < 17592186044416 by omega)]
        exact Ev.now _
      · simp only [if_neg q]
        exact Ev.now _
    · intro h; split at h
      · simp at h
      · rename_i q; rw [if_neg q]
    · rintro ⟨i, hi, hn⟩
      exact absurd (h4 i hi).2 hn
    · intro _
      refine Ev.step (fun k => spec_orderOf.l0.eq_2 ..) ?_
      have er : rd_L1 g (c : Int) = row := hrow
      simp only [er, if_pos (show (0 : Int) ≤ (c : Int) by omega), if_pos (show (c : Int) < (g.length : Int) by omega), if_neg (show ¬ ((row.length : Nat) : Int) < ((row.length : Nat) : Int) by omega), Option.bind_some, List.nil_append, List.length_nil, if_pos (show 0 + row.length < 17592186044416 by omega), if_pos (show acc.length < 5864062014805 by omega)]
      refine Ev.bind e1 ?_
      by_cases q : r.2 = true
      · simp only [if_pos q, List.length_singleton, if_pos (show 1 + r.1.length < 17592186044416 by omega)]
        exact Ev.now _
      · simp only [if_neg q]
        exact Ev.now _
    · intro h
      split at h
      · rename_i q
        rw [if_pos q]
        refine ⟨r.1, acc, rfl, ?_, ?_, ?_⟩
        · rw [hrow]; exact e4 q
        · rw [hrow]; exact h3
        · rw [hrow]; exact h4
      · simp at h
  | succ d ihd =>
    intro j acc h1 h2 h3 h4
    have hj : j < row.length := by omega
    have hrd : rd row (j : Int) = row.getD j 0 := rd_nat row j _ rfl
    have er : rd_L1 g (c : Int) = row := hrow
    have bad : ¬ okAt c row j → ∃ r : List Int × Bool, Ev (fun k => impl_mro.l0 k g (c : Int) row acc row (row.length : Int) (j : Int)) r ∧ (r.2 = false → r.1 = []) ∧ ((∃ i, i < row.length ∧ ¬ okAt c row i) → r.2 = false) ∧
        ((∀ i, i ≤ c → RowOk i (at_ g i)) → Ev (fun k => spec_orderOf.l0 k g (c : Int) acc (j : Int)) r) ∧ (r.2 = true → Ends g c r.1) := by
      intro hbad
      refine ⟨([], false), ?_, fun _ => rfl, fun _ => rfl, fun hall => absurd ((hall c (Nat.le_refl _)).2 j (by rw [hrow]; exact hj)) (by rw [hrow]; exact hbad), fun h => by simp at h⟩
      have j2 : Ev (fun k => impl_mro.j2 k g (c : Int) row acc (row.getD j 0) row (row.length : Int) (j : Int) true) ([], false) := Ev.step (fun k => impl_mro.j2.eq_2 ..) (by simp only [if_true]; exact Ev.now _)
      refine Ev.step (fun k => impl_mro.l0.eq_2 ..) ?_
      simp only [if_pos (show (j : Int) < (row.length : Int) by omega), if_pos (show (0 : Int) ≤ (j : Int) by omega), hrd]
      by_cases q1 : row.getD j 0 < 0
      · simp only [if_pos q1]; exact j2
      simp only [if_neg q1]
      by_cases q2 : row.getD j 0 ≥ (c : Int)
      · simp only [if_pos q2]; exact j2
      simp only [if_neg q2, if_pos (show (j : Int) ≤ (row.length : Int) by omega), Int.toNat_natCast]
      refine Ev.bind (contains_ev (row.take j) _ (by rw [List.length_take]; omega)) ?_
      have q3 : row.getD j 0 ∈ row.take j := by
        apply Classical.byContradiction
        intro z
        exact hbad ⟨by omega, by omega, z⟩
      simp only [decide_eq_true q3]
      exact j2
    by_cases hok : okAt c row j
    · obtain ⟨b, hb⟩ : ∃ b : Nat, row.getD j 0 = (b : Int) := ⟨(row.getD j 0).toNat, by have := hok.1; omega⟩
      have hbc : b < c := by have := hok.2.1; omega
      obtain ⟨r, i1, i2, i3, i4, i5⟩ := ih b hbc
      have pre : ∀ z, Ev (fun k => impl_mro.j2 k g (c : Int) row acc (row.getD j 0) row (row.length : Int) (j : Int) false) z → Ev (fun k => impl_mro.l0 k g (c : Int) row acc row (row.length : Int) (j : Int)) z := by
        intro z hz
        refine Ev.step (fun k => impl_mro.l0.eq_2 ..) ?_
        simp only [if_pos (show (j : Int) < (row.length : Int) by omega), if_pos (show (0 : Int) ≤ (j : Int) by omega), hrd, if_neg (show ¬ row.getD j 0 < 0 by have := hok.1; omega), if_neg (show ¬ row.getD j 0 ≥ (c : Int) by have := hok.2.1; omega), if_pos (show (j : Int) ≤ (row.length : Int) by omega), Int.toNat_natCast]
        refine Ev.bind (contains_ev (row.take j) _ (by rw [List.length_take]; omega)) ?_
        simp only [decide_eq_false hok.2.2]
        exact hz
      cases hr2 : r.2 with
      | false =>
        refine ⟨([], false), pre _ ?_, fun _ => rfl, fun _ => rfl, fun hall => ?_, fun h => by simp at h⟩
        · refine Ev.step (fun k => impl_mro.j2.eq_2 ..) ?_
          simp only [Bool.false_eq_true, if_false, hb]
          refine Ev.bind i1 ?_
          simp only [hr2, Bool.false_eq_true, if_false]
          exact Ev.now _
        · refine Ev.step (fun k => spec_orderOf.l0.eq_2 ..) ?_
          simp only [er, if_pos (show (0 : Int) ≤ (c : Int) by omega), if_pos (show (c : Int) < (g.length : Int) by omega), if_pos (show (j : Int) < (row.length : Int) by omega), if_pos (show (0 : Int) ≤ (j : Int) by omega), hrd, hb]
          refine Ev.bind (i4 (fun i hi => hall i (by omega))) ?_
          simp only [hr2, Bool.false_eq_true, if_false]
          exact Ev.now _
      | true =>
        have hF := i5 hr2
        obtain ⟨z, z1, z2, z3, z4, z5⟩ := ihd (j + 1) (acc ++ [r.1]) (by omega) (by omega) (by simp [h3]) (fun i hi => by
          rcases Nat.lt_or_ge i j with q | q
          · have := h4 i q
            rw [show (acc ++ [r.1]).getD i [] = acc.getD i [] by rw [List.getD_eq_getElem?_getD, List.getElem?_append_left (by omega), ← List.getD_eq_getElem?_getD]]
            exact this
          · obtain rfl : i = j := by omega
            rw [show (acc ++ [r.1]).getD i [] = r.1 by rw [List.getD_eq_getElem?_getD, List.getElem?_append_right (by omega)]; simp [h3], hb, Int.toNat_natCast]
            exact ⟨hF, hok⟩)
        refine ⟨z, pre _ ?_, z2, z3, fun hall => ?_, z5⟩
        · refine Ev.step (fun k => impl_mro.j2.eq_2 ..) ?_
          simp only [Bool.false_eq_true, if_false, hb]
          refine Ev.bind i1 ?_
          simp only [hr2, if_true, if_pos (show acc.length < 5864062014805 by omega), wr1 (show j ≤ 1000000 by omega)]
          exact z1
        · refine Ev.step (fun k => spec_orderOf.l0.eq_2 ..) ?_
          simp only [er, if_pos (show (0 : Int) ≤ (c : Int) by omega), if_pos (show (c : Int) < (g.length : Int) by omega), if_pos (show (j : Int) < (row.length : Int) by omega), if_pos (show (0 : Int) ≤ (j : Int) by omega), hrd, hb]
          refine Ev.bind (i4 (fun i hi => hall i (by omega))) ?_
          simp only [hr2, if_true, if_pos (show acc.length < 5864062014805 by omega), wr1 (show j ≤ 1000000 by omega)]
          exact z4 hall
    · exact bad hok
theorem ends_fct {g : List (List Int)} {c : Nat} {l : List Int} (h : Ends g c l) (he : Ev (fun k => impl_mro.f k g (c : Int)) (l, true)) : Fct g c l := by
  obtain ⟨m, acc, rfl, hm, hl, hf⟩ := h
  have hx : ∀ x ∈ m, 0 ≤ x ∧ x < (c : Int) := fun x hx => by
    obtain ⟨l, hl', hx'⟩ := hm.mem x hx
    rcases List.mem_append.1 hl' with q | q
    · obtain ⟨i, hi, rfl⟩ := List.getElem_of_mem q
      have h5 := (hf i (by omega)).1.range x (by rw [getD_lt hi]; exact hx')
      have h6 := (hf i (by omega)).2
      unfold okAt at h6
      omega
    · rw [List.mem_singleton.1 q] at hx'
      obtain ⟨i, hi, rfl⟩ := List.getElem_of_mem hx'
      have := (hf i (by omega)).2
      unfold okAt at this
      rw [getD_lt hi] at this
      omega
  have hin : ∀ x ∈ m, ∃ i, i < acc.length ∧ x ∈ acc.getD i [] := fun x hx => by
    obtain ⟨l, hl', hx'⟩ := hm.mem x hx
    rcases List.mem_append.1 hl' with q | q
    · obtain ⟨i, hi, rfl⟩ := List.getElem_of_mem q
      exact ⟨i, hi, by rw [getD_lt hi]; exact hx'⟩
    · rw [List.mem_singleton.1 q] at hx'
      obtain ⟨i, hi, e⟩ := List.getElem_of_mem hx'
      refine ⟨i, by omega, ?_⟩
      obtain ⟨m', e', _⟩ := (hf i hi).1.head
      have h6 := (hf i hi).2.1
      rw [e', ← e, ← getD_lt (d := 0) hi]
      have : (((at_ g c).getD i 0).toNat : Int) = (at_ g c).getD i 0 := by omega
      rw [this]
      exact List.mem_cons_self
  have hsub : ∀ i, i < acc.length → List.Sublist (acc.getD i []) m := fun i hi => hm.sub _ (List.mem_append_left _ (by rw [getD_lt hi]; exact List.getElem_mem hi))
  have hrow : List.Sublist (at_ g c) m := hm.sub _ (List.mem_append_right _ (List.mem_singleton.2 rfl))
  refine ⟨he, ⟨m, rfl, hx⟩, List.nodup_cons.2 ⟨fun z => by have := hx _ z; omega, hm.nodup⟩, hrow.cons _, fun d hd => ?_, fun d hd b hb => ?_⟩
  · rcases List.mem_cons.1 hd with rfl | hd
    · exact ⟨_, he, List.Sublist.refl _⟩
    · obtain ⟨i, hi, hdi⟩ := hin d hd
      obtain ⟨ld, e1, e2⟩ := (hf i (by omega)).1.below d hdi
      exact ⟨ld, e1, (e2.trans (hsub i hi)).cons _⟩
  · rcases List.mem_cons.1 hd with rfl | hd
    · exact List.mem_cons_of_mem _ (hrow.subset hb)
    · obtain ⟨i, hi, hdi⟩ := hin d hd
      exact List.mem_cons_of_mem _ ((hsub i hi).subset ((hf i (by omega)).1.sup d hdi b hb))
theorem both (g : List (List Int)) (hg : g.length ≤ 8) (c : Nat) : c < g.length → Both g c := by
  induction c using Nat.strongRecOn with
  | _ c ih =>
    intro hc
    have er : rd_L1 g (c : Int) = at_ g c := rfl
    by_cases hr : (at_ g c).length ≤ 6
    · obtain ⟨r, e1, e2, e3, e4, e5⟩ := loop g hg c hc hr (fun b hb => ih b hb (by omega)) _ 0 [] rfl (by omega) rfl (fun i hi => absurd hi (Nat.not_lt_zero _))
      have ev : Ev (fun k => impl_mro.f k g (c : Int)) r := by
        refine Ev.step (fun k => impl_mro.f.eq_2 ..) ?_
        simp only [if_neg (show ¬ (c : Int) < 0 by omega), if_neg (show ¬ (c : Int) ≥ (g.length : Int) by omega)]
        refine Ev.step (fun k => impl_mro.j0.eq_2 ..) ?_
        simp only [decide_eq_false (show ¬ (g.length : Int) > 8 by omega), Bool.false_eq_true, if_false, if_pos (show (0 : Int) ≤ (c : Int) by omega), if_pos (show (c : Int) < (g.length : Int) by omega), er, if_neg (show ¬ ((at_ g c).length : Int) > 6 by omega)]
        exact e1
      refine ⟨r, ev, e2, fun hn => e3 ?_, fun hall => ?_, fun h => ?_⟩
      · apply Classical.byContradiction
        intro z
        exact hn ⟨hr, fun j hj => Classical.byContradiction fun q => z ⟨j, hj, q⟩⟩
      · refine Ev.step (fun k => spec_orderOf.f.eq_2 ..) ?_
        exact e4 hall
      · have er2 : r = (r.1, true) := by rw [← h]
        rw [er2] at ev
        exact ends_fct (e5 h) ev
    · refine ⟨([], false), ?_, fun _ => rfl, fun _ => rfl, fun hall => absurd (hall c (Nat.le_refl _)).1 hr, fun h => by simp at h⟩
      refine Ev.step (fun k => impl_mro.f.eq_2 ..) ?_
      simp only [if_neg (show ¬ (c : Int) < 0 by omega), if_neg (show ¬ (c : Int) ≥ (g.length : Int) by omega)]
      refine Ev.step (fun k => impl_mro.j0.eq_2 ..) ?_
      simp only [decide_eq_false (show ¬ (g.length : Int) > 8 by omega), Bool.false_eq_true, if_false, if_pos (show (0 : Int) ≤ (c : Int) by omega), if_pos (show (c : Int) < (g.length : Int) by omega), er, if_pos (show ((at_ g c).length : Int) > 6 by omega)]
      exact Ev.now _
end Go.Proofs.Ytdlobdhpledbfaa.CL
