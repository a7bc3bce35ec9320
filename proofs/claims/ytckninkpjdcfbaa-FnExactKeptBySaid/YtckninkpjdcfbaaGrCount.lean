/- Counting references. Plain, no program in sight. -/
import Derived.Test.YtckninkpjdcfbaaGrMath
set_option linter.unusedSimpArgs false
set_option linter.unusedVariables false
namespace Go.Proofs.GR

/-- The count of each of a list goes up by e. -/
def bump (e : Int) (c : List Int) (x : Int) : List Int := c.set x.toNat (c.getD x.toNat 0 + e)
def bumps (e : Int) (c l : List Int) : List Int := l.foldl (bump e) c
theorem bump_length (e : Int) (c : List Int) (x : Int) : (bump e c x).length = c.length := by simp [bump]
theorem bumps_length (e : Int) (l : List Int) : ∀ c, (bumps e c l).length = c.length := by
  induction l with
  | nil => intro c; rfl
  | cons x l ih => intro c; exact (ih _).trans (bump_length e c x)
theorem bumps_append (e : Int) (c a b : List Int) : bumps e c (a ++ b) = bumps e (bumps e c a) b := by simp [bumps, List.foldl_append]
theorem bump_getD {e : Int} {c : List Int} {x : Int} {i : Nat} (h0 : 0 ≤ x) (h1 : x < (c.length : Int)) : (bump e c x).getD i 0 = c.getD i 0 + if x = (i : Int) then e else 0 := by
  unfold bump
  rw [getD_set (by omega)]
  by_cases h : x.toNat = i
  · rw [if_pos h, if_pos (by omega), h]
  · rw [if_neg h, if_neg (by omega)]; omega
theorem bumps_getD (e : Int) (l : List Int) : ∀ (c : List Int) (i : Nat), (∀ x ∈ l, 0 ≤ x ∧ x < (c.length : Int)) → (bumps e c l).getD i 0 = c.getD i 0 + e * (l.count (i : Int) : Int) := by
  induction l with
  | nil => intro c i _; simp [bumps]
  | cons x l ih =>
    intro c i h
    have hx := h x List.mem_cons_self
    have h2 := ih (bump e c x) i (fun y hy => by rw [bump_length]; exact h y (List.mem_cons_of_mem _ hy))
    show (bumps e (bump e c x) l).getD i 0 = _
    rw [h2, bump_getD hx.1 hx.2, List.count_cons]
    by_cases hi : x = (i : Int)
    · rw [if_pos hi, if_pos (by simpa using hi), Int.natCast_add, Int.mul_add]
      simp only [Int.natCast_one, Int.mul_one]
      omega
    · rw [if_neg hi, if_neg (by simpa using hi)]
      simp
/-- All references: the roots', and those of the rows. -/
def refs (g : List (List Int)) (r : List Int) : List Int := r ++ g.flatten
def counts (g : List (List Int)) (r : List Int) : List Int := bumps 1 (List.replicate g.length 0) (refs g r)
theorem counts_length (g : List (List Int)) (r : List Int) : (counts g r).length = g.length := by simp [counts, bumps_length]
theorem refs_idx {g : List (List Int)} {r : List Int} (hg : Gr g) (hr : ∀ x ∈ r, 0 ≤ x ∧ x < (g.length : Int)) : ∀ x ∈ refs g r, 0 ≤ x ∧ x < (g.length : Int) := by
  intro x hx
  rcases List.mem_append.1 hx with h | h
  · exact hr x h
  · obtain ⟨l, hl, hxl⟩ := List.mem_flatten.1 h
    obtain ⟨n, hn, e⟩ := mem_getD (d := []) hl
    exact hg.row_idx (n : Int) x (by unfold row; rw [Int.toNat_natCast, e]; exact hxl)
theorem counts_getD {g : List (List Int)} {r : List Int} (hg : Gr g) (hr : ∀ x ∈ r, 0 ≤ x ∧ x < (g.length : Int)) (i : Nat) : (counts g r).getD i 0 = ((refs g r).count (i : Int) : Int) := by
  unfold counts
  rw [bumps_getD 1 _ _ i (fun x hx => by rw [List.length_replicate]; exact refs_idx hg hr x hx)]
  have : (List.replicate g.length (0 : Int)).getD i 0 = 0 := by
    rw [List.getD_eq_getElem?_getD, List.getElem?_replicate]
    split <;> rfl
  rw [this]; omega

/-- What the rows of a set refer to. -/
def setRefs (g : List (List Int)) (s : List Int) : List Int := s.flatMap (row g)
theorem setRefs_idx {g : List (List Int)} (hg : Gr g) (s : List Int) : ∀ x ∈ setRefs g s, 0 ≤ x ∧ x < (g.length : Int) := by
  intro x hx
  obtain ⟨y, _, h⟩ := List.mem_flatMap.1 hx
  exact hg.row_idx y x h
def trial (g : List (List Int)) (r s : List Int) : List Int := s.map fun x => (bumps (-1) (counts g r) (setRefs g s)).getD x.toNat 0
theorem trial_val {g : List (List Int)} {r s : List Int} (hg : Gr g) (hr : ∀ x ∈ r, 0 ≤ x ∧ x < (g.length : Int)) (i : Nat) : (bumps (-1) (counts g r) (setRefs g s)).getD i 0 = ((refs g r).count (i : Int) : Int) - ((setRefs g s).count (i : Int) : Int) := by
  rw [bumps_getD (-1) _ _ i (fun x hx => by rw [counts_length]; exact setRefs_idx hg s x hx), counts_getD hg hr]
  omega
/-- An ascending list of indices lies in the list of all. -/
theorem asc_sublist : ∀ (m : Nat) (l : List Nat) (a : Nat), l.Pairwise (· < ·) → (∀ x ∈ l, a ≤ x ∧ x < a + m) → l.Sublist (List.range' a m)
  | 0, l, a, _, h => by
    cases l with
    | nil => exact List.Sublist.refl _
    | cons x l => have := h x List.mem_cons_self; omega
  | m + 1, l, a, hp, h => by
    rw [List.range'_succ]
    cases l with
    | nil => exact List.nil_sublist _
    | cons x l =>
      rw [List.pairwise_cons] at hp
      by_cases e : x = a
      · subst e
        refine List.Sublist.cons_cons _ (asc_sublist m l (x + 1) hp.2 (fun y hy => ?_))
        have h1 := hp.1 y hy
        have h2 := h y (List.mem_cons_of_mem _ hy)
        omega
      · refine List.Sublist.cons _ (asc_sublist m (x :: l) (a + 1) (List.pairwise_cons.2 hp) (fun y hy => ?_))
        have hx := h x List.mem_cons_self
        have h2 := h y hy
        rcases List.mem_cons.1 hy with h3 | h3
        · omega
        · have := hp.1 y h3; omega
theorem sub_flatMap {α β : Type} {a b : List α} (f : α → List β) (h : a.Sublist b) : (a.flatMap f).Sublist (b.flatMap f) := by
  induction h with
  | slnil => exact List.Sublist.refl _
  | cons x _ ih => rw [List.flatMap_cons]; exact ih.trans (List.sublist_append_right _ _)
  | cons_cons x _ ih => rw [List.flatMap_cons, List.flatMap_cons]; exact List.Sublist.append (List.Sublist.refl _) ih
theorem setRefs_sublist {g : List (List Int)} {s : List Int} (hs : asc s) (hi : ∀ x ∈ s, 0 ≤ x ∧ x < (g.length : Int)) : (setRefs g s).Sublist g.flatten := by
  have h1 : (s.map Int.toNat).Sublist (List.range g.length) := by
    rw [List.range_eq_range']
    refine asc_sublist g.length _ 0 ?_ ?_
    · rw [List.pairwise_map]
      refine List.Pairwise.imp_of_mem (fun {a b} ha hb hab => ?_) hs
      have := hi a ha
      have := hi b hb
      omega
    · intro x hx
      obtain ⟨y, hy, rfl⟩ := List.mem_map.1 hx
      have := hi y hy
      omega
  have h2 : setRefs g s = (s.map Int.toNat).flatMap (fun n => g.getD n []) := by
    unfold setRefs
    rw [List.flatMap_map]; rfl
  have h3 : g.flatten = (List.range g.length).flatMap (fun n => g.getD n []) := by
    have : g = (List.range g.length).map (fun n => g.getD n []) := by
      refine ext_getD (d := []) (by simp) (fun i hi => ?_)
      rw [List.getD_eq_getElem?_getD (l := List.map _ _), List.getElem?_map, List.getElem?_range hi]
      simp
    conv => lhs; rw [this]
    rw [List.flatMap_def]
  rw [h2, h3]
  exact sub_flatMap _ h1
theorem trial_nonneg {g : List (List Int)} {r s : List Int} (hg : Gr g) (hr : ∀ x ∈ r, 0 ≤ x ∧ x < (g.length : Int)) (hs : asc s) (hi : ∀ x ∈ s, 0 ≤ x ∧ x < (g.length : Int)) (i : Nat) : 0 ≤ (bumps (-1) (counts g r) (setRefs g s)).getD i 0 ∧ (bumps (-1) (counts g r) (setRefs g s)).getD i 0 ≤ (counts g r).getD i 0 := by
  rw [trial_val hg hr, counts_getD hg hr]
  have h1 := (setRefs_sublist hs hi).count_le (i : Int)
  have h2 : (refs g r).count (i : Int) = r.count (i : Int) + g.flatten.count (i : Int) := by simp [refs, List.count_append]
  omega
end Go.Proofs.GR
