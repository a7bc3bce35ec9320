/- Garbage: what of a set is not reached from outside. Plain, no program in sight. -/
import Derived.Test.YtckninkpjdcfbaaGrCount
set_option linter.unusedSimpArgs false
set_option linter.unusedVariables false
namespace Go.Proofs.GR

theorem asc_ext : ∀ {a b : List Int}, asc a → asc b → (∀ x, x ∈ a ↔ x ∈ b) → a = b
  | [], [], _, _, _ => rfl
  | [], y :: b, _, _, h => absurd ((h y).2 List.mem_cons_self) (by simp)
  | x :: a, [], _, _, h => absurd ((h x).1 List.mem_cons_self) (by simp)
  | x :: a, y :: b, ha, hb, h => by
    unfold asc at ha hb
    rw [List.pairwise_cons] at ha hb
    have hxy : x = y := by
      have h1 := (h x).1 List.mem_cons_self
      have h2 := (h y).2 List.mem_cons_self
      rcases List.mem_cons.1 h1 with q | q
      · exact q
      · rcases List.mem_cons.1 h2 with q2 | q2
        · exact q2.symm
        · have := hb.1 x q
          have := ha.1 y q2
          omega
    subst hxy
    rw [asc_ext (a := a) (b := b) ha.2 hb.2 (fun z => ?_)]
    constructor
    · intro hz
      rcases List.mem_cons.1 ((h z).1 (List.mem_cons_of_mem _ hz)) with q | q
      · have := ha.1 z hz; omega
      · exact q
    · intro hz
      rcases List.mem_cons.1 ((h z).2 (List.mem_cons_of_mem _ hz)) with q | q
      · have := hb.1 z hz; omega
      · exact q
/-- All objects. -/
def allL (n : Nat) : List Int := (List.range n).map fun (i : Nat) => (i : Int)
theorem allL_asc (n : Nat) : asc (allL n) := by
  unfold asc allL
  rw [List.pairwise_map]
  exact List.Pairwise.imp (fun h => by omega) List.pairwise_lt_range
theorem mem_allL {n : Nat} {x : Int} : x ∈ allL n ↔ 0 ≤ x ∧ x < (n : Int) := by
  unfold allL
  simp only [List.mem_map, List.mem_range]
  constructor
  · rintro ⟨i, h, rfl⟩; omega
  · rintro ⟨h0, h1⟩; exact ⟨x.toNat, by omega, by omega⟩
theorem allL_length (n : Nat) : (allL n).length = n := by simp [allL]
theorem asc_filter {l : List Int} (h : asc l) (p : Int → Bool) : asc (l.filter p) := List.Pairwise.filter _ h
theorem asc_eq_filter {n : Nat} {s : List Int} (hs : asc s) (hi : ∀ x ∈ s, 0 ≤ x ∧ x < (n : Int)) : s = (allL n).filter fun x => decide (x ∈ s) := by
  refine asc_ext hs (asc_filter (allL_asc n) _) (fun x => ?_)
  rw [List.mem_filter, mem_allL, decide_eq_true_eq]
  exact ⟨fun h => ⟨hi x h, h⟩, fun h => h.2⟩
theorem flatten_all (g : List (List Int)) : g.flatten = setRefs g (allL g.length) := by
  unfold setRefs allL
  rw [List.flatMap_map]
  have : g = (List.range g.length).map (fun n => g.getD n []) := by
    refine ext_getD (d := []) (by simp) (fun i hi => ?_)
    rw [List.getD_eq_getElem?_getD (l := List.map _ _), List.getElem?_map, List.getElem?_range hi]
    simp
  conv => lhs; rw [this]
  rw [List.flatMap_def]
  congr 1
theorem count_split {f : Int → List Int} {y z : Int} {p : Int → Bool} : ∀ {l : List Int}, z ∈ l → p z = false → ((l.filter p).flatMap f).count y + (f z).count y ≤ (l.flatMap f).count y
  | [], h, _ => by simp at h
  | a :: l, h, hp => by
    have sub : ((l.filter p).flatMap f).count y ≤ (l.flatMap f).count y := (sub_flatMap f List.filter_sublist).count_le _
    rw [List.flatMap_cons, List.count_append]
    rcases List.mem_cons.1 h with q | q
    · subst q
      rw [List.filter_cons_of_neg (by simp [hp])]
      omega
    · have ih := count_split (f := f) (y := y) q hp
      by_cases ha : p a = true
      · rw [List.filter_cons_of_pos ha, List.flatMap_cons, List.count_append]; omega
      · rw [List.filter_cons_of_neg ha]; omega

/-- How many references to one come from outside of a set. -/
def tv (g : List (List Int)) (r s : List Int) (x : Int) : Int := (bumps (-1) (counts g r) (setRefs g s)).getD x.toNat 0
theorem tv_eq {g : List (List Int)} {r s : List Int} (hg : Gr g) (hr : ∀ x ∈ r, 0 ≤ x ∧ x < (g.length : Int)) {x : Int} (h0 : 0 ≤ x) : tv g r s x = (r.count x : Int) + (g.flatten.count x : Int) - ((setRefs g s).count x : Int) := by
  unfold tv
  rw [trial_val hg hr, show ((x.toNat : Nat) : Int) = x by omega]
  simp [refs, List.count_append]
theorem tv_root {g : List (List Int)} {r s : List Int} (hg : Gr g) (hr : ∀ x ∈ r, 0 ≤ x ∧ x < (g.length : Int)) (hs : asc s) (hi : ∀ x ∈ s, 0 ≤ x ∧ x < (g.length : Int)) {x : Int} (hx : x ∈ r) : 0 < tv g r s x := by
  rw [tv_eq hg hr (hr x hx).1]
  have h1 := (setRefs_sublist hs hi).count_le x
  have h2 : 0 < r.count x := List.count_pos_iff.2 hx
  omega
theorem tv_outside {g : List (List Int)} {r s : List Int} (hg : Gr g) (hr : ∀ x ∈ r, 0 ≤ x ∧ x < (g.length : Int)) (hs : asc s) (hi : ∀ x ∈ s, 0 ≤ x ∧ x < (g.length : Int)) {x z : Int} (hz0 : 0 ≤ z ∧ z < (g.length : Int)) (hz : z ∉ s) (hx : x ∈ row g z) : 0 < tv g r s x := by
  rw [tv_eq hg hr (hg.row_idx z x hx).1]
  have h1 := count_split (f := row g) (y := x) (z := z) (p := fun x => decide (x ∈ s)) (l := allL g.length) (mem_allL.2 hz0) (by simpa using hz)
  rw [← asc_eq_filter hs hi] at h1
  have h2 : 0 < (row g z).count x := List.count_pos_iff.2 hx
  rw [flatten_all g]
  unfold setRefs
  omega
/-- Those of a set to which references come from outside. -/
def fromL (g : List (List Int)) (r s : List Int) : List Int := s.filter fun x => decide (0 < tv g r s x)
theorem fromL_idx {g : List (List Int)} {r s : List Int} {n : Nat} (hi : ∀ x ∈ s, 0 ≤ x ∧ x < (n : Int)) : ∀ x ∈ fromL g r s, 0 ≤ x ∧ x < (n : Int) := fun x hx => hi x (List.mem_filter.1 hx).1
noncomputable def garb (g : List (List Int)) (r s : List Int) : List Int := s.filter fun x => !(flags g (fromL g r s)).getD x.toNat false
theorem mem_garb {g : List (List Int)} {r s : List Int} (hi : ∀ x ∈ s, 0 ≤ x ∧ x < (g.length : Int)) {x : Int} : x ∈ garb g r s ↔ x ∈ s ∧ ¬ Rch g (fromL g r s) x := by
  unfold garb
  rw [List.mem_filter]
  constructor
  · rintro ⟨h1, h2⟩
    have := hi x h1
    refine ⟨h1, fun h => ?_⟩
    rw [← flags_iff this.1 this.2] at h
    rw [h] at h2
    simp at h2
  · rintro ⟨h1, h2⟩
    have := hi x h1
    refine ⟨h1, ?_⟩
    rw [← flags_iff this.1 this.2] at h2
    simpa using h2
theorem reached_from {g : List (List Int)} {r s : List Int} (hg : Gr g) (hr : ∀ x ∈ r, 0 ≤ x ∧ x < (g.length : Int)) (hs : asc s) (hi : ∀ x ∈ s, 0 ≤ x ∧ x < (g.length : Int)) {x : Int} (h : Rch g r x) (hx : x ∈ s) : Rch g (fromL g r s) x := by
  induction h with
  | base h1 => exact .base (List.mem_filter.2 ⟨hx, decide_eq_true (tv_root hg hr hs hi h1)⟩)
  | step h1 h2 ih =>
    rename_i y z
    by_cases hz : z ∈ s
    · exact .step (ih hz) h2
    · exact .base (List.mem_filter.2 ⟨hx, decide_eq_true (tv_outside hg hr hs hi (h1.idx hg hr) hz h2)⟩)
theorem garb_unreached {g : List (List Int)} {r s : List Int} (hg : Gr g) (hr : ∀ x ∈ r, 0 ≤ x ∧ x < (g.length : Int)) (hs : asc s) (hi : ∀ x ∈ s, 0 ≤ x ∧ x < (g.length : Int)) {x : Int} (hx : x ∈ garb g r s) : ¬ Rch g r x := fun h =>
  ((mem_garb hi).1 hx).2 (reached_from hg hr hs hi h ((mem_garb hi).1 hx).1)
/-- Of all objects, garbage is what is not reached. -/
theorem mem_garb_all {g : List (List Int)} {r : List Int} (hg : Gr g) (hr : ∀ x ∈ r, 0 ≤ x ∧ x < (g.length : Int)) {x : Int} : x ∈ garb g r (allL g.length) ↔ (0 ≤ x ∧ x < (g.length : Int)) ∧ ¬ Rch g r x := by
  rw [mem_garb (fun x hx => mem_allL.1 hx), mem_allL]
  constructor
  · rintro ⟨h1, h2⟩
    exact ⟨h1, fun h => h2 (reached_from hg hr (allL_asc _) (fun x hx => mem_allL.1 hx) h (mem_allL.2 h1))⟩
  · rintro ⟨h1, h2⟩
    refine ⟨h1, fun h => h2 (h.mono (fun y hy => ?_))⟩
    have h3 := List.mem_filter.1 hy
    have h4 := mem_allL.1 h3.1
    have h5 := of_decide_eq_true h3.2
    rw [tv_eq hg hr h4.1, ← flatten_all g] at h5
    exact .base (List.count_pos_iff.1 (by omega))
theorem all_of_len {n : Nat} {s : List Int} (hs : asc s) (hi : ∀ x ∈ s, 0 ≤ x ∧ x < (n : Int)) (hl : n ≤ s.length) : s = allL n := by
  have h1 := asc_eq_filter hs hi
  have h2 : ((allL n).filter fun x => decide (x ∈ s)).length = (allL n).length := by
    rw [← h1]
    have := List.length_filter_le (fun x => decide (x ∈ s)) (allL n)
    rw [← h1] at this
    rw [allL_length] at this ⊢
    omega
  rw [List.length_filter_eq_length_iff] at h2
  rw [h1]
  exact List.filter_eq_self.2 h2
theorem setRefs_mono {g : List (List Int)} {a b : List Int} (h : a.Sublist b) (x : Int) : (setRefs g a).count x ≤ (setRefs g b).count x := (sub_flatMap (row g) h).count_le x
/-- What is left of a set holds no garbage. -/
theorem garb_again {g : List (List Int)} {r s : List Int} (hg : Gr g) (hr : ∀ x ∈ r, 0 ≤ x ∧ x < (g.length : Int)) (hs : asc s) (hi : ∀ x ∈ s, 0 ≤ x ∧ x < (g.length : Int)) (t : List Int) (ht : t = s.filter fun x => decide (x ∉ garb g r s)) : garb g r t = [] := by
  have hti : ∀ x ∈ t, 0 ≤ x ∧ x < (g.length : Int) := by
    intro x hx
    rw [ht] at hx
    exact hi x (List.mem_filter.1 hx).1
  rw [List.eq_nil_iff_forall_not_mem]
  intro x hx
  obtain ⟨h1, h2⟩ := (mem_garb hti).1 hx
  rw [ht] at h1
  obtain ⟨h3, h4⟩ := List.mem_filter.1 h1
  have h5 : Rch g (fromL g r s) x := Classical.byContradiction fun q => of_decide_eq_true h4 ((mem_garb hi).2 ⟨h3, q⟩)
  apply h2
  refine h5.mono (fun y hy => ?_)
  obtain ⟨h6, h7⟩ := List.mem_filter.1 hy
  have hyt : y ∈ t := by
    rw [ht, List.mem_filter]
    exact ⟨h6, decide_eq_true fun q => ((mem_garb hi).1 q).2 (.base hy)⟩
  refine .base (List.mem_filter.2 ⟨hyt, decide_eq_true ?_⟩)
  have h8 := of_decide_eq_true h7
  have h9 := (hi y h6).1
  rw [tv_eq hg hr h9] at h8 ⊢
  have h10 : t.Sublist s := by rw [ht]; exact List.filter_sublist
  have := setRefs_mono (g := g) h10 y
  omega
end Go.Proofs.GR
