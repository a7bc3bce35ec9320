/- Graphs of whole numbers: rows of references, what is reached, counts. Plain, no program in sight. -/
set_option linter.unusedSimpArgs false
set_option linter.unusedVariables false
namespace Go.Proofs.GR

theorem getD_lt {α : Type} {l : List α} {n : Nat} {d : α} (h : n < l.length) : l.getD n d = l[n] := by simp [List.getD_eq_getElem?_getD, h]
theorem getD_ge {α : Type} {l : List α} {n : Nat} {d : α} (h : l.length ≤ n) : l.getD n d = d := by simp [List.getD_eq_getElem?_getD, List.getElem?_eq_none h]
theorem getD_mem {α : Type} {l : List α} {n : Nat} {d : α} (h : n < l.length) : l.getD n d ∈ l := by rw [getD_lt h]; exact List.getElem_mem h
theorem getD_set {α : Type} {l : List α} {i j : Nat} {x d : α} (h : i < l.length) : (l.set i x).getD j d = if i = j then x else l.getD j d := by
  rw [List.getD_eq_getElem?_getD, List.getElem?_set]
  split
  · rename_i e; subst e; simp [h]
  · rw [← List.getD_eq_getElem?_getD]
theorem mem_getD {α : Type} {l : List α} {x d : α} (h : x ∈ l) : ∃ n, n < l.length ∧ l.getD n d = x := by
  obtain ⟨n, hn, e⟩ := List.getElem_of_mem h
  exact ⟨n, hn, by rw [getD_lt hn, e]⟩
theorem ext_getD {α : Type} {a b : List α} {d : α} (hl : a.length = b.length) (h : ∀ i, i < a.length → a.getD i d = b.getD i d) : a = b := by
  apply List.ext_getElem hl
  intro i h1 h2
  have := h i h1
  rwa [getD_lt h1, getD_lt h2] at this
theorem take_succ {α : Type} {l : List α} {n : Nat} {d : α} (h : n < l.length) : l.take (n + 1) = l.take n ++ [l.getD n d] := by
  rw [List.take_add_one, getD_lt h, List.getElem?_eq_getElem h]; rfl
theorem drop_cons {α : Type} {l : List α} {n : Nat} {d : α} (h : n < l.length) : l.drop n = l.getD n d :: l.drop (n + 1) := by
  rw [getD_lt h, List.drop_eq_getElem_cons h]

def row (g : List (List Int)) (x : Int) : List Int := g.getD x.toNat []
def idx (n : Nat) (l : List Int) : Bool := l.all fun x => decide (0 ≤ x ∧ x < (n : Int))
theorem idx_iff {n : Nat} {l : List Int} : idx n l = true ↔ ∀ x ∈ l, 0 ≤ x ∧ x < (n : Int) := by simp [idx, List.all_eq_true]
theorem idx_cons {n : Nat} {x : Int} {l : List Int} : idx n (x :: l) = (decide (0 ≤ x ∧ x < (n : Int)) && idx n l) := by simp [idx]
def okG (g : List (List Int)) : Bool := (g.all fun r => idx g.length r && decide (r.length ≤ 5)) && decide (g.length ≤ 12)
def okR (g : List (List Int)) (r : List Int) : Bool := idx g.length r && decide (r.length ≤ 12)

/-- A graph: rows of valid indices, few in a row. -/
structure Gr (g : List (List Int)) : Prop where
  len : g.length ≤ 1000
  row_len : ∀ x, (row g x).length ≤ 100
  row_idx : ∀ x, ∀ y ∈ row g x, 0 ≤ y ∧ y < (g.length : Int)
theorem row_mem {g : List (List Int)} {x : Int} (h : (row g x) ≠ []) : row g x ∈ g := by
  unfold row at h ⊢
  rcases Nat.lt_or_ge x.toNat g.length with c | c
  · exact getD_mem c
  · rw [getD_ge c] at h; exact absurd rfl h
theorem okG_iff {g : List (List Int)} : okG g = true ↔ (∀ r ∈ g, idx g.length r = true ∧ r.length ≤ 5) ∧ g.length ≤ 12 := by
  simp [okG, List.all_eq_true]
theorem Gr.of {g : List (List Int)} (h : okG g = true) : Gr g := by
  obtain ⟨h1, h2⟩ := okG_iff.1 h
  have key : ∀ x, (row g x).length ≤ 5 ∧ ∀ y ∈ row g x, 0 ≤ y ∧ y < (g.length : Int) := by
    intro x
    by_cases e : row g x = []
    · rw [e]; simp
    · obtain ⟨a, b⟩ := h1 _ (row_mem e)
      exact ⟨b, idx_iff.1 a⟩
  exact ⟨by omega, fun x => by have := (key x).1; omega, fun x => (key x).2⟩

inductive Rch (g : List (List Int)) (from_ : List Int) : Int → Prop
  | base {x : Int} : x ∈ from_ → Rch g from_ x
  | step {x y : Int} : Rch g from_ y → x ∈ row g y → Rch g from_ x
theorem Rch.idx {g : List (List Int)} (hg : Gr g) {r : List Int} (hr : ∀ x ∈ r, 0 ≤ x ∧ x < (g.length : Int)) {x : Int} (h : Rch g r x) : 0 ≤ x ∧ x < (g.length : Int) := by
  cases h with
  | base h => exact hr _ h
  | step h1 h2 => exact hg.row_idx _ _ h2
theorem Rch.mono {g : List (List Int)} {r s : List Int} (h : ∀ x ∈ r, Rch g s x) {x : Int} (hx : Rch g r x) : Rch g s x := by
  induction hx with
  | base h1 => exact h _ h1
  | step _ h2 ih => exact .step ih h2

open Classical in
/-- For each object, whether it is reached. -/
noncomputable def flags (g : List (List Int)) (r : List Int) : List Bool := (List.range g.length).map fun (i : Nat) => decide (Rch g r (i : Int))
theorem flags_length (g : List (List Int)) (r : List Int) : (flags g r).length = g.length := by simp [flags]
theorem flags_getD (g : List (List Int)) (r : List Int) (n : Nat) (h : n < g.length) : (flags g r).getD n false = true ↔ Rch g r (n : Int) := by
  unfold flags
  rw [List.getD_eq_getElem?_getD, List.getElem?_map, List.getElem?_range h]
  simp
theorem flags_iff {g : List (List Int)} {r : List Int} {x : Int} (h0 : 0 ≤ x) (h1 : x < (g.length : Int)) : (flags g r).getD x.toNat false = true ↔ Rch g r x := by
  have := flags_getD g r x.toNat (by omega)
  rwa [show ((x.toNat : Nat) : Int) = x by omega] at this
theorem flags_of {g : List (List Int)} {r : List Int} {seen : List Bool} (hl : seen.length = g.length) (h : ∀ x : Int, 0 ≤ x → x < (g.length : Int) → (seen.getD x.toNat false = true ↔ Rch g r x)) : seen = flags g r := by
  refine ext_getD (d := false) (by rw [hl, flags_length]) (fun i hi => ?_)
  have h1 := h (i : Int) (by omega) (by omega)
  have h2 := flags_iff (g := g) (r := r) (x := (i : Int)) (by omega) (by omega)
  rw [Int.toNat_natCast] at h1 h2
  rw [Bool.eq_iff_iff, h1, h2]

/-- How many are not seen. -/
def nf (l : List Bool) : Nat := (l.filter (fun b => !b)).length
theorem nf_set : ∀ {l : List Bool} {i : Nat}, i < l.length → l.getD i false = false → nf (l.set i true) + 1 = nf l
  | [], i, h, _ => by simp at h
  | b :: l, 0, h, e => by
    have : b = false := by simpa using e
    subst this
    simp [nf]
  | b :: l, i + 1, h, e => by
    have ih := nf_set (l := l) (i := i) (by simpa using h) (by simpa using e)
    cases b <;> simp [nf] at ih ⊢ <;> omega
theorem nf_le (l : List Bool) : nf l ≤ l.length := List.length_filter_le ..

/-- The places at which a flag is as wanted. -/
def idxs (l : List Bool) (b : Bool) : List Int := ((List.range l.length).filter fun i => l.getD i false == b).map fun (i : Nat) => (i : Int)
/-- The first n of them. -/
def idxsTo (l : List Bool) (b : Bool) (n : Nat) : List Int := ((List.range n).filter fun i => l.getD i false == b).map fun (i : Nat) => (i : Int)
theorem idxsTo_zero (l : List Bool) (b : Bool) : idxsTo l b 0 = [] := by simp [idxsTo]
theorem idxsTo_succ (l : List Bool) (b : Bool) (n : Nat) : idxsTo l b (n + 1) = if (l.getD n false == b) = true then idxsTo l b n ++ [(n : Int)] else idxsTo l b n := by
  unfold idxsTo
  rw [List.range_succ, List.filter_append, List.map_append]
  by_cases h : (l.getD n false == b) = true
  · rw [if_pos h, List.filter_cons_of_pos (p := fun i => l.getD i false == b) h]; rfl
  · rw [if_neg h, List.filter_cons_of_neg (p := fun i => l.getD i false == b) h]; simp
theorem idxsTo_all (l : List Bool) (b : Bool) : idxsTo l b l.length = idxs l b := rfl
theorem idxsTo_len (l : List Bool) (b : Bool) (n : Nat) : (idxsTo l b n).length ≤ n := by
  unfold idxsTo
  rw [List.length_map]
  exact Nat.le_trans (List.length_filter_le ..) (by simp)
theorem mem_idxs {l : List Bool} {b : Bool} {x : Int} : x ∈ idxs l b ↔ 0 ≤ x ∧ x < (l.length : Int) ∧ l.getD x.toNat false = b := by
  unfold idxs
  simp only [List.mem_map, List.mem_filter, List.mem_range, beq_iff_eq]
  constructor
  · rintro ⟨i, ⟨h1, h2⟩, rfl⟩
    exact ⟨by omega, by omega, by simpa using h2⟩
  · rintro ⟨h0, h1, h2⟩
    exact ⟨x.toNat, ⟨by omega, h2⟩, by omega⟩
theorem mem_reached {g : List (List Int)} {r : List Int} (hg : Gr g) (hr : ∀ x ∈ r, 0 ≤ x ∧ x < (g.length : Int)) {x : Int} : x ∈ idxs (flags g r) true ↔ Rch g r x := by
  rw [mem_idxs, flags_length]
  constructor
  · rintro ⟨h0, h1, h2⟩; exact (flags_iff h0 h1).1 h2
  · intro h
    have := h.idx hg hr
    exact ⟨this.1, this.2, (flags_iff this.1 this.2).2 h⟩
def asc (l : List Int) : Prop := l.Pairwise (· < ·)
instance (l : List Int) : Decidable (asc l) := by unfold asc; infer_instance
theorem idxs_asc (l : List Bool) (b : Bool) : asc (idxs l b) := by
  unfold asc idxs
  rw [List.pairwise_map]
  refine List.Pairwise.filter _ ?_
  exact List.Pairwise.imp (fun h => by omega) List.pairwise_lt_range
end Go.Proofs.GR
