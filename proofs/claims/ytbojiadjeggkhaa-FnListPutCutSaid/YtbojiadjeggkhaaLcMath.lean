/- Cuts of lists: which places a cut selects; plain mathematics. -/
import Derived.RowKit
set_option linter.unusedSimpArgs false
set_option linter.unusedVariables false
namespace Go.Proofs.LC

/-- The places that a cut selects: c of them, from f on, each s behind the one before. -/
def places (f s : Int) (c : Nat) : List Int := (List.range c).map fun (i : Nat) => f + (i : Int) * s
theorem places_length (f s : Int) (c : Nat) : (places f s c).length = c := by simp [places]
theorem places_succ (f s : Int) (c : Nat) : places f s (c + 1) = f :: places (f + s) s c := by
  unfold places
  rw [List.range_succ_eq_map, List.map_cons, List.map_map]
  congr 1
  · simp
  · apply List.map_congr_left
    intro i _
    simp only [Function.comp]
    rw [Int.natCast_succ, Int.add_mul]
    omega
theorem places_snoc (f s : Int) (c : Nat) : places f s (c + 1) = places f s c ++ [f + (c : Int) * s] := by
  unfold places
  rw [List.range_succ, List.map_append]
  rfl
theorem mem_places {f s : Int} {c : Nat} {x : Int} : x ∈ places f s c ↔ ∃ i : Nat, i < c ∧ x = f + (i : Int) * s := by
  unfold places
  rw [List.mem_map]
  constructor
  · rintro ⟨i, hi, rfl⟩; exact ⟨i, List.mem_range.1 hi, rfl⟩
  · rintro ⟨i, hi, rfl⟩; exact ⟨i, List.mem_range.2 hi, rfl⟩
/-- All places lie in a list of n elements. -/
def Lies (n f s : Int) (c : Nat) : Prop := s ≠ 0 ∧ ∀ i : Nat, i < c → 0 ≤ f + (i : Int) * s ∧ f + (i : Int) * s < n
theorem Lies.mem {n f s : Int} {c : Nat} (h : Lies n f s c) {x : Int} (hx : x ∈ places f s c) : 0 ≤ x ∧ x < n := by
  obtain ⟨i, hi, rfl⟩ := mem_places.1 hx
  exact h.2 i hi
theorem place_inj {f s : Int} (hs : s ≠ 0) {i j : Nat} (h : f + (i : Int) * s = f + (j : Int) * s) : i = j := by
  have h1 : (i : Int) * s = (j : Int) * s := by omega
  have := Int.eq_of_mul_eq_mul_right hs h1
  omega
theorem last_notin {f s : Int} (hs : s ≠ 0) (c : Nat) : f + (c : Int) * s ∉ places f s c := by
  intro h
  obtain ⟨i, hi, he⟩ := mem_places.1 h
  have := place_inj hs he
  omega
/-- What is left of the first n places when some are taken out. -/
def left (P : List Int) (n : Nat) : List Nat := (List.range n).filter fun i => decide ((i : Int) ∉ P)
theorem left_count (P : List Int) (x : Int) (hx : x ∉ P) : ∀ n : Nat, (left (P ++ [x]) n).length = (left P n).length - (if 0 ≤ x ∧ x < n then 1 else 0) ∧ ((0 ≤ x ∧ x < n) → 1 ≤ (left P n).length) := by
  intro n
  induction n with
  | zero => simp [left]
  | succ n ih =>
    have e1 : ∀ Q : List Int, left Q (n + 1) = left Q n ++ if (n : Int) ∉ Q then [n] else [] := by
      intro Q
      unfold left
      rw [List.range_succ, List.filter_append]
      congr 1
      by_cases hq : (n : Int) ∈ Q <;> simp [hq]
    rw [e1, e1, List.length_append, List.length_append]
    by_cases hn : (n : Int) = x
    · subst hn
      have : ¬ (0 ≤ (n : Int) ∧ (n : Int) < (n : Nat)) := by omega
      rw [if_neg this] at ih
      rw [if_pos (show 0 ≤ (n : Int) ∧ (n : Int) < ((n + 1 : Nat) : Int) by omega), if_neg (by simp), if_pos hx, ih.1]
      simp
    · have hm : (n : Int) ∈ P ++ [x] ↔ (n : Int) ∈ P := by simp [hn]
      by_cases hq : (n : Int) ∈ P
      · rw [if_neg (by rw [hm]; simpa using hq), if_neg (by simpa using hq)]
        have hc : (0 ≤ x ∧ x < ((n + 1 : Nat) : Int)) ↔ (0 ≤ x ∧ x < (n : Int)) := by omega
        simp only [hc]
        simpa using ih
      · rw [if_pos (by rw [hm]; exact hq), if_pos hq]
        have hc : (0 ≤ x ∧ x < ((n + 1 : Nat) : Int)) ↔ (0 ≤ x ∧ x < (n : Int)) := by omega
        simp only [hc]
        simp only [List.length_cons, List.length_nil]
        constructor
        · rw [ih.1]
          split
          · rename_i h; have := ih.2 h; omega
          · omega
        · intro h; omega
theorem left_length (n : Nat) (f s : Int) : ∀ c : Nat, Lies n f s c → (left (places f s c) n).length = n - c ∧ c ≤ n := by
  intro c
  induction c with
  | zero => intro _; refine ⟨?_, by omega⟩; rw [left, List.filter_eq_self.2 (by simp [places])]; simp
  | succ c ih =>
    intro h
    have h' : Lies n f s c := ⟨h.1, fun i hi => h.2 i (by omega)⟩
    have := ih h'
    have hl := left_count (places f s c) (f + (c : Int) * s) (last_notin h.1 c) n
    have hr := h.2 c (by omega)
    rw [places_snoc]
    rw [if_pos hr] at hl
    have h2 := hl.2 hr
    omega
end Go.Proofs.LC
