/- Collections: generations behind one. Plain, no program in sight. -/
import Derived.Test.YtckninkpjdcfbaaGrGarb
set_option linter.unusedSimpArgs false
set_option linter.unusedVariables false
namespace Go.Proofs.GR

/-- The same value at all of some places. -/
def sets (c l : List Int) (v : Int) : List Int := l.foldl (fun c x => c.set x.toNat v) c
theorem sets_length (l : List Int) (v : Int) : ∀ c, (sets c l v).length = c.length := by
  induction l with
  | nil => intro c; rfl
  | cons x l ih => intro c; exact (ih _).trans (by simp)
theorem sets_append (c a b : List Int) (v : Int) : sets c (a ++ b) v = sets (sets c a v) b v := by simp [sets, List.foldl_append]
theorem sets_getD (l : List Int) (v : Int) : ∀ (c : List Int) (i : Nat), (∀ x ∈ l, 0 ≤ x ∧ x < (c.length : Int)) → (sets c l v).getD i 0 = if (i : Int) ∈ l then v else c.getD i 0 := by
  induction l with
  | nil => intro c i _; simp [sets]
  | cons x l ih =>
    intro c i h
    have hx := h x List.mem_cons_self
    have h2 := ih (c.set x.toNat v) i (fun y hy => by rw [List.length_set]; exact h y (List.mem_cons_of_mem _ hy))
    show (sets (c.set x.toNat v) l v).getD i 0 = _
    rw [h2, getD_set (by omega)]
    by_cases h3 : (i : Int) ∈ l
    · rw [if_pos h3, if_pos (List.mem_cons_of_mem _ h3)]
    · rw [if_neg h3]
      by_cases h4 : x.toNat = i
      · rw [if_pos h4, if_pos (by rw [show (i : Int) = x by omega]; exact List.mem_cons_self)]
      · rw [if_neg h4, if_neg (fun q => by
          rcases List.mem_cons.1 q with q | q
          · omega
          · exact h3 q)]
/-- The objects of the generations up to one, among the first n. -/
def upS (gens : List Int) (top : Int) (n : Nat) : List Int := (allL n).filter fun x => decide (gens.getD x.toNat 0 ≤ top)
theorem allL_succ (n : Nat) : allL (n + 1) = allL n ++ [(n : Int)] := by unfold allL; rw [List.range_succ, List.map_append]; rfl
theorem upS_succ (gens : List Int) (top : Int) (n : Nat) : upS gens top (n + 1) = if gens.getD n 0 ≤ top then upS gens top n ++ [(n : Int)] else upS gens top n := by
  unfold upS
  rw [allL_succ, List.filter_append]
  by_cases c : gens.getD n 0 ≤ top
  · rw [if_pos c, List.filter_cons_of_pos (by simpa using c)]; rfl
  · rw [if_neg c, List.filter_cons_of_neg (by simpa using c)]; simp
theorem upS_len (gens : List Int) (top : Int) (n : Nat) : (upS gens top n).length ≤ n := Nat.le_trans (List.length_filter_le ..) (by rw [allL_length]; omega)
theorem mem_upS {gens : List Int} {top : Int} {n : Nat} {x : Int} : x ∈ upS gens top n ↔ (0 ≤ x ∧ x < (n : Int)) ∧ gens.getD x.toNat 0 ≤ top := by
  unfold upS
  rw [List.mem_filter, mem_allL, decide_eq_true_eq]
theorem upS_asc (gens : List Int) (top : Int) (n : Nat) : asc (upS gens top n) := asc_filter (allL_asc n) _
noncomputable def col (g : List (List Int)) (r gens : List Int) (top : Int) : List Int := sets (sets gens (upS gens top gens.length) (min (top + 1) 2)) (garb g r (upS gens top gens.length)) (-1)
theorem col_length (g : List (List Int)) (r gens : List Int) (top : Int) : (col g r gens top).length = gens.length := by unfold col; rw [sets_length, sets_length]
theorem col_getD {g : List (List Int)} {r gens : List Int} {top : Int} (hl : gens.length = g.length) (i : Nat) : (col g r gens top).getD i 0 = if (i : Int) ∈ garb g r (upS gens top gens.length) then -1 else if (i : Int) ∈ upS gens top gens.length then min (top + 1) 2 else gens.getD i 0 := by
  have h1 : ∀ x ∈ upS gens top gens.length, 0 ≤ x ∧ x < (gens.length : Int) := fun x hx => (mem_upS.1 hx).1
  unfold col
  rw [sets_getD _ _ _ i (fun x hx => by rw [sets_length]; exact h1 x (List.mem_filter.1 hx).1), sets_getD _ _ _ i h1]
end Go.Proofs.GR
