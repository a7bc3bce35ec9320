/- What modules import. -/
import Derived.Test.YtjipapldfjhnnaaMoValid
import Derived.Test.YtjipapldfjhnnaaGrEv2
import Derived.Test.YtjipapldfjhnnaaQ0
import Derived.Test.YtjipapldfjhnnaaQ6
import Derived.Test.YtjipapldfjhnnaaQ7
set_option linter.unusedSimpArgs false
set_option linter.unusedVariables false
namespace Go.Proofs.Ytjipapldfjhnnaa.MO
open Go.RowKit Go.Proofs.Ytjipapldfjhnnaa.Q Go.Proofs.YtjipapldfjhnnaaW.PrintWords Go.Proofs.GR Go.Proofs.Ytjipapldfjhnnaa.GE

def imp (s : S46) : Bool := decide (s.f0 = 1 ∨ s.f0 = 2)
def edgeS (l : List S46) : List Int := (l.filter imp).map (·.f1)
def edge (m : S44) : List Int := edgeS m.f0
theorem edgeS_cons (s : S46) (l : List S46) : edgeS (s :: l) = if s.f0 = 1 ∨ s.f0 = 2 then s.f1 :: edgeS l else edgeS l := by
  unfold edgeS
  rw [List.filter_cons]
  unfold imp
  by_cases h : s.f0 = 1 ∨ s.f0 = 2
  · rw [decide_eq_true h, if_pos rfl, if_pos h]; rfl
  · rw [decide_eq_false h, if_neg (by decide), if_neg h]
structure Few (l : List S44) : Prop where
  len : l.length ≤ 6
  steps : ∀ i, i < l.length → (l.getD i z44).f0.length ≤ 8
theorem few_of {l : List S44} (h : modsOk l = true) : Few l := by
  unfold modsOk at h
  rw [Bool.and_eq_true, decide_eq_true_eq, List.all_eq_true] at h
  refine ⟨h.2.2, fun i hi => ?_⟩
  have := h.1 _ (show l.getD i z44 ∈ l by rw [getD_get l z44 hi]; exact List.getElem_mem hi)
  unfold modOk at this
  rw [Bool.and_eq_true, decide_eq_true_eq] at this
  exact this.2
theorem edge_len (m : S44) : (edge m).length ≤ m.f0.length := by
  unfold edge edgeS
  rw [List.length_map]
  exact List.length_filter_le _ _
theorem gr_of {l : List S44} (h : modsOk l = true) : Gr (l.map edge) := by
  have hf := few_of h
  have key : ∀ m ∈ l, (edge m).length ≤ 8 ∧ ∀ y ∈ edge m, 0 ≤ y ∧ y < (l.length : Int) := by
    intro m hm
    unfold modsOk at h
    rw [Bool.and_eq_true, List.all_eq_true] at h
    have h1 := h.1 m hm
    unfold modOk at h1
    rw [Bool.and_eq_true, decide_eq_true_eq, List.all_eq_true] at h1
    refine ⟨Nat.le_trans (edge_len m) h1.2, fun y hy => ?_⟩
    unfold edge edgeS at hy
    obtain ⟨s, hs, rfl⟩ := List.mem_map.1 hy
    rw [List.mem_filter] at hs
    have h2 := h1.1 s hs.1
    have h3 := hs.2
    unfold imp at h3
    rw [decide_eq_true_eq] at h3
    unfold stepOk at h2
    rw [Bool.and_eq_true, Bool.and_eq_true, decide_eq_true_eq, decide_eq_true_eq, if_neg (by omega)] at h2
    exact ⟨h2.2.1.1, by omega⟩
  have rw' : ∀ x : Int, row (l.map edge) x = [] ∨ ∃ m ∈ l, row (l.map edge) x = edge m := by
    intro x
    unfold row
    rcases Nat.lt_or_ge x.toNat l.length with q | q
    · refine .inr ⟨l[x.toNat], List.getElem_mem q, ?_⟩
      rw [getD_get (l.map edge) [] (by rw [List.length_map]; exact q), List.getElem_map]
    · left
      rw [List.getD_eq_getElem?_getD, List.getElem?_eq_none (by rw [List.length_map]; exact q)]
      rfl
  refine ⟨by rw [List.length_map]; have := hf.len; omega, fun x => ?_, fun x y hy => ?_⟩
  · rcases rw' x with q | ⟨m, hm, q⟩
    · rw [q]; simp
    · rw [q]; have := (key m hm).1; omega
  · rw [List.length_map]
    rcases rw' x with q | ⟨m, hm, q⟩
    · rw [q] at hy; simp at hy
    · rw [q] at hy; exact (key m hm).2 y hy
theorem take_more {α β : Type} (l : List α) (f : α → β) (d : α) {i : Nat} (hi : i < l.length) : (l.take i).map f ++ [f (l.getD i d)] = (l.take (i + 1)).map f := by
  rw [List.take_add_one, List.getElem?_eq_getElem hi, List.map_append, getD_get l d hi]
  rfl
theorem few_max {n : Nat} (h : n ≤ 8) : n ≤ maxLen := by unfold maxLen; omega
theorem needs_l1 (l : List S44) (hf : Few l) (i : Nat) (hi : i < l.length) (x3 : List (List Int)) (hx3 : x3.length ≤ 6) (R : List (List Int)) : ∀ (d j : Nat) (x5 : List Int), (l.getD i z44).f0.length - j = d → j ≤ (l.getD i z44).f0.length → x5.length ≤ j →
    Ev (fun k => spec_needsOf.l0 k l (x3 ++ [x5 ++ edgeS ((l.getD i z44).f0.drop j)]) ((i + 1 : Nat) : Int)) R → Ev (fun k => spec_needsOf.l1 k l x3 (i : Int) x5 (j : Int)) R := by
  have hs := hf.steps i hi
  intro d
  induction d with
  | zero =>
    intro j x5 hd hj h5 h
    obtain rfl : j = (l.getD i z44).f0.length := by omega
    refine Ev.step (fun k => spec_needsOf.l1.eq_2 ..) ?_
    simp only [if_pos (show (0 : Int) ≤ i by omega), if_pos (show (i : Int) < (l.length : Int) by omega), rd51, Int.lt_irrefl, if_false, if_pos (show x3.length < 5864062014805 by omega), wnext hi (few_max (by have := hf.len; omega))]
    rw [List.drop_length] at h
    simpa [edgeS] using h
  | succ d ih =>
    intro j x5 hd hj h5 h
    have hjl : j < (l.getD i z44).f0.length := by omega
    refine Ev.step (fun k => spec_needsOf.l1.eq_2 ..) ?_
    simp only [if_pos (show (0 : Int) ≤ i by omega), if_pos (show (i : Int) < (l.length : Int) by omega), rd51, rd54, if_pos (show (j : Int) < ((l.getD i z44).f0.length : Int) by omega), if_pos (show (0 : Int) ≤ j by omega), if_pos (show x5.length < 17592186044416 by omega), wnext hjl (few_max hs)]
    rw [drop_getD _ z46 hjl, edgeS_cons] at h
    by_cases h1 : ((l.getD i z44).f0.getD j z46).f0 = 1
    · simp only [if_pos h1]
      rw [if_pos (.inl h1)] at h
      exact ih (j + 1) _ (by omega) (by omega) (by simp; omega) (by simpa using h)
    · simp only [if_neg h1]
      by_cases h2 : ((l.getD i z44).f0.getD j z46).f0 = 2
      · simp only [if_pos h2]
        rw [if_pos (.inr h2)] at h
        exact ih (j + 1) _ (by omega) (by omega) (by simp; omega) (by simpa using h)
      · simp only [if_neg h2]
        rw [if_neg (by omega)] at h
        exact ih (j + 1) _ (by omega) (by omega) (by omega) h
theorem needs_ev (l : List S44) (hf : Few l) : Ev (fun k => spec_needsOf.f k l) (l.map edge) := by
  unfold spec_needsOf.f
  have hl := hf.len
  have := down (F := fun k i => spec_needsOf.l0 k l ((l.take i.toNat).map edge) i) (n := l.length) (res := fun _ => l.map edge) ?_ ?_ 0 (Nat.zero_le _)
  · simpa using this
  · refine Ev.step (fun k => spec_needsOf.l0.eq_2 ..) ?_
    simp only [Int.lt_irrefl, if_false, Int.toNat_natCast, List.take_length]
    exact Ev.now _
  · intro i hi ih
    refine Ev.step (fun k => spec_needsOf.l0.eq_2 ..) ?_
    simp only [if_pos (show (i : Int) < (l.length : Int) by omega), Int.toNat_natCast]
    refine needs_l1 l hf i hi _ (by rw [List.length_map, List.length_take]; omega) _ _ 0 [] rfl (Nat.zero_le _) (Nat.le_refl _) ?_
    have e : (l.take i).map edge ++ [[] ++ edgeS ((l.getD i z44).f0.drop 0)] = (l.take (i + 1)).map edge := by
      rw [List.drop_zero, List.nil_append]
      exact take_more l edge z44 hi
    rw [e]
    have := ih
    simp only [Int.toNat_natCast] at this
    exact this
theorem rdL9 (g : List (List Int)) (i : Nat) : rd_L6 g (i : Int) = g.getD i [] := by unfold rd_L6; simp
theorem imports_l1 (l : List S44) (hf : Few l) (i : Nat) (hi : i < l.length) (R : List (List Int)) : ∀ (d j : Nat) (x3 : List (List Int)), (l.getD i z44).f0.length - j = d → j ≤ (l.getD i z44).f0.length → x3.length = l.length → (x3.getD i []).length ≤ j →
    Ev (fun k => impl_importsOf.l0 k (x3.set i (x3.getD i [] ++ edgeS ((l.getD i z44).f0.drop j))) l (l.length : Int) ((i + 1 : Nat) : Int)) R → Ev (fun k => impl_importsOf.l1 k x3 (i : Int) l (l.length : Int) (i : Int) (l.getD i z44).f0 ((l.getD i z44).f0.length : Int) (j : Int)) R := by
  have hs := hf.steps i hi
  have set_set : ∀ (x : List (List Int)) (a b : List Int), i < x.length → (x.set i a).set i ((x.set i a).getD i [] ++ b) = x.set i (a ++ b) := by
    intro x a b hx
    rw [List.set_set, getD_get (x.set i a) [] (by rw [List.length_set]; exact hx), List.getElem_set_self]
  intro d
  induction d with
  | zero =>
    intro j x3 hd hj hx h3 h
    obtain rfl : j = (l.getD i z44).f0.length := by omega
    refine Ev.step (fun k => impl_importsOf.l1.eq_2 ..) ?_
    simp only [Int.lt_irrefl, if_false, wnext hi (few_max (by have := hf.len; omega))]
    have e : x3.set i (x3.getD i [] ++ edgeS ((l.getD i z44).f0.drop (l.getD i z44).f0.length)) = x3 := by
      rw [List.drop_length]
      show x3.set i (x3.getD i [] ++ []) = x3
      rw [List.append_nil, getD_get x3 [] (by omega), List.set_getElem_self]
    rw [e] at h
    exact h
  | succ d ih =>
    intro j x3 hd hj hx h3 h
    have hjl : j < (l.getD i z44).f0.length := by omega
    refine Ev.step (fun k => impl_importsOf.l1.eq_2 ..) ?_
    simp only [if_pos (show (0 : Int) ≤ i by omega), if_pos (show (i : Int) < (x3.length : Int) by omega), rd54, rdL9, Int.toNat_natCast, if_pos (show (j : Int) < ((l.getD i z44).f0.length : Int) by omega), if_pos (show (0 : Int) ≤ j by omega), if_pos (show (x3.getD i []).length < 17592186044416 by omega), wnext hjl (few_max hs)]
    rw [drop_getD _ z46 hjl, edgeS_cons] at h
    have go : Ev (fun k => impl_importsOf.l0 k (x3.set i (x3.getD i [] ++ ((l.getD i z44).f0.getD j z46).f1 :: edgeS ((l.getD i z44).f0.drop (j + 1)))) l (l.length : Int) ((i + 1 : Nat) : Int)) R → Ev (fun k => impl_importsOf.l1 k (x3.set i (x3.getD i [] ++ [((l.getD i z44).f0.getD j z46).f1])) (i : Int) l (l.length : Int) (i : Int) (l.getD i z44).f0 ((l.getD i z44).f0.length : Int) ((j + 1 : Nat) : Int)) R := by
      intro h
      refine ih (j + 1) _ (by omega) (by omega) (by rw [List.length_set]; exact hx) ?_ ?_
      · rw [getD_get (x3.set i _) [] (by rw [List.length_set]; omega), List.getElem_set_self]
        simp
        exact h3
      · rw [set_set x3 _ _ (by omega), List.append_assoc]
        exact h
    by_cases h1 : ((l.getD i z44).f0.getD j z46).f0 = 1
    · simp only [if_pos h1]
      rw [if_pos (.inl h1)] at h
      exact go h
    · simp only [if_neg h1]
      by_cases h2 : ((l.getD i z44).f0.getD j z46).f0 = 2
      · simp only [if_pos h2]
        rw [if_pos (.inr h2)] at h
        exact go h
      · simp only [if_neg h2]
        rw [if_neg (by omega)] at h
        exact ih (j + 1) _ (by omega) (by omega) hx (by omega) h
theorem imports_ev (l : List S44) (hf : Few l) : Ev (fun k => impl_importsOf.f k l) (l.map edge) := by
  unfold impl_importsOf.f
  have hl := hf.len
  simp only [if_pos (show (0 : Int) ≤ (l.length : Int) by omega), Int.toNat_natCast, if_pos (show l.length ≤ 11728124029610 by omega)]
  have := down (F := fun k i => impl_importsOf.l0 k ((l.take i.toNat).map edge ++ List.replicate (l.length - i.toNat) []) l (l.length : Int) i) (n := l.length) (res := fun _ => l.map edge) ?_ ?_ 0 (Nat.zero_le _)
  · simpa using this
  · refine Ev.step (fun k => impl_importsOf.l0.eq_2 ..) ?_
    simp only [Int.lt_irrefl, if_false, Int.toNat_natCast, List.take_length, Nat.sub_self, List.replicate_zero, List.append_nil]
    exact Ev.now _
  · intro i hi ih
    refine Ev.step (fun k => impl_importsOf.l0.eq_2 ..) ?_
    simp only [if_pos (show (i : Int) < (l.length : Int) by omega), if_pos (show (0 : Int) ≤ i by omega), Int.toNat_natCast, rd51]
    have hlen : ((l.take i).map edge).length = i := by rw [List.length_map, List.length_take]; omega
    have e0 : ((l.take i).map edge ++ List.replicate (l.length - i) ([] : List Int)).getD i [] = [] := by
      rw [List.getD_eq_getElem?_getD, List.getElem?_append_right (by omega), hlen, Nat.sub_self, List.getElem?_replicate]
      split <;> rfl
    refine imports_l1 l hf i hi _ _ 0 _ rfl (Nat.zero_le _) (by rw [List.length_append, hlen, List.length_replicate]; omega) (by rw [e0]; exact Nat.le_refl _) ?_
    have e : ((l.take i).map edge ++ List.replicate (l.length - i) ([] : List Int)).set i (((l.take i).map edge ++ List.replicate (l.length - i) ([] : List Int)).getD i [] ++ edgeS ((l.getD i z44).f0.drop 0)) = (l.take (i + 1)).map edge ++ List.replicate (l.length - (i + 1)) [] := by
      rw [e0, List.drop_zero, List.nil_append, ← take_more l edge z44 hi, show l.length - i = (l.length - (i + 1)) + 1 by omega, List.replicate_succ, List.set_append_right _ _ (by omega), hlen, Nat.sub_self, List.set_cons_zero, List.append_assoc]
      rfl
    rw [e]
    have := ih
    simp only [Int.toNat_natCast] at this
    exact this
end Go.Proofs.Ytjipapldfjhnnaa.MO
