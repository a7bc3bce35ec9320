/- Cuts of lists that are put back: plain mathematics. -/
import Derived.Test.YtbojiadjeggkhaaGrMath
import Derived.Test.YtbojiadjeggkhaaLcMath
set_option linter.unusedSimpArgs false
set_option linter.unusedVariables false
namespace Go.Proofs.LC
open Go.Proofs.GR

/-- New elements in given places. -/
def setAll : List Int → List Int → List Int → List Int
  | l, p :: P, x :: X => setAll (l.set p.toNat x) P X
  | l, _, _ => l
theorem setAll_length : ∀ (P X l : List Int), (setAll l P X).length = l.length
  | [], _, l => by unfold setAll; rfl
  | _ :: _, [], l => by unfold setAll; rfl
  | p :: P, x :: X, l => by unfold setAll; rw [setAll_length P X]; exact List.length_set
theorem set_self (l : List Int) (i : Nat) : l.set i (l.getD i 0) = l := by
  refine ext_getD (d := 0) List.length_set fun j hj => ?_
  rw [List.length_set] at hj
  by_cases hi : i < l.length
  · rw [getD_set hi]
    split
    · rename_i e; rw [e]
    · rfl
  · rw [List.set_eq_of_length_le (by omega)]
theorem setAll_self (l : List Int) : ∀ P : List Int, setAll l P (P.map fun x => l.getD x.toNat 0) = l
  | [] => by unfold setAll; rfl
  | p :: P => by
    rw [List.map_cons]
    unfold setAll
    rw [set_self]
    exact setAll_self l P
theorem setAll_other (q : Nat) : ∀ (P X l : List Int), (∀ x ∈ P, 0 ≤ x ∧ x < l.length) → (q : Int) ∉ P → (setAll l P X).getD q 0 = l.getD q 0
  | [], _, l, _, _ => by unfold setAll; rfl
  | _ :: _, [], l, _, _ => by unfold setAll; rfl
  | p :: P, x :: X, l, h, hq => by
    unfold setAll
    have hp := h p List.mem_cons_self
    rw [setAll_other q P X _ (fun y hy => by rw [List.length_set]; exact h y (List.mem_cons_of_mem _ hy)) (fun e => hq (List.mem_cons_of_mem _ e)), getD_set (by omega), if_neg]
    intro e
    exact hq (by rw [show (q : Int) = p by omega]; exact List.mem_cons_self)
theorem cut_setAll {s : Int} (hs : s ≠ 0) : ∀ (c : Nat) (f : Int) (X l : List Int), X.length = c → Lies l.length f s c → ((places f s c).map fun x => (setAll l (places f s c) X).getD x.toNat 0) = X
  | 0, f, X, l, hX, _ => by rw [List.eq_nil_of_length_eq_zero hX]; rfl
  | c + 1, f, [], l, hX, _ => by simp at hX
  | c + 1, f, x :: X, l, hX, hL => by
    rw [places_succ, List.map_cons]
    have h0 := hL.2 0 (by omega)
    simp only [Int.natCast_zero, Int.zero_mul, Int.add_zero] at h0
    have hin : ∀ y ∈ places (f + s) s c, 0 ≤ y ∧ y < l.length := fun y hy => by
      obtain ⟨i, hi, rfl⟩ := mem_places.1 hy
      have := hL.2 (i + 1) (by omega)
      rw [Int.natCast_succ, Int.add_mul] at this
      omega
    have hL2 : Lies (l.set f.toNat x).length (f + s) s c := by
      refine ⟨hs, fun i hi => ?_⟩
      rw [List.length_set]
      have := hL.2 (i + 1) (by omega)
      rw [Int.natCast_succ, Int.add_mul] at this
      omega
    have e1 : setAll l (f :: places (f + s) s c) (x :: X) = setAll (l.set f.toNat x) (places (f + s) s c) X := by conv => lhs; unfold setAll
    rw [e1, cut_setAll hs c (f + s) X _ (by simpa using hX) hL2]
    congr 1
    have hnot : ((f.toNat : Nat) : Int) ∉ places (f + s) s c := by
      intro h
      obtain ⟨i, hi, he⟩ := mem_places.1 h
      have e2 : f + ((0 : Nat) : Int) * s = f + ((i + 1 : Nat) : Int) * s := by rw [Int.natCast_zero, Int.zero_mul, Int.natCast_succ, Int.add_mul]; omega
      have := place_inj hs e2
      omega
    rw [setAll_other f.toNat _ _ _ (fun y hy => by rw [List.length_set]; exact hin y hy) hnot, getD_set (by omega), if_pos rfl]
/-- Elements one behind the other. -/
theorem run_map (l : List Int) : ∀ (c f : Nat), f + c ≤ l.length → ((List.range' f c).map fun i => l.getD i 0) = (l.drop f).take c
  | 0, f, _ => by simp
  | c + 1, f, h => by
    rw [List.range'_succ, List.map_cons, run_map l c (f + 1) (by omega), drop_cons (d := (0 : Int)) (show f < l.length by omega), List.take_succ_cons]
theorem cut_run (l : List Int) : ∀ (c f : Nat), f + c ≤ l.length → ((places (f : Int) 1 c).map fun x => l.getD x.toNat 0) = (l.drop f).take c
  | 0, f, _ => by simp [places]
  | c + 1, f, h => by
    rw [places_succ, List.map_cons, Int.toNat_natCast, show (f : Int) + 1 = ((f + 1 : Nat) : Int) by omega, cut_run l c (f + 1) (by omega), drop_cons (d := (0 : Int)) (show f < l.length by omega), List.take_succ_cons]
theorem mem_run {f c i : Nat} : (i : Int) ∈ places (f : Int) 1 c ↔ f ≤ i ∧ i < f + c := by
  rw [mem_places]
  constructor
  · rintro ⟨j, hj, e⟩; omega
  · rintro ⟨h1, h2⟩; exact ⟨i - f, by omega, by omega⟩
theorem left_run (l : List Int) (f c : Nat) (h : f + c ≤ l.length) : ((left (places (f : Int) 1 c) l.length).map fun i => l.getD i 0) = l.take f ++ l.drop (f + c) := by
  have e : List.range l.length = List.range' 0 f ++ (List.range' f c ++ List.range' (f + c) (l.length - (f + c))) := by
    have e1 := @List.range'_append_1 f c (l.length - (f + c))
    have e2 := @List.range'_append_1 0 f (c + (l.length - (f + c)))
    rw [Nat.zero_add] at e2
    rw [e1, e2, List.range_eq_range']
    congr 1
    omega
  unfold left
  rw [e, List.filter_append, List.filter_append, List.map_append, List.map_append]
  have h1 : (List.range' 0 f).filter (fun i : Nat => decide ((i : Int) ∉ places (f : Int) 1 c)) = List.range' 0 f := by
    rw [List.filter_eq_self]
    intro i hi
    rw [List.mem_range'_1] at hi
    rw [decide_eq_true_eq, mem_run]
    omega
  have h2 : (List.range' f c).filter (fun i : Nat => decide ((i : Int) ∉ places (f : Int) 1 c)) = [] := by
    rw [List.filter_eq_nil_iff]
    intro i hi
    rw [List.mem_range'_1] at hi
    rw [decide_eq_true_eq, mem_run]
    omega
  have h3 : (List.range' (f + c) (l.length - (f + c))).filter (fun i : Nat => decide ((i : Int) ∉ places (f : Int) 1 c)) = List.range' (f + c) (l.length - (f + c)) := by
    rw [List.filter_eq_self]
    intro i hi
    rw [List.mem_range'_1] at hi
    rw [decide_eq_true_eq, mem_run]
    omega
  rw [h1, h2, h3, run_map l f 0 (by omega), run_map l _ (f + c) (by omega), List.map_nil, List.nil_append, List.drop_zero]
  congr 1
  rw [List.take_of_length_le (by rw [List.length_drop]; omega)]
end Go.Proofs.LC
