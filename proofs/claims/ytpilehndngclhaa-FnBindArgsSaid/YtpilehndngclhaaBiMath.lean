/- Arguments that are bound to parameters: plain mathematics. -/
import Derived.Test.YtpilehndngclhaaGrMath
set_option linter.unusedSimpArgs false
set_option linter.unusedVariables false
namespace Go.Proofs.BI
open Go.Proofs.GR

/-- Values put in places, one by one; each place only once. -/
def run : List (Int × Int) → List Int → List Bool → List Int × List Bool × Int
  | [], o, g => (o, g, 0)
  | (i, v) :: L, o, g => if i < 0 then ([], [], 2) else if g.getD i.toNat false = true then ([], [], 3) else run L (o.set i.toNat v) (g.set i.toNat true)
theorem run_append : ∀ (L M : List (Int × Int)) (o : List Int) (g : List Bool) (o1 : List Int) (g1 : List Bool), run L o g = (o1, g1, 0) → run (L ++ M) o g = run M o1 g1
  | [], M, o, g, o1, g1, h => by
    unfold run at h
    simp only [Prod.mk.injEq, and_true] at h
    obtain ⟨rfl, rfl⟩ := h
    rfl
  | (i, v) :: L, M, o, g, o1, g1, h => by
    unfold run at h
    rw [List.cons_append]
    conv => lhs; unfold run
    split at h
    · simp at h
    · rename_i h1
      rw [if_neg h1]
      split at h
      · simp at h
      · rename_i h2
        rw [if_neg h2]
        exact run_append L M _ _ o1 g1 h
theorem run_set (n i : Nat) (v : Int) (hi : i < n) : ∀ (L : List (Int × Int)) (o : List Int) (g : List Bool) (o' : List Int) (g' : List Bool), (∀ p ∈ L, p.1 < n) → o.length = n → g.length = n → g.getD i false = false → run L (o.set i v) (g.set i true) = (o', g', 0) →
    ∃ o1 g1, run L o g = (o1, g1, 0) ∧ o1.set i v = o' ∧ g1.set i true = g' ∧ g1.getD i false = false
  | [], o, g, o', g', _, _, _, hg, h => by
    unfold run at h
    simp only [Prod.mk.injEq, and_true] at h
    exact ⟨o, g, rfl, h.1, h.2, hg⟩
  | (j, u) :: L, o, g, o', g', hL, ho, hgl, hg, h => by
    unfold run at h
    split at h
    · simp at h
    · rename_i h1
      split at h
      · simp at h
      · rename_i h2
        have hj := hL _ List.mem_cons_self
        simp only at hj
        have hne : i ≠ j.toNat := fun e => h2 (by rw [← e, getD_set (by omega), if_pos rfl])
        rw [getD_set (by omega), if_neg hne] at h2
        rw [List.set_comm _ _ hne, List.set_comm _ _ hne] at h
        obtain ⟨o1, g1, r1, r2, r3, r4⟩ := run_set n i v hi L (o.set j.toNat u) (g.set j.toNat true) o' g' (fun p hp => hL p (List.mem_cons_of_mem _ hp)) (by rw [List.length_set]; exact ho) (by rw [List.length_set]; exact hgl) (by rw [getD_set (by omega), if_neg (fun e => hne e.symm)]; exact hg) h
        refine ⟨o1, g1, ?_, r2, r3, r4⟩
        conv => lhs; unfold run
        rw [if_neg h1, if_neg h2]
        exact r1
/-- In whatever order. -/
theorem run_reverse (n : Nat) : ∀ (L : List (Int × Int)) (o : List Int) (g : List Bool) (o' : List Int) (g' : List Bool), (∀ p ∈ L, p.1 < n) → o.length = n → g.length = n → run L o g = (o', g', 0) → run L.reverse o g = (o', g', 0)
  | [], o, g, o', g', _, _, _, h => h
  | (i, v) :: L, o, g, o', g', hL, ho, hgl, h => by
    unfold run at h
    split at h
    · simp at h
    · rename_i h1
      split at h
      · simp at h
      · rename_i h2
        have hi := hL _ List.mem_cons_self
        simp only at hi
        have hL2 : ∀ p ∈ L, p.1 < n := fun p hp => hL p (List.mem_cons_of_mem _ hp)
        obtain ⟨o1, g1, r1, r2, r3, r4⟩ := run_set n i.toNat v (by omega) L o g o' g' hL2 ho hgl (by simpa using h2) h
        rw [List.reverse_cons, run_append _ _ _ _ o1 g1 (run_reverse n L o g o1 g1 hL2 ho hgl r1)]
        unfold run
        rw [if_neg h1, if_neg (by rw [r4]; decide)]
        unfold run
        rw [r2, r3]
theorem run_length : ∀ (L : List (Int × Int)) (o : List Int) (g : List Bool), (run L o g).2.2 = 0 → (run L o g).1.length = o.length ∧ (run L o g).2.1.length = g.length
  | [], o, g, _ => ⟨rfl, rfl⟩
  | (i, v) :: L, o, g, h => by
    unfold run at h ⊢
    split at h
    · simp at h
    · rename_i h1
      rw [if_neg h1]
      split at h
      · simp at h
      · rename_i h2
        rw [if_neg h2]
        have := run_length L _ _ h
        rw [List.length_set, List.length_set] at this
        exact this
/-- What is not given has its default. -/
def defs (n : Nat) (D : List Int) : List Bool → Nat → List Int → List Int × Int
  | [], _, o => (o, 0)
  | b :: g, i, o => if b = true then defs n D g (i + 1) o else if (i : Int) < (n : Int) - (D.length : Int) then ([], 4) else defs n D g (i + 1) (o.set i (D.getD ((i : Int) - ((n : Int) - (D.length : Int))).toNat 0))
theorem defs_all (n : Nat) (D : List Int) : ∀ (g : List Bool) (i : Nat) (o : List Int), (∀ b ∈ g, b = true) → defs n D g i o = (o, 0)
  | [], i, o, _ => rfl
  | b :: g, i, o, h => by
    unfold defs
    rw [if_pos (h b List.mem_cons_self)]
    exact defs_all n D g (i + 1) o (fun b hb => h b (List.mem_cons_of_mem _ hb))
theorem defs_length (n : Nat) (D : List Int) : ∀ (g : List Bool) (i : Nat) (o : List Int), (defs n D g i o).2 = 0 → (defs n D g i o).1.length = o.length
  | [], i, o, _ => rfl
  | b :: g, i, o, h => by
    unfold defs at h ⊢
    split
    · rename_i hb
      rw [if_pos hb] at h
      exact defs_length n D g (i + 1) o h
    · rename_i hb
      rw [if_neg hb] at h
      split
      · rename_i hc
        rw [if_pos hc] at h
        simp at h
      · rename_i hc
        rw [if_neg hc] at h
        rw [defs_length n D g (i + 1) _ h, List.length_set]
/-- What is there in the first places, and something else in the others. -/
theorem fill_set {α : Type} (X : List α) (z : α) (n i : Nat) (hi : i < n) (hX : i < X.length) (d : α) : (X.take i ++ List.replicate (n - i) z).set i (X.getD i d) = X.take (i + 1) ++ List.replicate (n - (i + 1)) z := by
  have e : List.replicate (n - i) z = z :: List.replicate (n - (i + 1)) z := by rw [show n - i = n - (i + 1) + 1 by omega, List.replicate_succ]
  rw [e, List.set_append_right _ _ (by rw [List.length_take]; omega), List.length_take, Nat.min_eq_left (by omega), Nat.sub_self, List.set_cons_zero, List.take_add_one, List.getElem?_eq_getElem hX, List.getD_eq_getElem?_getD, List.getElem?_eq_getElem hX, List.append_assoc]
  rfl
/-- By name, each in its own place. -/
theorem run_own : ∀ (X : List Int) (i : Nat) (o : List Int) (g : List Bool), o.length = i + X.length → g.length = i + X.length → (∀ j, i ≤ j → g.getD j false = false) →
    run (((List.range' i X.length).map fun j : Nat => (j : Int)).zip X) o g = (o.take i ++ X, g.take i ++ List.replicate X.length true, 0)
  | [], i, o, g, ho, hg, _ => by
    simp only [List.length_nil, Nat.add_zero] at ho hg
    simp only [List.length_nil, List.range'_zero, List.map_nil, List.zip_nil_left, List.append_nil, List.replicate_zero]
    unfold run
    rw [List.take_of_length_le (by omega), List.take_of_length_le (by omega)]
  | x :: X, i, o, g, ho, hg, hf => by
    rw [List.length_cons] at ho hg
    rw [List.length_cons, List.range'_succ, List.map_cons, List.zip_cons_cons]
    unfold run
    rw [if_neg (by omega), Int.toNat_natCast, if_neg (by rw [hf i (Nat.le_refl i)]; decide), run_own X (i + 1) (o.set i x) (g.set i true) (by rw [List.length_set]; omega) (by rw [List.length_set]; omega) (fun j hj => by rw [getD_set (by omega), if_neg (by omega)]; exact hf j (by omega))]
    have e1 : (o.set i x).take (i + 1) = o.take i ++ [x] := by
      rw [List.take_add_one, List.getElem?_set_self (by omega), List.take_set_of_le (Nat.le_refl i)]
      rfl
    have e2 : (g.set i true).take (i + 1) = g.take i ++ [true] := by
      rw [List.take_add_one, List.getElem?_set_self (by omega), List.take_set_of_le (Nat.le_refl i)]
      rfl
    rw [e1, e2, List.append_assoc, List.append_assoc, List.replicate_succ]
    rfl
theorem zip_rev {α β : Type} (a : List α) (b : List β) (h : a.length = b.length) : a.reverse.zip b.reverse = (a.zip b).reverse := by
  apply List.ext_getElem
  · simp [List.length_zip, h]
  · intro i h1 h2
    simp only [List.length_zip, List.length_reverse] at h1
    simp only [List.getElem_zip, List.getElem_reverse, List.length_zip]
    congr 2 <;> omega
end Go.Proofs.BI
