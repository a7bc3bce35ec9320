/- What holds of bound arguments. -/
import Derived.Test.YtpilehndngclhaaBiEv
set_option linter.unusedSimpArgs false
set_option linter.unusedVariables false
namespace Go.Proofs.Ytpilehndngclhaa.BE
open Go.RowKit Go.Proofs.Ytpilehndngclhaa.Q Go.Proofs.YtpilehndngclhaaW.PrintWords Go.Proofs.Ytpilehndngclhaa.MO Go.Proofs.BI Go.Proofs.GR

theorem bindR_length {P : List ByteArray} {D A : List Int} {N : List ByteArray} (hN : N.length ≤ A.length) (h : (bindR P D A N).2 = 0) : (bindR P D A N).1.length = P.length := by
  unfold bindR at h ⊢
  split
  · rename_i hc
    rw [if_pos hc] at h
    simp at h
  · rename_i hc
    rw [if_neg hc] at h
    generalize hs : run (pairs P (A.drop (A.length - N.length)) N) (A.take (A.length - N.length) ++ List.replicate (P.length - (A.length - N.length)) 0) (List.replicate (A.length - N.length) true ++ List.replicate (P.length - (A.length - N.length)) false) = s at *
    unfold fin at h ⊢
    split
    · rename_i h0
      rw [if_pos h0] at h
      rw [defs_length _ _ _ _ _ h]
      have := (run_length (pairs P (A.drop (A.length - N.length)) N) (A.take (A.length - N.length) ++ List.replicate (P.length - (A.length - N.length)) 0) (List.replicate (A.length - N.length) true ++ List.replicate (P.length - (A.length - N.length)) false) (by rw [hs]; exact h0)).1
      rw [hs] at this
      rw [this, List.length_append, List.length_take, List.length_replicate]
      omega
    · rename_i h0
      rw [if_neg h0] at h
      exact absurd h h0
/-- All by name. -/
theorem bindR_own {P : List ByteArray} {X : List Int} (hP : okNames P = true) (hX : X.length = P.length) : bindR P [] X P = (X, 0) := by
  unfold bindR
  rw [hX, Nat.sub_self, if_neg (by omega), List.drop_zero]
  have e : pairs P X P = ((List.range' 0 X.length).map fun j : Nat => (j : Int)).zip X := by
    unfold pairs
    rw [hX, ← posL_at P 0 (chkL_pairwise hP)]
    rfl
  have := run_own X 0 (List.replicate P.length 0) (List.replicate P.length false) (by simp [hX]) (by simp [hX]) (fun j _ => by
    rw [List.getD_eq_getElem?_getD, List.getElem?_replicate]
    split <;> rfl)
  simp only [List.take_zero, List.nil_append, List.replicate_zero, Nat.sub_zero] at this ⊢
  rw [e, this]
  unfold fin
  simp only [if_true]
  exact defs_all _ _ _ _ _ (fun b hb => (List.mem_replicate.1 hb).2)
/-- All by place. -/
theorem bindR_plain {P : List ByteArray} {D X : List Int} (hX : X.length = P.length) : bindR P D X [] = (X, 0) := by
  unfold bindR
  rw [List.length_nil, Nat.sub_zero, hX, if_neg (by omega), Nat.sub_self]
  have e : pairs P (X.drop P.length) [] = [] := rfl
  rw [e]
  unfold run fin
  simp only [if_true, List.replicate_zero, List.append_nil]
  rw [defs_all _ _ _ _ _ (fun b hb => (List.mem_replicate.1 hb).2), List.take_of_length_le (by omega)]
/-- In another order. -/
theorem bindR_turned {P : List ByteArray} {D A : List Int} {N : List ByteArray} (hN : N.length ≤ A.length) (h : (bindR P D A N).2 = 0) :
    bindR P D (A.take (A.length - N.length) ++ (A.drop (A.length - N.length)).reverse) N.reverse = bindR P D A N := by
  have hl : (A.take (A.length - N.length)).length = A.length - N.length := by rw [List.length_take]; omega
  have hd : (A.drop (A.length - N.length)).length = N.length := by rw [List.length_drop]; omega
  have hn : (A.take (A.length - N.length) ++ (A.drop (A.length - N.length)).reverse).length - N.reverse.length = A.length - N.length := by
    rw [List.length_append, List.length_reverse, List.length_reverse, hl, hd]; omega
  unfold bindR at h ⊢
  rw [hn]
  split
  · rfl
  · rename_i hc
    rw [if_neg hc] at h
    have e1 : (A.take (A.length - N.length) ++ (A.drop (A.length - N.length)).reverse).drop (A.length - N.length) = (A.drop (A.length - N.length)).reverse := by
      rw [List.drop_append_of_le_length (by omega), List.drop_of_length_le (by omega), List.nil_append]
    have e2 : (A.take (A.length - N.length) ++ (A.drop (A.length - N.length)).reverse).take (A.length - N.length) = A.take (A.length - N.length) := by
      rw [List.take_append_of_le_length (by omega), List.take_of_length_le (by omega)]
    rw [e1, e2]
    have e3 : pairs P (A.drop (A.length - N.length)).reverse N.reverse = (pairs P (A.drop (A.length - N.length)) N).reverse := by
      unfold pairs
      rw [List.map_reverse, zip_rev _ _ (by rw [List.length_map]; omega)]
    rw [e3]
    generalize hs : run (pairs P (A.drop (A.length - N.length)) N) (A.take (A.length - N.length) ++ List.replicate (P.length - (A.length - N.length)) 0) (List.replicate (A.length - N.length) true ++ List.replicate (P.length - (A.length - N.length)) false) = s at *
    obtain ⟨o', g', c⟩ := s
    have hc0 : c = 0 := by
      unfold fin at h
      split at h
      · rename_i h0; exact h0
      · rename_i h0; exact absurd h h0
    subst hc0
    rw [run_reverse P.length _ _ _ o' g' (fun p hp => ?_) (by rw [List.length_append, List.length_replicate, hl]; omega) (by rw [List.length_append, List.length_replicate, List.length_replicate]; omega) hs]
    unfold pairs at hp
    obtain ⟨s, -, e⟩ := List.mem_map.1 (List.of_mem_zip (show (p.1, p.2) ∈ _ from hp)).1
    rw [← e]
    have := posI_lt P s
    omega
theorem bindA_fine {P : List ByteArray} {D A : List Int} {N : List ByteArray} (h : (bindA P D A N).2 = 0) : okB P D A N = true ∧ bindA P D A N = bindR P D A N := by
  unfold bindA at h ⊢
  split at h
  · rename_i hk
    rw [if_pos hk]
    exact ⟨hk, rfl⟩
  · simp at h
theorem defs_bad (n : Nat) (D : List Int) : ∀ (g : List Bool) (i : Nat) (o : List Int), (defs n D g i o).2 ≠ 0 → (defs n D g i o).1 = []
  | [], i, o, h => absurd rfl h
  | b :: g, i, o, h => by
    unfold defs at h ⊢
    split
    · rename_i hb; rw [if_pos hb] at h; exact defs_bad n D g _ _ h
    · rename_i hb
      rw [if_neg hb] at h
      split
      · rfl
      · rename_i hc; rw [if_neg hc] at h; exact defs_bad n D g _ _ h
theorem bindA_len {P : List ByteArray} {D A : List Int} {N : List ByteArray} (hP : P.length ≤ 1000) : (bindA P D A N).1.length ≤ 1000 := by
  by_cases hz : (bindA P D A N).2 = 0
  · obtain ⟨hk, he⟩ := bindA_fine hz
    rw [he] at hz ⊢
    rw [bindR_length (okB_iff.1 hk).2.2.2.2.2 hz]
    exact hP
  · have : (bindA P D A N).1 = [] := by
      unfold bindA at hz ⊢
      split
      · rename_i hk
        rw [if_pos hk] at hz
        unfold bindR at hz ⊢
        split
        · rfl
        · rename_i hc
          rw [if_neg hc] at hz
          unfold fin at hz ⊢
          split
          · rename_i h0; rw [if_pos h0] at hz; exact defs_bad _ _ _ _ _ hz
          · rfl
      · rfl
    rw [this]
    simp
end Go.Proofs.Ytpilehndngclhaa.BE
