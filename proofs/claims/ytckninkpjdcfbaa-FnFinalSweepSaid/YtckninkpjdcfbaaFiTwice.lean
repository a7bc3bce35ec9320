/- Finalizers: those that ran do not run again. -/
import Derived.Test.YtckninkpjdcfbaaFiSweep
import Derived.Test.YtckninkpjdcfbaaQ0
import Derived.Test.YtckninkpjdcfbaaQ4
set_option linter.unusedSimpArgs false
set_option linter.unusedVariables false
namespace Go.Proofs.Ytckninkpjdcfbaa.FI
open Go.RowKit Go.Proofs.Ytckninkpjdcfbaa.Q Go.Proofs.YtckninkpjdcfbaaW.PrintWords Go.Proofs.GR Go.Proofs.Ytckninkpjdcfbaa.GE
theorem swGo_ran (seen : List Bool) : ∀ (l : List S64) (ran roots : List Int) (out : List S64) (a : Int), a ∈ (swGo seen l ran roots out).1 → a ∈ ran ∨ (rdOf false seen a = false ∧ ∃ x ∈ l, x.f2 = false ∧ x.f0 = a)
  | [], ran, roots, out, a, h => by unfold swGo at h; exact .inl h
  | x :: xs, ran, roots, out, a, h => by
    unfold swGo at h
    split at h
    · rcases swGo_ran seen xs _ _ _ a h with q | ⟨q, y, hy, e⟩
      · exact .inl q
      · exact .inr ⟨q, y, List.mem_cons_of_mem _ hy, e⟩
    · rename_i hq
      have hf : x.f2 = false ∧ rdOf false seen x.f0 = false := by
        cases h1 : x.f2 <;> cases h2 : rdOf false seen x.f0 <;> simp_all
      rcases swGo_ran seen xs _ _ _ a h with q | ⟨q, y, hy, e⟩
      · rcases List.mem_append.1 q with q | q
        · exact .inl q
        · obtain rfl := List.mem_singleton.1 q
          exact .inr ⟨hf.2, x, List.mem_cons_self, hf.1, rfl⟩
      · exact .inr ⟨q, y, List.mem_cons_of_mem _ hy, e⟩
theorem swGo_left (seen : List Bool) : ∀ (l : List S64) (ran roots : List Int) (out : List S64) (y : S64), y ∈ (swGo seen l ran roots out).2.2 → y.f2 = false → y ∈ out ∨ rdOf false seen y.f0 = true
  | [], ran, roots, out, y, h, hy => by unfold swGo at h; exact .inl h
  | x :: xs, ran, roots, out, y, h, hy => by
    unfold swGo at h
    split at h
    · rename_i hq
      rcases swGo_left seen xs _ _ _ y h hy with q | q
      · rcases List.mem_append.1 q with q | q
        · exact .inl q
        · obtain rfl := List.mem_singleton.1 q
          rw [hy, Bool.false_or] at hq
          exact .inr hq
      · exact .inr q
    · rcases swGo_left seen xs _ _ _ y h hy with q | q
      · rcases List.mem_append.1 q with q | q
        · exact .inl q
        · obtain rfl := List.mem_singleton.1 q
          simp at hy
      · exact .inr q
/-- What ran in a sweep does not run in the next. -/
theorem sweep_once (g : List (List Int)) (r r' : List Int) (l : List S64) (a : Int) (h : a ∈ (sweep g r l).1) : a ∉ (sweep g r' (sweep g r l).2.2.2).1 := fun h2 => by
  rcases swGo_ran _ l [] r [] a h with q | ⟨q, _⟩
  · cases q
  · rcases swGo_ran _ _ [] r' [] a h2 with q2 | ⟨_, y, hy, hf, rfl⟩
    · cases q2
    · rcases swGo_left _ l [] r [] y hy hf with q3 | q3
      · cases q3
      · rw [q] at q3; cases q3
theorem swGo_roots (seen : List Bool) : ∀ (l : List S64) (ran roots : List Int) (out : List S64), roots.length ≤ (swGo seen l ran roots out).2.1.length
  | [], ran, roots, out => by unfold swGo; exact Nat.le_refl _
  | x :: xs, ran, roots, out => by
    unfold swGo
    split
    · exact swGo_roots seen xs _ _ _
    · refine Nat.le_trans ?_ (swGo_roots seen xs _ _ _)
      split
      · rw [List.length_append]; omega
      · exact Nat.le_refl _
theorem swGo_len (seen : List Bool) (l : List S64) (r : List Int) : (swGo seen l [] r []).2.2.length = l.length := by
  have := congrArg List.length (swGo_keys seen l [] r [])
  simpa using this
end Go.Proofs.Ytckninkpjdcfbaa.FI
