/- KeptBy of the program answers as the reference's. -/
import Derived.Test.YtckninkpjdcfbaaGrKept
import Derived.Test.YtckninkpjdcfbaaMarkS
import Derived.Test.YtckninkpjdcfbaaSSRow
import Derived.Test.YtckninkpjdcfbaaQ18
set_option linter.unusedVariables false
namespace Go.Proofs.Ytckninkpjdcfbaa.Pure
open Go.RowKit Go.Proofs.Ytckninkpjdcfbaa.Q Go.Proofs.YtckninkpjdcfbaaW.PrintWords Go.Proofs.Ytckninkpjdcfbaa.SS Go.Proofs.Ytckninkpjdcfbaa.SR Go.Proofs.GR
theorem FnExactKeptBy (g : List (List Int)) (r : List Int) (h : InSS g) (hr : r.length ≤ maxLen ∧ ∀ x ∈ r, -9223372036854775808 ≤ x ∧ x ≤ 9223372036854775807) : ∃ k, laws_FnExactKeptBy.f k g r = some true := by
  refine Ev.rounds (g := fun k => laws_FnExactKeptBy.f k g r) ?_
  unfold laws_FnExactKeptBy.f
  by_cases hrl : (r.length : Int) > 1048576
  · simp only [if_pos hrl]; exact Ev.now _
  simp only [if_neg hrl]
  obtain ⟨z, h1, h2⟩ := szIntSS_ev g h.1 h.2 (v := 1048576) (by omega) (by omega)
  refine Ev.bind h1 ?_
  by_cases hz : z < 0
  · simp only [if_pos hz]
    exact Ev.now _
  simp only [if_neg hz]
  obtain ⟨-, -, hf⟩ := h2.resolve_left hz
  have hF : Fit g 10000000 := ⟨by have := hf.len; omega, fun l hl => by have := hf.rows l hl; omega⟩
  have ht := toIntSS_ev g hF
  have hri := toIntS_ev r (by omega)
  have hS : GE.Sz g := ⟨by have := hf.len; omega, fun x => by
    by_cases e : row g x = []
    · rw [e]; simp
    · have := hf.rows _ (row_mem e); omega⟩
  obtain ⟨K, k1, k2, k3, _, _⟩ := GE.KeptBy_ev g hS r (by omega)
  have hK : K.length ≤ 10000000 := by have := hf.len; omega
  refine Ev.bind ht (Ev.bind hri (Ev.bind k2 (Ev.bind ht (Ev.bind hri (Ev.bind k1 (Ev.bind (eqIntS_ev K hK) ?_))))))
  simp only [if_true]
  refine Ev.bind ht (Ev.bind (eqIntSS_ev g hF) ?_)
  simp only [if_true]
  refine Ev.bind hri (Ev.bind (eqIntS_ev r (by omega)) ?_)
  simp only [if_true]
  obtain ⟨m, m1, m2, m3⟩ := markSS_ev g hf
  obtain ⟨y, _, _, y3⟩ := markS_ev r m (by omega) m2 (by omega)
  refine Ev.bind m1 (Ev.bind y3 ?_)
  simp only [if_neg (show ¬ m + (r.length : Int) < 0 by omega)]
  refine Ev.bind (eqIntS_ev K hK) ?_
  obtain ⟨u, u1, u2, u3⟩ := markS_ev K 1 hK (by omega) (by omega)
  have hd := heldS_ev u (by omega) (fun j hj => u2 j (by omega))
  rw [u1] at hd
  refine Ev.step (fun k => laws_FnExactKeptBy.j0.eq_2 ..) ?_
  simp only [Bool.not_true, Bool.false_eq_true, if_false]
  refine Ev.bind u3 (Ev.bind hd ?_)
  simp only [if_neg (show ¬ 1 + (K.length : Int) < 0 by omega), if_true]
  refine Ev.bind ht (Ev.bind hri (Ev.bind k1 (Ev.bind (eqIntS_ev K hK) ?_)))
  simp only [if_true]
  refine Ev.bind hd ?_
  simp only [if_neg (show ¬ 1 + (K.length : Int) < 0 by omega), if_true]
  exact Ev.now _
end Go.Proofs.Ytckninkpjdcfbaa.Pure
