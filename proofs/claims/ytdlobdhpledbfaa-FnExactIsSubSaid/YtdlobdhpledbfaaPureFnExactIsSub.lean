/- IsSub of the program answers as the reference's. -/
import Derived.Test.YtdlobdhpledbfaaClTop
import Derived.Test.YtdlobdhpledbfaaIntSS
import Derived.Test.YtdlobdhpledbfaaSSRow
import Derived.Test.YtdlobdhpledbfaaQ16
set_option linter.unusedVariables false
namespace Go.Proofs.Ytdlobdhpledbfaa.Pure
open Go.RowKit Go.Proofs.Ytdlobdhpledbfaa.Q Go.Proofs.YtdlobdhpledbfaaW.PrintWords Go.Proofs.Ytdlobdhpledbfaa.CL Go.Proofs.Ytdlobdhpledbfaa.SS Go.Proofs.Ytdlobdhpledbfaa.SR
theorem FnExactIsSub (g : List (List Int)) (a d : Int) (h : InSS g) (ha : -9223372036854775808 ≤ a ∧ a ≤ 9223372036854775807) (hd : -9223372036854775808 ≤ d ∧ d ≤ 9223372036854775807) : ∃ k, laws_FnExactIsSub.f k g a d = some true := by
  refine Ev.rounds (g := fun k => laws_FnExactIsSub.f k g a d) ?_
  obtain ⟨r, h1, h2⟩ := szIntSS_ev g h.1 h.2 (v := 1048576) (by omega) (by omega)
  unfold laws_FnExactIsSub.f
  refine Ev.bind h1 ?_
  by_cases hr : r < 0
  · simp only [if_pos hr]
    exact Ev.now _
  simp only [if_neg hr]
  obtain ⟨-, -, hf⟩ := h2.resolve_left hr
  have hF : Fit g 10000000 := ⟨by have := hf.len; omega, fun l hl => by have := hf.rows l hl; omega⟩
  have ht := toIntSS_ev g hF
  obtain ⟨z, _, _, _, _, b1, b2⟩ := subs g ⟨hF.len, hF.rows⟩ a d
  refine Ev.bind ht (Ev.bind b2 (Ev.bind ht (Ev.bind b1 ?_)))
  simp only [bne_self_eq_false, Bool.false_eq_true, if_false]
  refine Ev.bind ht (Ev.bind (eqIntSS_ev g hF) ?_)
  simp only [if_true]
  exact Ev.now _
end Go.Proofs.Ytdlobdhpledbfaa.Pure
