/- MroOf of the program answers as the reference's, for all rows that come in. -/
import Derived.Test.YtdlobdhpledbfaaClTop
import Derived.Test.YtdlobdhpledbfaaMarkS
import Derived.Test.YtdlobdhpledbfaaGrSame
import Derived.Test.YtdlobdhpledbfaaSSRow
import Derived.Test.YtdlobdhpledbfaaQ17
set_option linter.unusedVariables false
namespace Go.Proofs.Ytdlobdhpledbfaa.Pure
open Go.RowKit Go.Proofs.Ytdlobdhpledbfaa.Q Go.Proofs.YtdlobdhpledbfaaW.PrintWords Go.Proofs.Ytdlobdhpledbfaa.CL Go.Proofs.Ytdlobdhpledbfaa.SS Go.Proofs.Ytdlobdhpledbfaa.SR
theorem FnExactMroOf (g : List (List Int)) (a : Int) (h : InSS g) (ha : -9223372036854775808 ≤ a ∧ a ≤ 9223372036854775807) : ∃ k, laws_FnExactMroOf.f k g a = some true := by
  refine Ev.rounds (g := fun k => laws_FnExactMroOf.f k g a) ?_
  obtain ⟨z, h1, h2⟩ := szIntSS_ev g h.1 h.2 (v := 1048576) (by omega) (by omega)
  unfold laws_FnExactMroOf.f
  refine Ev.bind h1 ?_
  by_cases hr : z < 0
  · simp only [if_pos hr]
    exact Ev.now _
  simp only [if_neg hr]
  obtain ⟨-, -, hf⟩ := h2.resolve_left hr
  have hF : Fit g 10000000 := ⟨by have := hf.len; omega, fun l hl => by have := hf.rows l hl; omega⟩
  have ht := toIntSS_ev g hF
  obtain ⟨r, q1, q2, q3, q4, q5⟩ := mros g ⟨hF.len, hF.rows⟩ a
  have hl : r.1.length ≤ 1000 := by
    cases hr : r.2 with
    | false => rw [q3 hr]; simp
    | true => have := fct_len (q4 hr).2.2.2 (q4 hr).2.2.1 (q4 hr).1; omega
  have he := eqIntS_ev r.1 (by omega)
  refine Ev.bind ht (Ev.bind q2 (Ev.bind ht (Ev.bind q1 (Ev.bind he ?_))))
  simp only [bne_self_eq_false, if_true]
  refine Ev.step (fun k => laws_FnExactMroOf.j0.eq_2 ..) ?_
  simp only [Bool.false_eq_true, if_false]
  refine Ev.bind ht (Ev.bind (eqIntSS_ev g hF) ?_)
  simp only [if_true]
  obtain ⟨m, m1, m2, m3⟩ := markSS_ev g hf
  refine Ev.bind m1 ?_
  simp only [if_neg (show ¬ m < 0 by omega)]
  refine Ev.bind he ?_
  simp only [bne_self_eq_false, if_true]
  refine Ev.step (fun k => laws_FnExactMroOf.j1.eq_2 ..) ?_
  simp only [Bool.false_eq_true, if_false]
  obtain ⟨u, u1, u2, u3⟩ := markS_ev r.1 1 (by omega) (by omega) (by omega)
  have hd := heldS_ev u (by omega) (fun j hj => u2 j (by omega))
  rw [u1] at hd
  refine Ev.bind u3 (Ev.bind hd ?_)
  simp only [if_neg (show ¬ 1 + (r.1.length : Int) < 0 by omega), if_true]
  refine Ev.bind ht (Ev.bind q1 (Ev.bind he ?_))
  simp only [bne_self_eq_false, if_true]
  refine Ev.step (fun k => laws_FnExactMroOf.j2.eq_2 ..) ?_
  simp only [Bool.false_eq_true, if_false]
  refine Ev.bind hd ?_
  simp only [if_neg (show ¬ 1 + (r.1.length : Int) < 0 by omega), if_true]
  exact Ev.now _
end Go.Proofs.Ytdlobdhpledbfaa.Pure
