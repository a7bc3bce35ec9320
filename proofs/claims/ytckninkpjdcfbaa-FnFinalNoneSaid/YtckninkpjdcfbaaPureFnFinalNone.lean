/- Proved: without finalizers a collection is one; no condition beyond the statement's. -/
import Derived.Test.YtckninkpjdcfbaaGrEv5
import Derived.Test.YtckninkpjdcfbaaGrEv5s
import Derived.Test.YtckninkpjdcfbaaGrSame
import Derived.Test.YtckninkpjdcfbaaGrDraw
import Derived.Test.YtckninkpjdcfbaaQ0
import Derived.Test.YtckninkpjdcfbaaQ2
import Derived.Test.YtckninkpjdcfbaaQ3
import Derived.Test.YtckninkpjdcfbaaQ4
import Derived.Test.YtckninkpjdcfbaaQ15
set_option linter.unusedSimpArgs false
set_option linter.unusedVariables false
namespace Go.Proofs.Ytckninkpjdcfbaa.Pure
open Go.RowKit Go.Proofs.Ytckninkpjdcfbaa.Q Go.Proofs.YtckninkpjdcfbaaW.PrintWords Go.Proofs.YtckninkpjdcfbaaW.PrintLast Go.Proofs.GR Go.Proofs.Ytckninkpjdcfbaa.GE Go.Proofs.Ytckninkpjdcfbaa.RD
theorem idxsTo_both (l : List Bool) : ∀ n : Nat, (idxsTo l false n).length + (idxsTo l true n).length = n := by
  intro n
  induction n with
  | zero => simp [idxsTo_zero]
  | succ n ih =>
    rw [idxsTo_succ, idxsTo_succ]
    cases l.getD n false with
    | false => simp; omega
    | true => simp; omega
theorem idxs_both (l : List Bool) : (idxs l false).length + (idxs l true).length = l.length := idxsTo_both l l.length
theorem FnFinalNone : laws_FnFinalNone.Pure := by
  intro l h0 h1 hw
  refine Ev.rounds (g := fun k => laws_FnFinalNone.f k l) ?_
  unfold laws_FnFinalNone.f
  by_cases c0 : (l.length : Int) > 1048576
  · simp only [if_pos c0]; exact Ev.now _
  simp only [if_neg c0]
  have hB := Bytes.of c0 hw
  obtain ⟨d, hn, hd, -⟩ := newRnd_ok hB
  obtain ⟨g, r, c', e1, hsm, hrl, -, -⟩ := graph_ev hd
  have hz := hsm.sz
  have hg1 := hsm.1
  have hdr : Ev (fun k => spec_DrawReachedFrom.f k l) (g, r) := by
    unfold spec_DrawReachedFrom.f
    simp only [hn, Option.bind_some]
    refine Ev.bind e1 ?_
    exact Ev.now _
  have hlen := reachedR_len g r
  refine Ev.bind hdr (Ev.bind (impl_ReachedFrom_ev g hz r (by omega)) (Ev.bind (spec_ReachedFrom_ev g hz r (by omega)) (Ev.bind (SameInts_ev _ _ (by omega)) ?_)))
  simp only [decide_true, if_true]
  refine Ev.bind (impl_GraphOk_ev g hz r (by omega)) ?_
  refine Ev.step (fun k => laws_FnFinalNone.j0.eq_2 ..) ?_
  cases ho : (okG g && okR g r) with
  | false =>
    simp only [Bool.not_false, if_true]
    refine Ev.bind (spec_ReachedFrom_ev g hz r (by omega)) (Ev.bind (SameInts_ev _ _ (by omega)) ?_)
    simp only [decide_true]
    exact Ev.now _
  | true =>
    obtain ⟨hoG, hri, -, hgl⟩ := okGR ho
    have hg := Gr.of hoG
    simp only [Bool.not_true, Bool.false_eq_true, if_false]
    have hq : ([] : List S64) = [] ∧ r.length ≤ 1000 := ⟨rfl, by omega⟩
    have hf : Ev (fun k => impl_FinalSweep.f k g r ([] : List S64)) (([] : List Int), r, idxs (flags g r) false, ([] : List S64)) := by
      unfold impl_FinalSweep.f
      rw [show (fun k => if ([] : List S64) = [] ∧ r.length ≤ 1000 then (impl_GraphOk.f k g r).bind fun t => (if t = true then ((impl_reached.f k g r).bind fun s => ((impl_marked.f k s false).bind fun m => (some (([] : List Int), r, m, ([] : List S64))))) else none) else none) = (fun k => (impl_GraphOk.f k g r).bind fun t => (if t = true then ((impl_reached.f k g r).bind fun s => ((impl_marked.f k s false).bind fun m => (some (([] : List Int), r, m, ([] : List S64))))) else none)) from funext fun k => if_pos hq]
      refine Ev.bind (impl_GraphOk_ev g hz r (by omega)) ?_
      simp only [ho, if_true]
      refine Ev.bind (impl_reached_ev g hg r hri (by omega)) ?_
      exact Ev.bind (impl_marked_ev _ false (by rw [flags_length]; omega)) (Ev.now _)
    refine Ev.bind hf ?_
    simp only [List.length_nil, Int.ofNat_zero, if_true]
    refine Ev.bind (SameInts_ev _ _ (by omega)) ?_
    simp only [decide_true, if_true]
    have hb := idxs_both (flags g r)
    rw [flags_length] at hb
    have er : reachedR g r = idxs (flags g r) true := by unfold reachedR; rw [if_pos ho]
    have ew : wrap64 (((idxs (flags g r) false).length : Int) + ((reachedR g r).length : Int)) = (g.length : Int) := by
      rw [er]
      unfold wrap64
      omega
    simp only [ew, if_true]
    exact Ev.now _
end Go.Proofs.Ytckninkpjdcfbaa.Pure
