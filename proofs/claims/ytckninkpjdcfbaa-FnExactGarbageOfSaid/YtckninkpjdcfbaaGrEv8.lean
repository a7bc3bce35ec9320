/- GarbageOf, for the reference. -/
import Derived.Test.YtckninkpjdcfbaaGrEv7
import Derived.Test.YtckninkpjdcfbaaQ19
set_option linter.unusedSimpArgs false
set_option linter.unusedVariables false
namespace Go.Proofs.Ytckninkpjdcfbaa.GE
open Go.RowKit Go.Proofs.Ytckninkpjdcfbaa.Q Go.Proofs.YtckninkpjdcfbaaW.PrintWords Go.Proofs.GR
theorem spec_GarbageOf_ev (g : List (List Int)) (hz : Sz g) (r : List Int) (hr : r.length ≤ 2000000) (s : List Int) (hs : s.length ≤ 2000000) : Ev (fun k => spec_GarbageOf.f k g r s) (garbR g r s) := by
  have hgl := hz.len
  unfold spec_GarbageOf.f
  have fail : (okG g && okR g r && setB g.length s) = false → Ev (fun _ => some ([] : List Int)) (garbR g r s) := by
    intro h
    unfold garbR
    rw [h]
    exact Ev.now _
  refine Ev.bind (spec_validGraph_ev g hz) ?_
  cases h1 : okG g with
  | false => simp only [Bool.false_eq_true, if_false]; exact fail (by rw [h1]; rfl)
  | true =>
    simp only [if_true]
    refine Ev.bind (spec_validRoots_ev r g.length hr (by omega)) ?_
    have e2 : (idx g.length r && decide (r.length ≤ 12)) = okR g r := rfl
    rw [e2]
    cases h2 : okR g r with
    | false => simp only [Bool.false_eq_true, if_false]; exact fail (by rw [h1, h2]; rfl)
    | true =>
      simp only [if_true]
      refine Ev.bind (spec_validSet_ev s g.length (by omega) (by omega)) ?_
      cases h3 : setB g.length s with
      | false => simp only [Bool.false_eq_true, if_false]; exact fail (by rw [h1, h2, h3]; rfl)
      | true =>
        have h : (okG g && okR g r && setB g.length s) = true := by rw [h1, h2, h3]; rfl
        obtain ⟨q1, q2, q3, q4, q5⟩ := ok_split h
        unfold garbR
        rw [if_pos h]
        simp only [if_true]
        exact Ev.bind (spec_garbage_ev g (Gr.of q1) r s q2 hr q4 hs) (Ev.now _)
end Go.Proofs.Ytckninkpjdcfbaa.GE
