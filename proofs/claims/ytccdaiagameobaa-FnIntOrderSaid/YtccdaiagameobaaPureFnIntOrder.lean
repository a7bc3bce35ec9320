/- Proved: orders are kept by sums; no condition beyond the statement's. -/
import Derived.Test.YtccdaiagameobaaIntLaw
import Derived.Test.YtccdaiagameobaaIntEv10
import Derived.Test.YtccdaiagameobaaIntDrawA
import Derived.Test.YtccdaiagameobaaIntHalf
import Derived.Test.YtccdaiagameobaaQ39
set_option linter.unusedSimpArgs false
set_option linter.unusedVariables false
namespace Go.Proofs.Ytccdaiagameobaa.Pure
open Go.RowKit Go.Proofs.Ytccdaiagameobaa.Q Go.Proofs.YtccdaiagameobaaW.PrintWords Go.Proofs.YtccdaiagameobaaW.PrintLast Go.Proofs.IM Go.Proofs.Ytccdaiagameobaa.IE Go.Proofs.Ytccdaiagameobaa.RD

theorem FnIntOrder : laws_FnIntOrder.Pure := by
  intro l h0 h1 hw
  refine Ev.rounds (g := fun k => laws_FnIntOrder.f k l) ?_
  unfold laws_FnIntOrder.f
  by_cases c0 : (l.length : Int) > 1048576
  · simp only [if_pos c0]; exact Ev.now _
  · simp only [if_neg c0]
    have hB := Bytes.of c0 hw
    obtain ⟨a, b, hd1, la, lb⟩ := DrawIntAdd_ev hB
    obtain ⟨l2, hh, hB2⟩ := Half_ok hB
    obtain ⟨c, c2, hd2, lc, lc2⟩ := DrawIntAdd_ev hB2
    refine Ev.bind hd1 ?_
    simp only [hh, Option.bind_some]
    refine Ev.bind hd2 (Ev.bind (impl_IntCmp_ev a b la lb) (Ev.bind (spec_IntCmp_ev a b la lb) ?_))
    simp only [if_true]
    obtain ⟨x, okx, ex, lx, ix, vx⟩ := res2_form (· + ·) a c
    obtain ⟨y, oky, ey, ly, iy, vy⟩ := res2_form (· + ·) b c
    have hx := impl_IntAdd_ev a c la lc
    have hy := impl_IntAdd_ev b c lb lc
    rw [ex] at hx
    rw [ey] at hy
    refine Ev.bind hx (Ev.bind hy ?_)
    cases okx with
    | false => simp only [Bool.false_eq_true, if_false]; exact Ev.now _
    | true =>
      cases oky with
      | false => simp only [Bool.false_eq_true, if_false, if_true]; exact Ev.now _
      | true =>
        simp only [if_true]
        refine Ev.bind (impl_IntCmp_ev x y (by omega) (by omega)) ?_
        have e : cmpR x y = cmpR a b := by
          unfold cmpR
          rw [if_pos ⟨(vx rfl).1, (vy rfl).1⟩, if_pos ⟨(ix.1 rfl).1, (iy.1 rfl).1⟩, (vx rfl).2, (vy rfl).2]
          exact cmp_same ..
        simp only [if_pos e]
        exact Ev.now _

end Go.Proofs.Ytccdaiagameobaa.Pure
