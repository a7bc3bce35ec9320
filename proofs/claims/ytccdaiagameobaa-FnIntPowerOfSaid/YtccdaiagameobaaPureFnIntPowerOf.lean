/- Proved: powers of products are products of powers; no condition beyond the statement's. -/
import Derived.Test.YtccdaiagameobaaIntPowLaw
import Derived.Test.YtccdaiagameobaaIntHalf
import Derived.Test.YtccdaiagameobaaIntDrawA
import Derived.Test.YtccdaiagameobaaIntDrawP
import Derived.Test.YtccdaiagameobaaQ43
set_option linter.unusedSimpArgs false
set_option linter.unusedVariables false
namespace Go.Proofs.Ytccdaiagameobaa.Pure
open Go.RowKit Go.Proofs.Ytccdaiagameobaa.Q Go.Proofs.YtccdaiagameobaaW.PrintWords Go.Proofs.YtccdaiagameobaaW.PrintLast Go.Proofs.IM Go.Proofs.Ytccdaiagameobaa.IE Go.Proofs.Ytccdaiagameobaa.RD

theorem FnIntPowerOf : laws_FnIntPowerOf.Pure := by
  intro l h0 h1 hw
  refine Ev.rounds (g := fun k => laws_FnIntPowerOf.f k l) ?_
  unfold laws_FnIntPowerOf.f
  by_cases c0 : (l.length : Int) > 1048576
  · simp only [if_pos c0]; exact Ev.now _
  · simp only [if_neg c0]
    have hB := Bytes.of c0 hw
    obtain ⟨a, n, hd1, la⟩ := DrawIntPow_ev hB
    obtain ⟨l2, hh, hB2⟩ := Half_ok hB
    obtain ⟨b, b2, hd2, lb, lb2⟩ := DrawIntAdd_ev hB2
    obtain ⟨x, okx, ex, lx, ix, vx⟩ := powR_form a n
    have hx := impl_IntPow_ev a n la
    have hx2 := spec_IntPow_ev a n la
    rw [ex] at hx hx2
    refine Ev.bind hd1 ?_
    simp only [hh, Option.bind_some]
    refine Ev.bind hd2 (Ev.bind hx (Ev.bind hx2 ?_))
    simp only [if_true, bne_self_eq_false]
    refine Ev.step (fun k => laws_FnIntPowerOf.j0.eq_2 ..) ?_
    simp only [Bool.false_eq_true, if_false]
    obtain ⟨y, oky, ey, ly, iy, vy⟩ := powR_form b n
    obtain ⟨p, okp, ep, lp, ip, vp⟩ := res2_form (· * ·) a b
    obtain ⟨z, okz, ez, lz, iz, vz⟩ := res2_form (· * ·) x y
    obtain ⟨w, okw, ew, lw, iw, vw⟩ := powR_form p n
    have hy := impl_IntPow_ev b n lb
    have hp := impl_IntMul_ev a b la lb
    have hz := impl_IntMul_ev x y (by omega) (by omega)
    have hw2 := impl_IntPow_ev p n (by omega)
    rw [ey] at hy
    rw [ep] at hp
    rw [ez] at hz
    rw [ew] at hw2
    refine Ev.bind hy (Ev.bind hp (Ev.bind hz (Ev.bind hw2 ?_)))
    cases okx with
    | false => simp only [Bool.false_eq_true, if_false]; exact Ev.now _
    | true =>
      cases oky with
      | false => simp only [Bool.false_eq_true, if_false, if_true]; exact Ev.now _
      | true =>
        cases okp with
        | false => simp only [Bool.false_eq_true, if_false, if_true]; exact Ev.now _
        | true =>
          cases okz with
          | false => simp only [Bool.false_eq_true, if_false, if_true]; exact Ev.now _
          | true =>
            cases okw with
            | false => simp only [Bool.false_eq_true, if_false, if_true]; exact Ev.now _
            | true =>
              have e : w = z := by
                refine ok_inj (vw rfl).1 (vz rfl).1 ?_
                rw [(vw rfl).2, (vz rfl).2, (vp rfl).2]
                show (numOf a * numOf b) ^ n.toNat = numOf x * numOf y
                rw [(vx rfl).2, (vy rfl).2, Int.mul_pow]
              simp only [if_true, mkS_toList, if_pos e]
              exact Ev.now _

end Go.Proofs.Ytccdaiagameobaa.Pure
