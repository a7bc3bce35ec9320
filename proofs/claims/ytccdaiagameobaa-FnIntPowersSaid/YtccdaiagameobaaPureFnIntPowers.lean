/- Proved: powers of sums of exponents are products; no condition beyond the statement's. -/
import Derived.Test.YtccdaiagameobaaIntPowLaw
import Derived.Test.YtccdaiagameobaaIntHalf
import Derived.Test.YtccdaiagameobaaIntDrawP
import Derived.Test.YtccdaiagameobaaQ42
set_option linter.unusedSimpArgs false
set_option linter.unusedVariables false
namespace Go.Proofs.Ytccdaiagameobaa.Pure
open Go.RowKit Go.Proofs.Ytccdaiagameobaa.Q Go.Proofs.YtccdaiagameobaaW.PrintWords Go.Proofs.YtccdaiagameobaaW.PrintLast Go.Proofs.IM Go.Proofs.Ytccdaiagameobaa.IE Go.Proofs.Ytccdaiagameobaa.RD

theorem FnIntPowers : laws_FnIntPowers.Pure := by
  intro l h0 h1 hw
  refine Ev.rounds (g := fun k => laws_FnIntPowers.f k l) ?_
  unfold laws_FnIntPowers.f
  by_cases c0 : (l.length : Int) > 1048576
  · simp only [if_pos c0]; exact Ev.now _
  · simp only [if_neg c0]
    have hB := Bytes.of c0 hw
    obtain ⟨a, n, hd1, la⟩ := DrawIntPow_ev hB
    obtain ⟨l2, hh, hB2⟩ := Half_ok hB
    obtain ⟨b, m, hd2, lb⟩ := DrawIntPow_ev hB2
    obtain ⟨x, okx, ex, lx, ix, vx⟩ := powR_form a n
    have hx := impl_IntPow_ev a n la
    have hx2 := spec_IntPow_ev a n la
    rw [ex] at hx hx2
    refine Ev.bind hd1 ?_
    simp only [hh, Option.bind_some]
    refine Ev.bind hd2 (Ev.bind hx (Ev.bind hx2 ?_))
    simp only [if_true, bne_self_eq_false]
    refine Ev.step (fun k => laws_FnIntPowers.j0.eq_2 ..) ?_
    simp only [Bool.false_eq_true, if_false]
    obtain ⟨y, oky, ey, ly, iy, vy⟩ := powR_form a m
    obtain ⟨z, okz, ez, lz, iz, vz⟩ := res2_form (· * ·) x y
    have hy := impl_IntPow_ev a m la
    have hz := impl_IntMul_ev x y (by omega) (by omega)
    rw [ey] at hy
    rw [ez] at hz
    refine Ev.bind hy (Ev.bind hz ?_)
    cases okx with
    | false => simp only [Bool.false_eq_true, if_false]; exact Ev.now _
    | true =>
      cases oky with
      | false => simp only [Bool.false_eq_true, if_false, if_true]; exact Ev.now _
      | true =>
        cases okz with
        | false => simp only [Bool.false_eq_true, if_false, if_true]; exact Ev.now _
        | true =>
          have hn := (ix.1 rfl).2.1
          have hm := (iy.1 rfl).2.1
          simp only [if_true, w64 (x := n + m) (by omega) (by omega)]
          by_cases hb : n + m > 200
          · simp only [if_pos hb]; exact Ev.now _
          · simp only [if_neg hb]
            obtain ⟨w, okw, ew, lw, iw, vw⟩ := powR_form a (n + m)
            have hw2 := impl_IntPow_ev a (n + m) la
            rw [ew] at hw2
            refine Ev.bind hw2 ?_
            have e : numOf x * numOf y = numOf a ^ (n + m).toNat := by
              rw [(vx rfl).2, (vy rfl).2, show (n + m).toNat = n.toNat + m.toNat by omega, Int.pow_add]
            have hok : okw = true := by
              rw [iw]
              refine ⟨(ix.1 rfl).1, by omega, ?_⟩
              rw [← e]
              exact (iz.1 rfl).2.2
            have ewz : w = z := by
              refine ok_inj (vw hok).1 (vz rfl).1 ?_
              rw [(vw hok).2, (vz rfl).2]
              exact e.symm
            simp only [hok, if_true, mkS_toList, if_pos ewz]
            exact Ev.now _

end Go.Proofs.Ytccdaiagameobaa.Pure
