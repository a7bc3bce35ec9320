/- Proved: products are shared over sums; no condition beyond the statement's. -/
import Derived.Test.YtccdaiagameobaaIntLaw
import Derived.Test.YtccdaiagameobaaIntEv6o
import Derived.Test.YtccdaiagameobaaIntEv6p
import Derived.Test.YtccdaiagameobaaIntEv7
import Derived.Test.YtccdaiagameobaaIntDrawA
import Derived.Test.YtccdaiagameobaaIntHalf
import Derived.Test.YtccdaiagameobaaQ38
set_option linter.unusedSimpArgs false
set_option linter.unusedVariables false
namespace Go.Proofs.Ytccdaiagameobaa.Pure
open Go.RowKit Go.Proofs.Ytccdaiagameobaa.Q Go.Proofs.YtccdaiagameobaaW.PrintWords Go.Proofs.YtccdaiagameobaaW.PrintLast Go.Proofs.IM Go.Proofs.Ytccdaiagameobaa.IE Go.Proofs.Ytccdaiagameobaa.RD

theorem FnIntShares : laws_FnIntShares.Pure := by
  intro l h0 h1 hw
  refine Ev.rounds (g := fun k => laws_FnIntShares.f k l) ?_
  unfold laws_FnIntShares.f
  by_cases c0 : (l.length : Int) > 1048576
  · simp only [if_pos c0]; exact Ev.now _
  · simp only [if_neg c0]
    have hB := Bytes.of c0 hw
    obtain ⟨a, b, hd1, la, lb⟩ := DrawIntAdd_ev hB
    obtain ⟨l2, hh, hB2⟩ := Half_ok hB
    obtain ⟨c, c2, hd2, lc, lc2⟩ := DrawIntAdd_ev hB2
    refine Ev.bind hd1 ?_
    simp only [hh, Option.bind_some]
    refine Ev.bind hd2 ?_
    obtain ⟨s, oks, es, ls, is_, vs⟩ := res2_form (· + ·) b c
    obtain ⟨x, okx, ex, lx, ix, vx⟩ := res2_form (· * ·) a b
    obtain ⟨y, oky, ey, ly, iy, vy⟩ := res2_form (· * ·) a c
    obtain ⟨z, okz, ez, lz, iz, vz⟩ := res2_form (· * ·) a s
    obtain ⟨w, okw, ew, lw, iw, vw⟩ := res2_form (· + ·) x y
    have hs := impl_IntAdd_ev b c lb lc
    have hx := impl_IntMul_ev a b la lb
    have hy := impl_IntMul_ev a c la lc
    have hz := impl_IntMul_ev a s la (by omega)
    have hw' := impl_IntAdd_ev x y (by omega) (by omega)
    rw [es] at hs
    rw [ex] at hx
    rw [ey] at hy
    rw [ez] at hz
    rw [ew] at hw'
    refine Ev.bind hs (Ev.bind hx (Ev.bind hy (Ev.bind hz ?_)))
    have j0 : ∀ (u : Bool), (u = false → okw = true ∧ w = z) → Ev (fun k => laws_FnIntShares.j0 k (mkS a) (mkS x) (mkS y) (mkS z) u) true := by
      intro u hu
      refine Ev.step (fun k => laws_FnIntShares.j0.eq_2 ..) ?_
      cases u with
      | true =>
        simp only [if_true]
        refine Ev.bind (spec_IntOk_ev a la) (Ev.bind (impl_IntOk_ev a la) ?_)
        simp only [beq_self_eq_true, if_true]
        exact Ev.now _
      | false =>
        simp only [Bool.false_eq_true, if_false]
        refine Ev.bind hw' ?_
        simp only [(hu rfl).1, if_true, mkS_toList, if_pos (hu rfl).2]
        exact Ev.now _
    cases oks with
    | false => simp only [Bool.false_eq_true, if_false]; exact j0 true (by simp)
    | true =>
      cases okx with
      | false => simp only [Bool.false_eq_true, if_false, if_true]; exact j0 true (by simp)
      | true =>
        cases oky with
        | false => simp only [Bool.false_eq_true, if_false, if_true]; exact j0 true (by simp)
        | true =>
          simp only [if_true]
          refine j0 _ (fun hk => ?_)
          have hk' : okz = true := by cases okz <;> simp at hk ⊢
          have e : numOf x + numOf y = numOf a * numOf s := by
            rw [(vx rfl).2, (vy rfl).2, (vs rfl).2]
            exact (Int.mul_add ..).symm
          have hok : okw = true := by
            rw [iw]
            refine ⟨(vx rfl).1, (vy rfl).1, ?_⟩
            show (numOf x + numOf y).natAbs < 10 ^ 40
            rw [e]
            exact ((iz.1 hk').2.2 : _)
          refine ⟨hok, ok_inj (vw hok).1 (vz hk').1 ?_⟩
          rw [(vw hok).2, (vz hk').2]
          exact e

end Go.Proofs.Ytccdaiagameobaa.Pure
