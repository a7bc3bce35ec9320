/- Proved: sums can be taken in any order; no condition beyond the statement's. -/
import Derived.Test.YtccdaiagameobaaIntLaw
import Derived.Test.YtccdaiagameobaaIntEv6o
import Derived.Test.YtccdaiagameobaaIntEv6p
import Derived.Test.YtccdaiagameobaaIntDrawA
import Derived.Test.YtccdaiagameobaaIntHalf
import Derived.Test.YtccdaiagameobaaQ37
set_option linter.unusedSimpArgs false
set_option linter.unusedVariables false
namespace Go.Proofs.Ytccdaiagameobaa.Pure
open Go.RowKit Go.Proofs.Ytccdaiagameobaa.Q Go.Proofs.YtccdaiagameobaaW.PrintWords Go.Proofs.YtccdaiagameobaaW.PrintLast Go.Proofs.IM Go.Proofs.Ytccdaiagameobaa.IE Go.Proofs.Ytccdaiagameobaa.RD

theorem FnIntTriples : laws_FnIntTriples.Pure := by
  intro l h0 h1 hw
  refine Ev.rounds (g := fun k => laws_FnIntTriples.f k l) ?_
  unfold laws_FnIntTriples.f
  by_cases c0 : (l.length : Int) > 1048576
  · simp only [if_pos c0]; exact Ev.now _
  · simp only [if_neg c0]
    have hB := Bytes.of c0 hw
    obtain ⟨a, b, hd1, la, lb⟩ := DrawIntAdd_ev hB
    obtain ⟨l2, hh, hB2⟩ := Half_ok hB
    obtain ⟨c, c2, hd2, lc, lc2⟩ := DrawIntAdd_ev hB2
    refine Ev.bind hd1 ?_
    simp only [hh, Option.bind_some]
    refine Ev.bind hd2 ?_
    obtain ⟨x, okx, ex, lx, ix, vx⟩ := res2_form (· + ·) a b
    obtain ⟨y, oky, ey, ly, iy, vy⟩ := res2_form (· + ·) b c
    have hx := impl_IntAdd_ev a b la lb
    have hy := impl_IntAdd_ev b c lb lc
    rw [ex] at hx
    rw [ey] at hy
    refine Ev.bind hx (Ev.bind hy ?_)
    obtain ⟨z, okz, ez, lz, iz, vz⟩ := res2_form (· + ·) x c
    obtain ⟨w, okw, ew, lw, iw, vw⟩ := res2_form (· + ·) a y
    have hz := impl_IntAdd_ev x c (by omega) lc
    have hw' := impl_IntAdd_ev a y la (by omega)
    rw [ez] at hz
    rw [ew] at hw'
    refine Ev.bind hz (Ev.bind hw' ?_)
    have j0 : ∀ (u : Bool), (u = false → z = w) → Ev (fun k => laws_FnIntTriples.j0 k (mkS a) (mkS z) (mkS w) u) true := by
      intro u hu
      refine Ev.step (fun k => laws_FnIntTriples.j0.eq_2 ..) ?_
      cases u with
      | true =>
        simp only [if_true]
        refine Ev.bind (spec_IntOk_ev a la) (Ev.bind (impl_IntOk_ev a la) ?_)
        simp only [beq_self_eq_true, if_true]
        exact Ev.now _
      | false =>
        simp only [Bool.false_eq_true, if_false, mkS_toList, if_pos (hu rfl)]
        exact Ev.now _
    cases okx with
    | false => simp only [Bool.false_eq_true, if_false]; exact j0 true (by simp)
    | true =>
      cases oky with
      | false => simp only [Bool.false_eq_true, if_false, if_true]; exact j0 true (by simp)
      | true =>
        cases okz with
        | false => simp only [Bool.false_eq_true, if_false, if_true]; exact j0 true (by simp)
        | true =>
          simp only [if_true]
          refine j0 _ (fun hk => ?_)
          have hk' : okw = true := by cases okw <;> simp at hk ⊢
          refine ok_inj (vz rfl).1 (vw hk').1 ?_
          rw [(vz rfl).2, (vw hk').2, (vx rfl).2, (vy rfl).2]
          exact Int.add_assoc ..

end Go.Proofs.Ytccdaiagameobaa.Pure
