/- Proved: powers grow by one factor; no condition beyond the statement's. -/
import Derived.Test.YtccdaiagameobaaIntPowLaw
import Derived.Test.YtccdaiagameobaaIntDrawP
import Derived.Test.YtccdaiagameobaaQ41
set_option linter.unusedSimpArgs false
set_option linter.unusedVariables false
namespace Go.Proofs.Ytccdaiagameobaa.Pure
open Go.RowKit Go.Proofs.Ytccdaiagameobaa.Q Go.Proofs.YtccdaiagameobaaW.PrintWords Go.Proofs.YtccdaiagameobaaW.PrintLast Go.Proofs.IM Go.Proofs.Ytccdaiagameobaa.IE Go.Proofs.Ytccdaiagameobaa.RD

theorem FnIntPow : laws_FnIntPow.Pure := by
  intro l h0 h1 hw
  refine Ev.rounds (g := fun k => laws_FnIntPow.f k l) ?_
  unfold laws_FnIntPow.f
  by_cases c0 : (l.length : Int) > 1048576
  · simp only [if_pos c0]; exact Ev.now _
  · simp only [if_neg c0]
    have hB := Bytes.of c0 hw
    obtain ⟨a, n, hd1, la⟩ := DrawIntPow_ev hB
    obtain ⟨x, okx, ex, lx, ix, vx⟩ := powR_form a n
    have hx := impl_IntPow_ev a n la
    have hx2 := spec_IntPow_ev a n la
    rw [ex] at hx hx2
    refine Ev.bind hd1 (Ev.bind hx (Ev.bind hx2 ?_))
    simp only [beq_self_eq_true, if_true]
    refine Ev.step (fun k => laws_FnIntPow.j0.eq_2 ..) ?_
    simp only [if_true]
    refine Ev.step (fun k => laws_FnIntPow.j1.eq_2 ..) ?_
    cases okx with
    | false => simp only [Bool.not_false, if_true]; exact Ev.now _
    | true =>
      have hn := (ix.1 rfl).2.1
      simp only [Bool.not_true, Bool.false_eq_true, if_false, w64 (x := n + 1) (by omega) (by omega)]
      obtain ⟨y, oky, ey, ly, iy, vy⟩ := powR_form a (n + 1)
      obtain ⟨z, okz, ez, lz, iz, vz⟩ := res2_form (· * ·) a x
      have hy := impl_IntPow_ev a (n + 1) la
      have hz := impl_IntMul_ev a x la (by omega)
      rw [ey] at hy
      rw [ez] at hz
      refine Ev.bind hy (Ev.bind hz ?_)
      have key : oky = true → okz = true ∧ y = z := by
        intro q
        have e : numOf a * numOf x = numOf a ^ (n + 1).toNat := by
          rw [(vx rfl).2, show (n + 1).toNat = n.toNat + 1 by omega, Int.pow_succ, Int.mul_comm]
        have hok : okz = true := by
          rw [iz]
          refine ⟨(ix.1 rfl).1, (vx rfl).1, ?_⟩
          show (numOf a * numOf x).natAbs < 10 ^ 40
          rw [e]
          exact (iy.1 q).2.2
        refine ⟨hok, ok_inj (vy q).1 (vz hok).1 ?_⟩
        rw [(vy q).2, (vz hok).2]
        exact e.symm
      have fin : Ev (fun _ => if oky = true then (if okz = true then (if (mkS y).toList = (mkS z).toList then (some true) else (some false)) else (some false)) else (some true)) true := by
        cases oky with
        | false => simp only [Bool.false_eq_true, if_false]; exact Ev.now _
        | true =>
          obtain ⟨k1, k2⟩ := key rfl
          simp only [k1, if_true, mkS_toList, if_pos k2]
          exact Ev.now _
      by_cases hn0 : n > 0
      · simp only [if_pos hn0]
        exact fin
      · simp only [if_neg hn0]
        have e0 : n.toNat = 0 := by omega
        have ex1 : x = [49] := by
          have h49 : okInt [49] = true := by decide
          have n49 : numOf [49] = 1 := by decide
          refine ok_inj (vx rfl).1 h49 ?_
          rw [(vx rfl).2, n49, e0, Int.pow_zero]
        have : (mkS x).toList = [49] := by rw [mkS_toList, ex1]
        simp only [this, if_true]
        exact fin

end Go.Proofs.Ytccdaiagameobaa.Pure
