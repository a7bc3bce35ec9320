/- Proved: orders are told by differences; no condition beyond the statement's. -/
import Derived.Test.YtccdaiagameobaaIntLaw
import Derived.Test.YtccdaiagameobaaIntEv10
import Derived.Test.YtccdaiagameobaaIntEv4
import Derived.Test.YtccdaiagameobaaIntDraw
import Derived.Test.YtccdaiagameobaaQ40
set_option linter.unusedSimpArgs false
set_option linter.unusedVariables false
namespace Go.Proofs.Ytccdaiagameobaa.Pure
open Go.RowKit Go.Proofs.Ytccdaiagameobaa.Q Go.Proofs.YtccdaiagameobaaW.PrintWords Go.Proofs.YtccdaiagameobaaW.PrintLast Go.Proofs.IM Go.Proofs.Ytccdaiagameobaa.IE Go.Proofs.Ytccdaiagameobaa.RD

theorem FnIntCmp : laws_FnIntCmp.Pure := by
  intro l h0 h1 hw
  refine Ev.rounds (g := fun k => laws_FnIntCmp.f k l) ?_
  unfold laws_FnIntCmp.f
  by_cases c0 : (l.length : Int) > 1048576
  · simp only [if_pos c0]; exact Ev.now _
  · simp only [if_neg c0]
    have hB := Bytes.of c0 hw
    have hdr : ∃ a b : List UInt8, Ev (fun k => spec_DrawIntCmp.f k l) (mkS a, mkS b) ∧ a.length ≤ 1000000000000000 ∧ b.length ≤ 1000000000000000 := by
      obtain ⟨d, hn, hd, -⟩ := newRnd_ok hB
      obtain ⟨t, c1, ht, hl, q2, q3⟩ := integer_ev hd (c := 0) (by omega) (by omega)
      obtain ⟨v, c2, hv, g0, g1, g2, g3⟩ := pick_ok hd (n := 6) (c := c1) (by omega) (by omega)
      obtain ⟨u, c3, hu, hl2, k2, k3⟩ := integer_ev hd (c := c2) (by omega) (by omega)
      obtain ⟨a, rfl, la⟩ := toL (s := t) (by omega)
      obtain ⟨b, rfl, lb⟩ := toL (s := u) (by omega)
      unfold spec_DrawIntCmp.f
      simp only [hn, Option.bind_some]
      by_cases c : v = 0
      · refine ⟨a, a, Ev.bind ht ?_, la, la⟩
        simp only [hv, Option.bind_some, if_pos c]
        exact Ev.now _
      · refine ⟨a, b, Ev.bind ht ?_, la, lb⟩
        simp only [hv, Option.bind_some, if_neg c]
        exact Ev.bind hu (Ev.now _)
    obtain ⟨a, b, hd1, la, lb⟩ := hdr
    refine Ev.bind hd1 (Ev.bind (impl_IntCmp_ev a b la lb) (Ev.bind (spec_IntCmp_ev a b la lb) ?_))
    simp only [if_true]
    by_cases hok : okInt a = true ∧ okInt b = true
    · have hc : cmpR a b = cmp (numOf a) (numOf b) := by unfold cmpR; rw [if_pos hok]
      have hc2 : cmpR b a = cmp (numOf b) (numOf a) := by unfold cmpR; rw [if_pos ⟨hok.2, hok.1⟩]
      have hne : ¬ cmpR a b = -2 := by rw [hc]; unfold cmp; split; decide; split <;> decide
      simp only [if_neg hne]
      obtain ⟨x, okx, ex, lx, ix, vx⟩ := res2_form (· - ·) a b
      have hx := impl_IntSub_ev a b la lb
      rw [ex] at hx
      refine Ev.bind hx (Ev.bind (impl_IntCmp_ev b a lb la) ?_)
      have e1 : cmpR b a = wrap64 (-(cmpR a b)) := by
        rw [hc, hc2]
        unfold cmp
        rcases Int.lt_trichotomy (numOf a) (numOf b) with h | h | h
        · rw [if_neg (by omega), if_neg (by omega), if_pos h, w64 (by omega) (by omega)]; rfl
        · rw [if_neg (by omega), if_pos (by omega), if_neg (by omega), if_pos h, w64 (by omega) (by omega)]; rfl
        · rw [if_pos h, if_neg (by omega), if_neg (by omega), w64 (by omega) (by omega)]
      have e2 : ((cmpR a b == 0) == ((mkS a).toList == (mkS b).toList)) = true := by
        rw [mkS_toList, mkS_toList, hc]
        have : (cmp (numOf a) (numOf b) == 0) = (a == b) := by
          rw [Bool.eq_iff_iff, beq_iff_eq, beq_iff_eq]
          unfold cmp
          constructor
          · intro h
            split at h
            · omega
            · split at h
              · rename_i q; exact ok_inj hok.1 hok.2 q
              · omega
          · intro h
            rw [h, if_neg (by omega), if_pos rfl]
        rw [this, beq_self_eq_true]
      simp only [if_pos e1, if_pos e2]
      cases okx with
      | false => simp only [Bool.false_eq_true, if_false]; exact Ev.now _
      | true =>
        simp only [if_true]
        have h48 : okInt [48] = true := by decide
        have n48 : numOf [48] = 0 := by decide
        have hz := impl_IntCmp_ev x [48] (by omega) (by decide)
        have e3 : cmpR x [48] = cmpR a b := by
          rw [hc]
          unfold cmpR
          rw [if_pos ⟨(vx rfl).1, h48⟩, (vx rfl).2, n48]
          have := cmp_same (numOf a - numOf b) 0 (numOf b)
          rw [Int.sub_add_cancel, Int.zero_add] at this
          exact this.symm
        refine Ev.bind hz ?_
        simp only [if_pos e3]
        exact Ev.now _
    · have hc : cmpR a b = -2 := by unfold cmpR; rw [if_neg hok]
      simp only [if_pos hc]
      exact Ev.now _

end Go.Proofs.Ytccdaiagameobaa.Pure
