/- Proved: integers stay integers; no condition beyond the statement's. -/
import Derived.Test.YtccdaiagameobaaIntLaw
import Derived.Test.YtccdaiagameobaaIntEv6o
import Derived.Test.YtccdaiagameobaaIntEv6p
import Derived.Test.YtccdaiagameobaaIntDraw
import Derived.Test.YtccdaiagameobaaQ36
set_option linter.unusedSimpArgs false
set_option linter.unusedVariables false
namespace Go.Proofs.Ytccdaiagameobaa.Pure
open Go.RowKit Go.Proofs.Ytccdaiagameobaa.Q Go.Proofs.YtccdaiagameobaaW.PrintWords Go.Proofs.YtccdaiagameobaaW.PrintLast Go.Proofs.IM Go.Proofs.Ytccdaiagameobaa.IE Go.Proofs.Ytccdaiagameobaa.RD

theorem FnIntOk : laws_FnIntOk.Pure := by
  intro l h0 h1 hw
  refine Ev.rounds (g := fun k => laws_FnIntOk.f k l) ?_
  unfold laws_FnIntOk.f
  by_cases c0 : (l.length : Int) > 1048576
  · simp only [if_pos c0]; exact Ev.now _
  · simp only [if_neg c0]
    have hB := Bytes.of c0 hw
    obtain ⟨d, hn, hd, -⟩ := newRnd_ok hB
    obtain ⟨t, c1, ht, hl, q2, q3⟩ := integer_ev hd (c := 0) (by omega) (by omega)
    obtain ⟨a, rfl, la⟩ := toL (s := t) (by omega)
    have hdr : Ev (fun k => spec_DrawIntOk.f k l) (mkS a) := by
      unfold spec_DrawIntOk.f
      simp only [hn, Option.bind_some]
      exact Ev.bind ht (Ev.now _)
    refine Ev.bind hdr (Ev.bind (impl_IntOk_ev a la) (Ev.bind (spec_IntOk_ev a la) ?_))
    simp only [beq_self_eq_true, if_true]
    by_cases e : okInt a = true
    · simp only [if_pos e]
      have hs := impl_IntSub_ev [48] a (by decide) la
      have h48 : okInt [48] = true := by decide
      have n48 : numOf [48] = 0 := by decide
      unfold res2 at hs
      rw [if_pos ⟨h48, e⟩, n48] at hs
      have hb : (0 - numOf a).natAbs < 10 ^ 40 := by have := (ok_txt e).2.1; omega
      unfold fit at hs
      rw [if_pos hb] at hs
      refine Ev.bind hs ?_
      simp only [if_true]
      have ho := impl_IntOk_ev (txtL (0 - numOf a)) (by have := (ok_txt (txt_ok _ hb).1).1; have := okInt_len (txt_ok _ hb).1; omega)
      rw [(txt_ok _ hb).1] at ho
      exact Ev.bind ho (Ev.now _)
    · simp only [if_neg e]; exact Ev.now _

end Go.Proofs.Ytccdaiagameobaa.Pure
