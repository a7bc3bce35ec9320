/- Proved: circles are of more than what is needed once; no condition beyond the statement's. -/
import Derived.Test.YtjipapldfjhnnaaMoNeeds
import Derived.Test.YtjipapldfjhnnaaQ7
import Derived.Test.YtjipapldfjhnnaaQ10
set_option linter.unusedSimpArgs false
set_option linter.unusedVariables false
namespace Go.Proofs.Ytjipapldfjhnnaa.Pure
open Go.RowKit Go.Proofs.Ytjipapldfjhnnaa.Q Go.Proofs.YtjipapldfjhnnaaW.PrintWords Go.Proofs.GR Go.Proofs.Ytjipapldfjhnnaa.GE Go.Proofs.Ytjipapldfjhnnaa.RD Go.Proofs.Ytjipapldfjhnnaa.MO
theorem FnImportCircle : laws_FnImportCircle.Pure := by
  intro code _ _ hw
  refine Ev.rounds (?_ : Ev (fun k => laws_FnImportCircle.f k code) true)
  unfold laws_FnImportCircle.f
  by_cases h : (code.length : Int) > 1048576
  · simp only [if_pos h]; exact Ev.now _
  simp only [if_neg h]
  obtain ⟨d, l, c, a0, c2, a, c3, e1, e2, hb, e3, e4, ha⟩ := drawn h hw
  have hdr : Ev (fun k => spec_DrawImportCircle.f k code) (l, a) := by
    unfold spec_DrawImportCircle.f
    simp only [e1, Option.bind_some]
    refine Ev.bind e2 ?_
    simp only [e3, Option.bind_some, e4]
    exact Ev.now _
  refine Ev.bind hdr (Ev.bind (impl_circ l hb a) (Ev.bind (spec_circ l hb a ha.1 ha.2) ?_))
  simp only [beq_self_eq_true, if_true]
  cases hc : circle l a with
  | false => simp only [Bool.false_eq_true, if_false]; exact Ev.now _
  | true =>
    simp only [if_true]
    have hn : Ev (fun k => impl_ImportNeeds.f k l a) (needs l a) := needs_impl l hb a
    refine Ev.bind hn ?_
    unfold circle at hc
    rw [Bool.and_eq_true] at hc
    obtain ⟨h1, h2⟩ := hc
    have h1' := h1
    rw [Bool.and_eq_true, decide_eq_true_eq] at h1'
    have hN : Nd l a := ⟨gr_of h1'.1, h1'.1, h1'.2, by unfold needs; rw [if_pos h1]⟩
    unfold circ at h2
    rw [List.any_eq_true] at h2
    obtain ⟨j, hj, h3⟩ := h2
    rw [List.mem_range, List.length_map] at hj
    rw [Bool.and_eq_true] at h3
    have hgl : (l.map edge).length = l.length := List.length_map ..
    have hjm : (j : Int) ∈ needs l a := hN.mem.2 ((flags_getD _ _ j (by omega)).1 h3.1)
    have hcj : circle l (j : Int) = true := by
      unfold circle
      rw [Bool.and_eq_true]
      refine ⟨by rw [Bool.and_eq_true, decide_eq_true_eq]; exact ⟨h1'.1, by omega, by omega⟩, ?_⟩
      unfold circ
      rw [List.any_eq_true]
      exact ⟨j, by rw [List.mem_range]; omega, by rw [Bool.and_eq_true]; exact ⟨(flags_getD _ _ j (by omega)).2 (.base (List.mem_singleton.2 rfl)), h3.2⟩⟩
    have hlen := needs_len l a
    have hll : l.length ≤ 100 := by have := (few_of h1'.1).len; omega
    generalize needs l a = q at *
    have key : ∀ (e n : Nat), q.length - n = e → n ≤ q.length → (∃ m, n ≤ m ∧ ∃ h : m < q.length, circle l q[m] = true) → Ev (fun k => laws_FnImportCircle.l0 k l q (n : Int)) true := by
      intro e
      induction e with
      | zero =>
        intro n k1 k2 k3
        obtain ⟨m, m1, m2, _⟩ := k3
        omega
      | succ e ih =>
        intro n k1 k2 k3
        have hnq : n < q.length := by omega
        have hr : rd q (n : Int) = q[n] := by unfold rd; simp [hnq]
        refine Ev.step (fun k => laws_FnImportCircle.l0.eq_2 ..) ?_
        simp only [if_pos (show (n : Int) < (q.length : Int) by omega), if_pos (show (0 : Int) ≤ (n : Int) by omega), hr]
        refine Ev.bind (impl_circ l hb q[n]) ?_
        cases hq : circle l q[n] with
        | true => simp only [if_true]; exact Ev.now _
        | false =>
          simp only [Bool.false_eq_true, if_false, nx1 (show n ≤ 100000000 by omega)]
          refine ih (n + 1) (by omega) (by omega) ?_
          obtain ⟨m, m1, m2, m3⟩ := k3
          refine ⟨m, ?_, m2, m3⟩
          rcases Nat.lt_or_ge n m with z | z
          · omega
          · obtain rfl : m = n := by omega
            rw [hq] at m3
            simp at m3
    obtain ⟨m, hm, e⟩ := List.getElem_of_mem hjm
    exact key _ 0 rfl (by omega) ⟨m, Nat.zero_le _, hm, by rw [e]; exact hcj⟩
end Go.Proofs.Ytjipapldfjhnnaa.Pure
