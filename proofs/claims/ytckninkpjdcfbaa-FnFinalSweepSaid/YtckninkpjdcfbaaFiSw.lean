/- Finalizers: what a sweep does, plainly. -/
import Derived.Test.YtckninkpjdcfbaaGrEv5
import Derived.Test.YtckninkpjdcfbaaGrEv5s
import Derived.Test.YtckninkpjdcfbaaQ0
import Derived.Test.YtckninkpjdcfbaaQ4
import Derived.Test.YtckninkpjdcfbaaQ9
set_option linter.unusedSimpArgs false
set_option linter.unusedVariables false
namespace Go.Proofs.Ytckninkpjdcfbaa.FI
open Go.RowKit Go.Proofs.Ytckninkpjdcfbaa.Q Go.Proofs.YtckninkpjdcfbaaW.PrintWords Go.Proofs.GR Go.Proofs.Ytckninkpjdcfbaa.GE
theorem rdF (l : List S64) (n : Nat) : rd_T64 l (n : Int) = l.getD n z64 := by unfold rd_T64; simp
theorem drop_at {l : List S64} {n : Nat} (h : n < l.length) : l.drop n = rd_T64 l (n : Int) :: l.drop (n + 1) := by
  rw [rdF, List.getD_eq_getElem?_getD, List.getElem?_eq_getElem h]
  exact (List.getElem_cons_drop h).symm
theorem mem_at {l : List S64} {n : Nat} (h : n < l.length) : rd_T64 l (n : Int) ∈ l := by
  rw [rdF, List.getD_eq_getElem?_getD, List.getElem?_eq_getElem h]
  exact List.getElem_mem h
/-- Finalizers whose objects are there. -/
def FinIn (n : Nat) (l : List S64) : Prop := ∀ x ∈ l, 0 ≤ x.f0 ∧ x.f0 < (n : Int) ∧ -1 ≤ x.f1 ∧ x.f1 < (n : Int)
def RootIn (n : Nat) (r : List Int) : Prop := ∀ x ∈ r, 0 ≤ x ∧ x < (n : Int)
theorem RootIn.snoc {n : Nat} {r : List Int} (h : RootIn n r) {x : Int} (h0 : 0 ≤ x) (h1 : x < (n : Int)) : RootIn n (r ++ [x]) := fun y hy => by
  rcases List.mem_append.1 hy with q | q
  · exact h y q
  · obtain rfl := List.mem_singleton.1 q; exact ⟨h0, h1⟩
theorem wn {n : Nat} (h : n ≤ 100000000) : wrap64 ((n : Int) + 1) = ((n + 1 : Nat) : Int) := by unfold wrap64; omega
/-- What the reference's sweep comes to. -/
theorem sw_ev (g : List (List Int)) (hg : Gr g) (hgl : g.length ≤ 12) (seen : List Bool) (hs : seen.length = g.length) (l : List S64) (hl : l.length ≤ 1000) (hin : FinIn g.length l) :
    ∀ (d n : Nat) (ran roots : List Int) (out : List S64), l.length - n = d → n ≤ l.length → ran.length ≤ n → out.length ≤ n → RootIn g.length roots → roots.length ≤ 1000 + n →
    Ev (fun k => spec_finalized.l0 k g l seen (n : Int) ran roots out) ((swGo seen (l.drop n) ran roots out).1, (swGo seen (l.drop n) ran roots out).2.1, idxs (flags g (swGo seen (l.drop n) ran roots out).2.1) false, (swGo seen (l.drop n) ran roots out).2.2) ∧ RootIn g.length (swGo seen (l.drop n) ran roots out).2.1 ∧ (swGo seen (l.drop n) ran roots out).2.1.length ≤ 2000 := by
  intro d
  induction d with
  | zero =>
    intro n ran roots out h1 h2 h3 h4 h5 h6
    obtain rfl : n = l.length := by omega
    rw [List.drop_length]
    unfold swGo
    refine ⟨?_, h5, by simp only; omega⟩
    refine Ev.step (fun k => spec_finalized.l0.eq_2 ..) ?_
    simp only [if_neg (show ¬ (l.length : Int) < (l.length : Int) by omega)]
    refine Ev.bind (spec_marked_ev g hg roots h5 (by omega)) (Ev.bind (spec_indices_ev _ false (by rw [flags_length]; omega)) ?_)
    exact Ev.now _
  | succ d ih =>
    intro n ran roots out h1 h2 h3 h4 h5 h6
    have hn : n < l.length := by omega
    have hx := hin _ (mem_at hn)
    rw [drop_at hn]
    generalize hX : rd_T64 l (n : Int) = X at *
    obtain ⟨a, b, c⟩ := X
    unfold swGo
    simp only at hx ⊢
    have hstep : ∀ R, Ev (fun k => spec_finalized.j1 k g l seen (n : Int) (c || rdOf false seen a) ran roots out a b c) R → Ev (fun k => spec_finalized.l0 k g l seen (n : Int) ran roots out) R := by
      intro R hR
      refine Ev.step (fun k => spec_finalized.l0.eq_2 ..) ?_
      simp only [if_pos (show (n : Int) < (l.length : Int) by omega), if_pos (show (0 : Int) ≤ (n : Int) by omega), hX, if_pos hx.1, if_pos (show a < (seen.length : Int) by omega)]
      cases hq : rdOf false seen a with
      | true => rw [hq, Bool.or_true] at hR; simp only [if_true]; exact hR
      | false => rw [hq, Bool.or_false] at hR; simp only [Bool.false_eq_true, if_false]; exact hR
    by_cases hq : (c || rdOf false seen a) = true
    · simp only [if_pos hq]
      obtain ⟨k1, k2, k3⟩ := ih (n + 1) ran roots (out ++ [⟨a, b, c⟩]) (by omega) (by omega) (by omega) (by simp; omega) h5 (by omega)
      refine ⟨hstep _ ?_, k2, k3⟩
      rw [hq]
      refine Ev.step (fun k => spec_finalized.j1.eq_2 ..) ?_
      simp only [if_true, if_pos (show out.length < 5864062014805 by omega), wn (show n ≤ 100000000 by omega)]
      exact k1
    · simp only [if_neg hq]
      have hq' : (c || rdOf false seen a) = false := by simpa using hq
      by_cases hb : 0 ≤ b ∧ roots.length < 12
      · simp only [if_pos hb]
        obtain ⟨k1, k2, k3⟩ := ih (n + 1) (ran ++ [a]) (roots ++ [b]) (out ++ [⟨a, b, true⟩]) (by omega) (by omega) (by simp; omega) (by simp; omega) (h5.snoc hb.1 hx.2.2.2) (by simp; omega)
        refine ⟨hstep _ ?_, k2, k3⟩
        rw [hq']
        refine Ev.step (fun k => spec_finalized.j1.eq_2 ..) ?_
        simp only [Bool.false_eq_true, if_false, if_pos (show ran.length < 17592186044416 by omega), if_pos (show out.length < 5864062014805 by omega), Option.bind_some, if_pos (show b ≥ 0 from hb.1), if_pos (show (roots.length : Int) < 12 by omega), if_pos (show roots.length < 17592186044416 by omega), wn (show n ≤ 100000000 by omega)]
        exact k1
      · simp only [if_neg hb]
        obtain ⟨k1, k2, k3⟩ := ih (n + 1) (ran ++ [a]) roots (out ++ [⟨a, b, true⟩]) (by omega) (by omega) (by simp; omega) (by simp; omega) h5 (by omega)
        refine ⟨hstep _ ?_, k2, k3⟩
        rw [hq']
        refine Ev.step (fun k => spec_finalized.j1.eq_2 ..) ?_
        simp only [Bool.false_eq_true, if_false, if_pos (show ran.length < 17592186044416 by omega), if_pos (show out.length < 5864062014805 by omega), Option.bind_some, wn (show n ≤ 100000000 by omega)]
        by_cases hb0 : b ≥ 0
        · simp only [if_pos hb0, if_neg (show ¬ (roots.length : Int) < 12 by omega)]
          exact k1
        · simp only [if_neg hb0]
          exact k1
end Go.Proofs.Ytckninkpjdcfbaa.FI
