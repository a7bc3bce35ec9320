/- FinalSweeps of the program answers as the reference's. -/
import Derived.Test.YtckninkpjdcfbaaFiSweep
import Derived.Test.YtckninkpjdcfbaaIntSS
import Derived.Test.YtckninkpjdcfbaaSSRow
import Derived.Test.YtckninkpjdcfbaaFiRow
import Derived.Test.YtckninkpjdcfbaaQ0
import Derived.Test.YtckninkpjdcfbaaQ26
import Derived.Test.YtckninkpjdcfbaaQ27
set_option linter.unusedVariables false
namespace Go.Proofs.Ytckninkpjdcfbaa.Pure
open Go.RowKit Go.Proofs.Ytckninkpjdcfbaa.Q Go.Proofs.YtckninkpjdcfbaaW.PrintWords Go.Proofs.Ytckninkpjdcfbaa.SS Go.Proofs.Ytckninkpjdcfbaa.SR Go.Proofs.GR Go.Proofs.Ytckninkpjdcfbaa.GE Go.Proofs.Ytckninkpjdcfbaa.FI
def conv (x : S70) : S64 := ⟨x.f0, x.f1, x.f2⟩
theorem rd70 (l : List S70) (n : Nat) : rd_T70 l (n : Int) = l.getD n z70 := by unfold rd_T70; simp
theorem toFinalS_l (l : List S70) (hl : l.length ≤ 10000000) : ∀ (d n : Nat) (x : List S64), l.length - n = d → n ≤ l.length → x.length = l.length → Ev (fun k => laws_toFinalS.l0 k l x (n : Int)) (x.take n ++ (l.drop n).map conv) := by
  intro d
  induction d with
  | zero =>
    intro n x h1 h2 h3
    obtain rfl : n = l.length := by omega
    refine Ev.step (fun k => laws_toFinalS.l0.eq_2 ..) ?_
    simp only [if_neg (show ¬ (l.length : Int) < (l.length : Int) by omega)]
    rw [List.drop_length, List.map_nil, List.append_nil, List.take_of_length_le (by omega)]
    exact Ev.now _
  | succ d ih =>
    intro n x h1 h2 h3
    have hn : n < l.length := by omega
    refine Ev.step (fun k => laws_toFinalS.l0.eq_2 ..) ?_
    simp only [if_pos (show (n : Int) < (l.length : Int) by omega), if_pos (show (0 : Int) ≤ (n : Int) by omega), laws_toFinal.f, Option.bind_some, if_pos (show (n : Int) < (x.length : Int) by omega), wn (show n ≤ 100000000 by omega), Int.toNat_natCast]
    have := ih (n + 1) (x.set n (conv (rd_T70 l (n : Int)))) (by omega) (by omega) (by rw [List.length_set]; exact h3)
    have e : (x.set n (conv (rd_T70 l (n : Int)))).take (n + 1) ++ (l.drop (n + 1)).map conv = x.take n ++ (l.drop n).map conv := by
      have e1 : l.drop n = rd_T70 l (n : Int) :: l.drop (n + 1) := by
        rw [rd70, List.getD_eq_getElem?_getD, List.getElem?_eq_getElem hn]
        exact (List.getElem_cons_drop hn).symm
      rw [e1, List.map_cons, List.take_add_one, List.getElem?_set_self (by omega), List.take_set_of_le (Nat.le_refl _), List.append_assoc]
      rfl
    rw [e] at this
    exact this
theorem toFinalS_ev (l : List S70) (hl : l.length ≤ 10000000) : Ev (fun k => laws_toFinalS.f k l) (l.map conv) := by
  unfold laws_toFinalS.f
  simp only [if_pos (show (0 : Int) ≤ (l.length : Int) by omega), Int.toNat_natCast, if_pos (show l.length ≤ 11728124029610 by omega)]
  have := toFinalS_l l hl l.length 0 (List.replicate l.length z64) rfl (Nat.zero_le _) (by simp)
  rw [List.take_zero, List.drop_zero, List.nil_append] at this
  exact this
theorem eqFinalS_ev (l : List S64) (hl : l.length ≤ 10000000) : Ev (fun k => laws_eqFinalS.f k l l) true := by
  unfold laws_eqFinalS.f
  simp only [if_true]
  have key : ∀ (d n : Nat), l.length - n = d → n ≤ l.length → Ev (fun k => laws_eqFinalS.l0 k l l (n : Int)) true := by
    intro d
    induction d with
    | zero =>
      intro n h1 h2
      obtain rfl : n = l.length := by omega
      refine Ev.step (fun k => laws_eqFinalS.l0.eq_2 ..) ?_
      simp only [if_neg (show ¬ (l.length : Int) < (l.length : Int) by omega)]
      exact Ev.now _
    | succ d ih =>
      intro n h1 h2
      refine Ev.step (fun k => laws_eqFinalS.l0.eq_2 ..) ?_
      simp only [if_pos (show (n : Int) < (l.length : Int) by omega), if_pos (show (0 : Int) ≤ (n : Int) by omega), laws_eqFinal.f, if_true, bne_self_eq_false, Bool.false_eq_true, if_false, Option.bind_some, wn (show n ≤ 100000000 by omega)]
      exact ih (n + 1) (by omega) (by omega)
  exact key l.length 0 rfl (Nat.zero_le _)
theorem FnExactFinalSweeps (g : List (List Int)) (r : List Int) (l : List S70) (h : InSS g) (hr : r.length ≤ maxLen ∧ ∀ x ∈ r, -9223372036854775808 ≤ x ∧ x ≤ 9223372036854775807) (hl : l.length ≤ maxLen ∧ ∀ s ∈ l, (-9223372036854775808 ≤ s.f0 ∧ s.f0 ≤ 9223372036854775807) ∧ (-9223372036854775808 ≤ s.f1 ∧ s.f1 ≤ 9223372036854775807) ∧ True) : ∃ k, laws_FnExactFinalSweeps.f k g r l = some true := by
  refine Ev.rounds (g := fun k => laws_FnExactFinalSweeps.f k g r l) ?_
  unfold laws_FnExactFinalSweeps.f
  by_cases hrl : (r.length : Int) > 1048576
  · simp only [if_pos hrl]; exact Ev.now _
  simp only [if_neg hrl]
  obtain ⟨z, h1, h2⟩ := szIntSS_ev g h.1 h.2 (v := 1048576) (by omega) (by omega)
  refine Ev.bind h1 ?_
  by_cases hz : z < 0
  · simp only [if_pos hz]
    exact Ev.now _
  simp only [if_neg hz]
  obtain ⟨z1, z2, hf⟩ := h2.resolve_left hz
  have hw : wrap64 (z - (l.length : Int)) = z - (l.length : Int) := by
    have := hl.1; unfold maxLen at this; unfold wrap64; omega
  unfold laws_szFinalS.f
  rw [hw]
  by_cases hq : z - (l.length : Int) < 0
  · simp only [if_pos hq, Option.bind_some, if_pos (show (-1 : Int) < 0 by omega)]
    exact Ev.now _
  simp only [if_neg hq, Option.bind_some]
  have hll : l.length ≤ 1048576 := by omega
  have hF : Fit g 10000000 := ⟨by have := hf.len; omega, fun l hl => by have := hf.rows l hl; omega⟩
  have ht := toIntSS_ev g hF
  have hri := toIntS_ev r (by omega)
  have hli := toFinalS_ev l (by omega)
  have hS : GE.Sz g := ⟨by have := hf.len; omega, fun x => by
    by_cases e : row g x = []
    · rw [e]; simp
    · have := hf.rows _ (row_mem e); omega⟩
  obtain ⟨m, m1, m2, -⟩ := finalSweeps g hS (by have := hf.len; omega) r (by omega) (l.map conv) (by rw [List.length_map]; omega)
  refine Ev.bind ht (Ev.bind hri (Ev.bind hli (Ev.bind m2 (Ev.bind ht (Ev.bind hri (Ev.bind hli (Ev.bind m1 ?_)))))))
  simp only [if_true]
  refine Ev.bind ht (Ev.bind (eqIntSS_ev g hF) ?_)
  simp only [if_true]
  refine Ev.bind hri (Ev.bind (eqIntS_ev r (by omega)) ?_)
  simp only [if_true]
  refine Ev.bind hli (Ev.bind (eqFinalS_ev _ (by rw [List.length_map]; omega)) ?_)
  simp only [if_true]
  exact Ev.now _
end Go.Proofs.Ytckninkpjdcfbaa.Pure
