/- Freeing by counts, for the program and the reference at once. -/
import Derived.Test.YtckninkpjdcfbaaGrFree
import Derived.Test.YtckninkpjdcfbaaGrEv1
import Derived.Test.YtckninkpjdcfbaaQ0
import Derived.Test.YtckninkpjdcfbaaQ16
import Derived.Test.YtckninkpjdcfbaaQ17
set_option linter.unusedSimpArgs false
set_option linter.unusedVariables false
namespace Go.Proofs.Ytckninkpjdcfbaa.GE
open Go.RowKit Go.Proofs.Ytckninkpjdcfbaa.Q Go.Proofs.YtckninkpjdcfbaaW.PrintWords Go.Proofs.GR

theorem flatMap_row_len {g : List (List Int)} (hg : Gr g) (l : List Int) : (l.flatMap (row g)).length ≤ l.length * 100 := by
  induction l with
  | nil => simp
  | cons a l ih => rw [List.flatMap_cons, List.length_append, List.length_cons]; have := hg.row_len a; omega
theorem restc_le {g : List (List Int)} (hg : Gr g) (s : List Int) (y : Int) : restc g s y ≤ 2000000 := by
  unfold restc
  have h1 := List.count_le_length (a := y) (l := ((allL g.length).filter fun z => decide (z ∉ s)).flatMap (row g))
  have h2 := flatMap_row_len hg ((allL g.length).filter fun z => decide (z ∉ s))
  have h3 := List.length_filter_le (fun z => decide (z ∉ s)) (allL g.length)
  rw [allL_length] at h3
  have h4 := hg.len
  omega
theorem rd_app (p q : List Int) (y : Int) (i : Int) (h : i = (p.length : Nat)) : rd (p ++ y :: q) i = y := by
  unfold rd
  subst h
  simp [List.getD_eq_getElem?_getD]

theorem free_inner (g : List (List Int)) (hg : Gr g) (r : List Int) (hrl : r.length ≤ 2000000) (C : Prop) (out : List Int) (k : Int) (hk : 0 ≤ k ∧ k < (g.length : Int)) (hol : out.length ≤ 2000000)
    (cont : ∀ pile c, FInv g r C (out ++ [k]) pile c → ∃ O c', Ev (fun n => impl_freed.l0 n g c pile (out ++ [k])) (O, c') ∧ Ev (fun n => spec_released.l0 n g c (out ++ [k]) pile) (O, c') ∧ Chain g r O ∧ (C → Full g r O) ∧ (out ++ [k]) <+: O) :
    ∀ (q p pile c : List Int), row g k = p ++ q → FIn g r C (out ++ [k]) pile c q →
    ∃ O c', Ev (fun n => impl_freed.l1 n g c pile (out ++ [k]) (row g k) ((row g k).length : Int) (p.length : Int)) (O, c') ∧ Ev (fun n => spec_released.l1 n g c (out ++ [k]) pile k (p.length : Int)) (O, c') ∧ Chain g r O ∧ (C → Full g r O) ∧ (out ++ [k]) <+: O := by
  intro q
  induction q with
  | nil =>
    intro p pile c hrow h
    obtain ⟨O, c', h1, h2, h3⟩ := cont pile c h.done
    have hl : ¬ (p.length : Int) < ((row g k).length : Int) := by rw [hrow]; simp
    refine ⟨O, c', Ev.step (fun n => impl_freed.l1.eq_2 ..) ?_, Ev.step (fun n => spec_released.l1.eq_2 ..) ?_, h3⟩
    · simp only [if_neg hl]
      exact h1
    · simp only [if_pos hk.1, if_pos hk.2, if_neg (show ¬ (p.length : Int) < ((rd_L2 g k).length : Int) from hl)]
      exact h2
  | cons y q ih =>
    intro p pile c hrow h
    have hrl100 := hg.row_len k
    have hpl : p.length + q.length + 1 ≤ 100 := by rw [hrow] at hrl100; simp at hrl100; omega
    have hy : 0 ≤ y ∧ y < (g.length : Int) := hg.row_idx k y (by rw [hrow]; simp)
    have hgl := hg.len
    have hpile : pile.length ≤ g.length := nodup_len (List.nodup_append.1 h.nd).2.1 h.idx
    have hs := h.step hy
    have hval := h.val y.toNat (by omega)
    rw [show ((y.toNat : Nat) : Int) = y by omega] at hval
    have hb := restc_le hg (out ++ [k]) y
    have hc1 := List.count_le_length (a := y) (l := r)
    have hc2 := List.count_le_length (a := y) (l := y :: q)
    rw [List.length_cons] at hc2
    have hclen := h.len
    have hw : wrap64 (rd c y - 1) = c.getD y.toNat 0 - 1 := by
      unfold rd
      exact w64 (by omega) (by omega)
    have hlt : (p.length : Int) < ((row g k).length : Int) := by rw [hrow]; simp; omega
    have hrd : rd (row g k) (p.length : Int) = y := by rw [hrow]; exact rd_app p q y _ rfl
    have hw2 : wrap64 ((p.length : Int) + 1) = ((p ++ [y]).length : Int) := by rw [w64 (by omega) (by omega)]; simp
    obtain ⟨O, c', h1, h2, h3⟩ := ih (p ++ [y]) _ _ (by rw [hrow]; simp) hs
    refine ⟨O, c', Ev.step (fun n => impl_freed.l1.eq_2 ..) ?_, Ev.step (fun n => spec_released.l1.eq_2 ..) ?_, h3⟩
    · simp only [if_pos hlt, if_pos (show 0 ≤ (p.length : Int) by omega), hrd, if_pos hy.1, if_pos (show y < (c.length : Int) by omega), hw, Option.bind_some, hw2]
      by_cases hz : (c.set y.toNat (c.getD y.toNat 0 - 1)).getD y.toNat 0 = 0
      · simp only [if_pos hz] at h1
        simp only [if_pos (show rd (c.set y.toNat (c.getD y.toNat 0 - 1)) y = 0 from hz), if_pos (show pile.length < 17592186044416 by omega)]
        exact h1
      · simp only [if_neg hz] at h1
        simp only [if_neg (show ¬ rd (c.set y.toNat (c.getD y.toNat 0 - 1)) y = 0 from hz)]
        exact h1
    · simp only [if_pos hk.1, if_pos hk.2, rd_row, if_pos hlt, if_pos (show 0 ≤ (p.length : Int) by omega), hrd, if_pos hy.1, if_pos (show y < (c.length : Int) by omega), hw, Option.bind_some, hw2]
      by_cases hz : (c.set y.toNat (c.getD y.toNat 0 - 1)).getD y.toNat 0 = 0
      · simp only [if_pos hz] at h2
        simp only [if_pos (show rd (c.set y.toNat (c.getD y.toNat 0 - 1)) y = 0 from hz), if_pos (show pile.length < 17592186044416 by omega)]
        exact h2
      · simp only [if_neg hz] at h2
        simp only [if_neg (show ¬ rd (c.set y.toNat (c.getD y.toNat 0 - 1)) y = 0 from hz)]
        exact h2
theorem free_outer (g : List (List Int)) (hg : Gr g) (r : List Int) (hrl : r.length ≤ 2000000) (C : Prop) : ∀ (m : Nat) (out pile c : List Int), FInv g r C out pile c → g.length - out.length < m →
    ∃ O c', Ev (fun k => impl_freed.l0 k g c pile out) (O, c') ∧ Ev (fun k => spec_released.l0 k g c out pile) (O, c') ∧ Chain g r O ∧ (C → Full g r O) ∧ out <+: O := by
  intro m
  induction m with
  | zero => intro out pile c _ h; omega
  | succ m ih =>
    intro out pile c h hm
    have hgl := hg.len
    have hol := nodup_len h.chain.nodup h.chain.idx
    rcases List.eq_nil_or_concat pile with e | ⟨p, k, e⟩
    · subst e
      refine ⟨out, c, Ev.step (fun n => impl_freed.l0.eq_2 ..) ?_, Ev.step (fun n => spec_released.l0.eq_2 ..) ?_, h.chain, fun hC x hx h0 => ?_, List.prefix_refl _⟩
      · simp only [List.length_nil, Int.natCast_zero, if_neg (show ¬ (0 : Int) > 0 by omega)]
        exact Ev.now _
      · simp only [List.length_nil, Int.natCast_zero, if_neg (show ¬ (0 : Int) > 0 by omega)]
        exact Ev.now _
      · have hv := h.val x.toNat (by omega)
        rw [show ((x.toNat : Nat) : Int) = x by omega, h0] at hv
        have := h.comp hC x hx hv
        simpa using this
    · rw [List.concat_eq_append] at e
      subst e
      have hk := h.idx k (by simp)
      have hpop := h.pop
      have hol2 := nodup_len hpop.chain.nodup hpop.chain.idx
      rw [List.length_append, List.length_singleton] at hol2
      have hpl : (p ++ [k]).length ≤ g.length := nodup_len (List.nodup_append.1 h.nd).2.1 h.idx
      rw [List.length_append, List.length_singleton] at hpl
      have hin := free_inner g hg r hrl C out k hk (by omega) (fun pile' c' hinv => ih (out ++ [k]) pile' c' hinv (by rw [List.length_append, List.length_singleton]; omega)) (row g k) [] p c (by simp) hpop
      obtain ⟨O, c', h1, h2, h3, h4, h5⟩ := hin
      have hlen : (((p ++ [k]).length : Nat) : Int) = (p.length : Int) + 1 := by simp
      have hw : wrap64 ((p.length : Int) + 1 - 1) = (p.length : Int) := by rw [w64 (by omega) (by omega)]; omega
      have hrd : rd (p ++ [k]) (p.length : Int) = k := rd_app p [] k _ rfl
      have htk : (p ++ [k]).take ((p.length : Int)).toNat = p := by simp
      refine ⟨O, c', Ev.step (fun n => impl_freed.l0.eq_2 ..) ?_, Ev.step (fun n => spec_released.l0.eq_2 ..) ?_, h3, h4, (List.prefix_append _ _).trans h5⟩
      · simp only [hlen, hw, hrd, htk, if_pos (show (p.length : Int) + 1 > 0 by omega), if_pos (show 0 ≤ (p.length : Int) by omega), if_pos (show (p.length : Int) < (p.length : Int) + 1 by omega), if_pos (show (p.length : Int) ≤ (p.length : Int) + 1 by omega), if_pos (show out.length < 17592186044416 by omega), if_pos hk.1, if_pos hk.2, rd_row]
        exact h1
      · simp only [hlen, hw, hrd, htk, if_pos (show (p.length : Int) + 1 > 0 by omega), if_pos (show 0 ≤ (p.length : Int) by omega), if_pos (show (p.length : Int) < (p.length : Int) + 1 by omega), if_pos (show (p.length : Int) ≤ (p.length : Int) + 1 by omega), if_pos (show out.length < 17592186044416 by omega), Option.bind_some, List.nil_append, List.length_nil, Nat.zero_add, if_pos (show p.length < 17592186044416 by omega)]
        exact h2
theorem freed_ev (g : List (List Int)) (hg : Gr g) (r : List Int) (hrl : r.length ≤ 2000000) (C : Prop) (pile c : List Int) (h : FInv g r C [] pile c) :
    ∃ O c', Ev (fun k => impl_freed.f k g c pile) (O, c') ∧ Ev (fun k => spec_released.f k g c pile) (O, c') ∧ Chain g r O ∧ (C → Full g r O) := by
  obtain ⟨O, c', h1, h2, h3, h4, -⟩ := free_outer g hg r hrl C (g.length + 1) [] pile c h (by omega)
  have hgl := hg.len
  have hpl : pile.length ≤ g.length := nodup_len (List.nodup_append.1 h.nd).2.1 h.idx
  refine ⟨O, c', h1, ?_, h3, h4⟩
  unfold spec_released.f
  simp only [Option.bind_some, List.length_nil, Nat.zero_add, if_pos (show pile.length < 17592186044416 by omega), List.nil_append]
  exact h2
/-- The same at one object on the pile: it is the first that is freed. -/
theorem freed_one (g : List (List Int)) (hg : Gr g) (r : List Int) (hrl : r.length ≤ 2000000) (n : Int) (c : List Int) (h : FInv g r False [] [n] c) :
    ∃ O c', Ev (fun k => impl_freed.f k g c [n]) (O, c') ∧ Ev (fun k => spec_released.f k g c [n]) (O, c') ∧ Chain g r O ∧ ∃ s, O = n :: s := by
  have hgl := hg.len
  have hk := h.idx n (by simp)
  have hin := free_inner g hg r hrl False [] n hk (by simp) (fun pile' c' hinv => free_outer g hg r hrl False (g.length + 1) ([] ++ [n]) pile' c' hinv (by simp; omega)) (row g n) [] [] c (by simp) (FInv.pop (pile := []) h)
  obtain ⟨O, c', h1, h2, h3, -, s, h5⟩ := hin
  have hrd : rd [n] 0 = n := rfl
  refine ⟨O, c', ?_, ?_, h3, s, by rw [← h5]; rfl⟩
  · unfold impl_freed.f
    refine Ev.step (fun n => impl_freed.l0.eq_2 ..) ?_
    have hw : wrap64 ((1 : Int) - 1) = 0 := by unfold wrap64; omega
    simp only [List.length_singleton, Int.natCast_one, hw, hrd, Int.toNat_zero, List.take_zero, if_pos (show (1 : Int) > 0 by omega), if_pos (show (0 : Int) ≤ 0 by omega), if_pos (show (0 : Int) < 1 by omega), if_pos (show (0 : Int) ≤ 1 by omega), List.length_nil, if_pos (show 0 < 17592186044416 by omega), if_pos hk.1, if_pos hk.2, rd_row]
    exact h1
  · unfold spec_released.f
    simp only [Option.bind_some, List.length_nil, List.length_singleton, Nat.zero_add, if_pos (show 1 < 17592186044416 by omega), List.nil_append]
    refine Ev.step (fun n => spec_released.l0.eq_2 ..) ?_
    have hw : wrap64 ((1 : Int) - 1) = 0 := by unfold wrap64; omega
    simp only [List.length_singleton, Int.natCast_one, hw, hrd, Int.toNat_zero, List.take_zero, if_pos (show (1 : Int) > 0 by omega), if_pos (show (0 : Int) ≤ 0 by omega), if_pos (show (0 : Int) < 1 by omega), if_pos (show (0 : Int) ≤ 1 by omega), List.length_nil, Option.bind_some, Nat.zero_add, if_pos (show 0 < 17592186044416 by omega), List.append_nil]
    exact h2
end Go.Proofs.Ytckninkpjdcfbaa.GE
