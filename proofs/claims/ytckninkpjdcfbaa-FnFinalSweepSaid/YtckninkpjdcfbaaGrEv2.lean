/- What is marked and what is reached: for the reference and for the program the same. -/
import Derived.Test.YtckninkpjdcfbaaGrEv1
import Derived.Test.YtckninkpjdcfbaaQ0
import Derived.Test.YtckninkpjdcfbaaQ3
set_option linter.unusedSimpArgs false
set_option linter.unusedVariables false
namespace Go.Proofs.Ytckninkpjdcfbaa.GE
open Go.RowKit Go.Proofs.Ytckninkpjdcfbaa.Q Go.Proofs.YtckninkpjdcfbaaW.PrintWords Go.Proofs.GR

theorem rd_in {l : List Int} {n : Nat} (h : ∀ x ∈ l, 0 ≤ x ∧ x < (n : Int)) {m : Nat} (hm : m < l.length) : 0 ≤ l.getD m 0 ∧ l.getD m 0 < (n : Int) := h _ (getD_mem hm)

theorem spec_marked_l (g : List (List Int)) (hg : Gr g) (r : List Int) : ∀ (d : Nat) (seen : List Bool) (todo : List Int) (n : Nat) (i : Int), i = n → n ≤ todo.length → todo.length + 100 * nf seen ≤ 10000000 → todo.length + 100 * nf seen - n ≤ d →
    seen.length = g.length → (∀ x ∈ todo, (0 ≤ x ∧ x < (g.length : Int)) ∧ Rch g r x) → (∀ x ∈ r, x ∈ todo) → (∀ j, j < n → seen.getD (todo.getD j 0).toNat false = true) →
    (∀ x : Int, 0 ≤ x → x < (g.length : Int) → seen.getD x.toNat false = true → Rch g r x ∧ ∀ y ∈ row g x, y ∈ todo) →
    Ev (fun k => spec_marked.l0 k g seen todo i) (flags g r) := by
  have stop : ∀ (seen : List Bool) (todo : List Int) (n : Nat) (i : Int), i = n → n = todo.length →
    seen.length = g.length → (∀ x ∈ todo, (0 ≤ x ∧ x < (g.length : Int)) ∧ Rch g r x) → (∀ x ∈ r, x ∈ todo) → (∀ j, j < n → seen.getD (todo.getD j 0).toNat false = true) →
    (∀ x : Int, 0 ≤ x → x < (g.length : Int) → seen.getD x.toNat false = true → Rch g r x ∧ ∀ y ∈ row g x, y ∈ todo) →
    Ev (fun k => spec_marked.l0 k g seen todo i) (flags g r) := by
    intro seen todo n i hi hn' hl h1 h2 h3 h4
    refine Ev.step (fun k => spec_marked.l0.eq_2 ..) ?_
    simp only [if_neg (show ¬ i < (todo.length : Int) by omega)]
    have : seen = flags g r := by
      refine flags_of hl (fun x h0 hx => ⟨fun h => (h4 x h0 hx h).1, fun h => ?_⟩)
      have key : ∀ y, Rch g r y → y ∈ todo := by
        intro y hy
        induction hy with
        | base hb => exact h2 _ hb
        | step hz hm ih =>
          have hy2 := (h1 _ ih).1
          obtain ⟨j, hj, e⟩ := mem_getD (d := 0) ih
          have := h3 j (by omega)
          rw [e] at this
          exact (h4 _ hy2.1 hy2.2 this).2 _ hm
      obtain ⟨j, hj, e⟩ := mem_getD (d := 0) (key x h)
      have := h3 j (by omega)
      rwa [e] at this
    rw [this]
    exact Ev.now _
  intro d
  induction d with
  | zero =>
    intro seen todo n i hi hn hM hd hl h1 h2 h3 h4
    exact stop seen todo n i hi (by omega) hl h1 h2 h3 h4
  | succ d ih =>
    intro seen todo n i hi hn hM hd hl h1 h2 h3 h4
    rcases Nat.lt_or_ge n todo.length with hlt | hge
    · have hx := rd_in (fun x hx => (h1 x hx).1) hlt
      have hxr := (h1 _ (getD_mem (d := 0) hlt)).2
      have hg1 := hg.len
      refine Ev.step (fun k => spec_marked.l0.eq_2 ..) ?_
      simp only [if_pos (show i < (todo.length : Int) by omega), if_pos (show 0 ≤ i by omega)]
      rw [rd_nat todo n i hi, w64 (x := i + 1) (by omega) (by omega)]
      generalize hX : todo.getD n 0 = X at *
      have hin : X.toNat < seen.length := by omega
      simp only [if_pos hx.1, if_pos (show X < (seen.length : Int) by omega), if_pos (show X < (g.length : Int) by omega)]
      by_cases c : seen.getD X.toNat false = true
      · have c' : rdOf false seen X = true := c
        simp only [if_pos c']
        refine ih seen todo (n + 1) (i + 1) (by omega) (by omega) hM (by omega) hl h1 h2 (fun j hj => ?_) h4
        rcases Nat.lt_or_ge j n with h | h
        · exact h3 j h
        · have : j = n := by omega
          rw [this, hX]; exact c
      · have c' : ¬ rdOf false seen X = true := c
        have cf : seen.getD X.toNat false = false := by simpa using c
        have hnf := nf_set hin cf
        have hrl := hg.row_len X
        have e6 : todo.length + (rd_L2 g X).length < 17592186044416 := by rw [rd_row]; omega
        simp only [if_neg c', if_pos e6]
        refine ih (seen.set X.toNat true) (todo ++ row g X) (n + 1) (i + 1) (by omega) (by rw [List.length_append]; omega) (by rw [List.length_append]; omega) (by rw [List.length_append]; omega) (by rw [List.length_set]; exact hl) ?_ ?_ ?_ ?_
        · intro x hx'
          rcases List.mem_append.1 hx' with h | h
          · exact h1 x h
          · exact ⟨hg.row_idx _ _ h, .step hxr h⟩
        · intro x hx'
          exact List.mem_append_left _ (h2 x hx')
        · intro j hj
          have hlt2 : j < todo.length := by omega
          have e : (todo ++ row g X).getD j 0 = todo.getD j 0 := by
            rw [List.getD_eq_getElem?_getD, List.getElem?_append_left hlt2, ← List.getD_eq_getElem?_getD]
          rw [e, getD_set hin]
          split
          · rfl
          · rcases Nat.lt_or_ge j n with h | h
            · exact h3 j h
            · rename_i hne
              have : j = n := by omega
              rw [this, hX] at hne
              exact absurd rfl hne
        · intro x h0 hx' hs
          rw [getD_set hin] at hs
          by_cases e : X.toNat = x.toNat
          · have : X = x := by omega
            subst this
            exact ⟨hxr, fun y hy => List.mem_append_right _ hy⟩
          · rw [if_neg e] at hs
            have := h4 x h0 hx' hs
            exact ⟨this.1, fun y hy => List.mem_append_left _ (this.2 y hy)⟩
    · exact stop seen todo n i hi (by omega) hl h1 h2 h3 h4
theorem spec_marked_ev (g : List (List Int)) (hg : Gr g) (r : List Int) (hr : ∀ x ∈ r, 0 ≤ x ∧ x < (g.length : Int)) (hrl : r.length ≤ 2000000) : Ev (fun k => spec_marked.f k g r) (flags g r) := by
  have hg1 := hg.len
  have hnf := nf_le (List.replicate g.length false)
  rw [List.length_replicate] at hnf
  have := spec_marked_l g hg r (r.length + 100 * nf (List.replicate g.length false)) (List.replicate g.length false) r 0 0 rfl (Nat.zero_le _) (by omega) (by omega) (by simp) (fun x hx => ⟨hr x hx, .base hx⟩) (fun x hx => hx) (fun j hj => absurd hj (by omega)) (fun x h0 hx h => by
    rw [List.getD_eq_getElem?_getD, List.getElem?_replicate, if_pos (show x.toNat < g.length by omega)] at h
    simp at h)
  refine Ev.congr (fun k => ?_) this
  simp only [spec_marked.f]
  rw [if_pos (by omega), if_pos (by omega), Option.bind_some, List.nil_append, if_pos (by simp; omega), Int.toNat_natCast]

theorem Clone_eq (l : List Int) (h : l.length ≤ 100000000) : slices_Clone_int_int.f l = some l := by
  unfold slices_Clone_int_int.f
  rw [Option.bind_some, List.nil_append, if_pos (by simp; omega)]
theorem impl_reached_l (g : List (List Int)) (hg : Gr g) (r : List Int) (hr : ∀ x ∈ r, 0 ≤ x ∧ x < (g.length : Int)) : ∀ (d : Nat) (seen : List Bool) (work : List Int), work.length + 101 * nf seen ≤ d → work.length + 101 * nf seen ≤ 10000000 →
    seen.length = g.length → (∀ x ∈ work, (0 ≤ x ∧ x < (g.length : Int)) ∧ Rch g r x) → (∀ x ∈ r, x ∈ work ∨ seen.getD x.toNat false = true) →
    (∀ x : Int, 0 ≤ x → x < (g.length : Int) → seen.getD x.toNat false = true → Rch g r x ∧ ∀ y ∈ row g x, y ∈ work ∨ seen.getD y.toNat false = true) →
    Ev (fun k => impl_reached.l0 k g seen work) (flags g r) := by
  have stop : ∀ (seen : List Bool) (work : List Int), work.length = 0 → seen.length = g.length → (∀ x ∈ r, x ∈ work ∨ seen.getD x.toNat false = true) →
      (∀ x : Int, 0 ≤ x → x < (g.length : Int) → seen.getD x.toNat false = true → Rch g r x ∧ ∀ y ∈ row g x, y ∈ work ∨ seen.getD y.toNat false = true) →
      Ev (fun k => impl_reached.l0 k g seen work) (flags g r) := by
    intro seen work hw hl h2 h4
    have hw' := List.length_eq_zero_iff.1 hw
    subst hw'
    refine Ev.step (fun k => impl_reached.l0.eq_2 ..) ?_
    simp only [if_neg (show ¬ ((([] : List Int).length : Nat) : Int) > 0 by simp)]
    have : seen = flags g r := by
      refine flags_of hl (fun x h0 hx => ⟨fun h => (h4 x h0 hx h).1, fun h => ?_⟩)
      have key : ∀ y, Rch g r y → seen.getD y.toNat false = true := by
        intro y hy
        induction hy with
        | base hb =>
          rcases h2 _ hb with h | h
          · simp at h
          · exact h
        | step hz hm ih =>
          have hy2 := hz.idx hg hr
          rcases (h4 _ hy2.1 hy2.2 ih).2 _ hm with h | h
          · simp at h
          · exact h
      exact key x h
    rw [this]
    exact Ev.now _
  intro d
  induction d with
  | zero =>
    intro seen work hd hM hl h1 h2 h4
    exact stop seen work (by omega) hl h2 h4
  | succ d ih =>
    intro seen work hd hM hl h1 h2 h4
    rcases Nat.eq_zero_or_pos work.length with h0 | hpos
    · exact stop seen work h0 hl h2 h4
    · have hlt : work.length - 1 < work.length := by omega
      have hx := rd_in (fun x hx => (h1 x hx).1) hlt
      have hxr := (h1 _ (getD_mem (d := 0) hlt)).2
      have hg1 := hg.len
      have hsplit : work = work.take (work.length - 1) ++ [work.getD (work.length - 1) 0] := by
        have := take_succ (d := (0 : Int)) hlt
        rw [show work.length - 1 + 1 = work.length by omega, List.take_length] at this
        exact this
      refine Ev.step (fun k => impl_reached.l0.eq_2 ..) ?_
      rw [w64 (x := (work.length : Int) - 1) (by omega) (by omega)]
      simp only [if_pos (show (work.length : Int) > 0 by omega), if_pos (show 0 ≤ (work.length : Int) - 1 by omega), if_pos (show (work.length : Int) - 1 < (work.length : Int) by omega), if_pos (show (work.length : Int) - 1 ≤ (work.length : Int) by omega), Option.bind_some]
      rw [rd_nat work (work.length - 1) _ (by omega), show ((work.length : Int) - 1).toNat = work.length - 1 by omega]
      have htl : (work.take (work.length - 1)).length = work.length - 1 := by rw [List.length_take]; omega
      have hmem : ∀ x, x ∈ work ↔ x ∈ work.take (work.length - 1) ∨ x = work.getD (work.length - 1) 0 := by
        intro x
        conv => lhs; rw [hsplit]
        simp
      generalize work.getD (work.length - 1) 0 = X at *
      generalize work.take (work.length - 1) = T at *
      have hin : X.toNat < seen.length := by omega
      simp only [if_pos hx.1, if_pos (show X < (seen.length : Int) by omega), if_pos (show X < (g.length : Int) by omega)]
      by_cases c : seen.getD X.toNat false = true
      · have c' : rdOf false seen X = true := c
        simp only [if_pos c']
        refine ih seen T (by omega) (by omega) hl (fun x hx' => h1 x ((hmem x).2 (.inl hx'))) (fun x hx' => ?_) (fun x h0 hx' hs => ?_)
        · rcases h2 x hx' with h | h
          · rcases (hmem x).1 h with h | h
            · exact .inl h
            · rw [h]; exact .inr c
          · exact .inr h
        · have := h4 x h0 hx' hs
          refine ⟨this.1, fun y hy => ?_⟩
          rcases this.2 y hy with h | h
          · rcases (hmem y).1 h with h | h
            · exact .inl h
            · rw [h]; exact .inr c
          · exact .inr h
      · have c' : ¬ rdOf false seen X = true := c
        have cf : seen.getD X.toNat false = false := by simpa using c
        have hnf := nf_set hin cf
        have hrl := hg.row_len X
        have e6 : T.length + (rd_L2 g X).length < 17592186044416 := by rw [rd_row]; omega
        simp only [if_neg c', if_pos e6]
        have keep : ∀ y : Int, seen.getD y.toNat false = true → (seen.set X.toNat true).getD y.toNat false = true := by
          intro y hy
          rw [getD_set hin]
          split
          · rfl
          · exact hy
        have here : (seen.set X.toNat true).getD X.toNat false = true := by rw [getD_set hin, if_pos rfl]
        refine ih (seen.set X.toNat true) (T ++ row g X) (by rw [List.length_append]; omega) (by rw [List.length_append]; omega) (by rw [List.length_set]; exact hl) ?_ ?_ ?_
        · intro x hx'
          rcases List.mem_append.1 hx' with h | h
          · exact h1 x ((hmem x).2 (.inl h))
          · exact ⟨hg.row_idx _ _ h, .step hxr h⟩
        · intro x hx'
          rcases h2 x hx' with h | h
          · rcases (hmem x).1 h with h | h
            · exact .inl (List.mem_append_left _ h)
            · rw [h]; exact .inr here
          · exact .inr (keep x h)
        · intro x h0 hx' hs
          rw [getD_set hin] at hs
          by_cases e : X.toNat = x.toNat
          · have : X = x := by omega
            subst this
            exact ⟨hxr, fun y hy => .inl (List.mem_append_right _ hy)⟩
          · rw [if_neg e] at hs
            have := h4 x h0 hx' hs
            refine ⟨this.1, fun y hy => ?_⟩
            rcases this.2 y hy with h | h
            · rcases (hmem y).1 h with h | h
              · exact .inl (List.mem_append_left _ h)
              · rw [h]; exact .inr here
            · exact .inr (keep y h)
theorem impl_reached_ev (g : List (List Int)) (hg : Gr g) (r : List Int) (hr : ∀ x ∈ r, 0 ≤ x ∧ x < (g.length : Int)) (hrl : r.length ≤ 2000000) : Ev (fun k => impl_reached.f k g r) (flags g r) := by
  have hg1 := hg.len
  have hnf := nf_le (List.replicate g.length false)
  rw [List.length_replicate] at hnf
  have := impl_reached_l g hg r hr (r.length + 101 * nf (List.replicate g.length false)) (List.replicate g.length false) r (by omega) (by omega) (by simp) (fun x hx => ⟨hr x hx, .base hx⟩) (fun x hx => .inl hx) (fun x h0 hx h => by
    rw [List.getD_eq_getElem?_getD, List.getElem?_replicate, if_pos (show x.toNat < g.length by omega)] at h
    simp at h)
  refine Ev.congr (fun k => ?_) this
  simp only [impl_reached.f, Clone_eq r (by omega)]
  rw [if_pos (by omega), if_pos (by omega), Option.bind_some, Int.toNat_natCast]
end Go.Proofs.Ytckninkpjdcfbaa.GE
