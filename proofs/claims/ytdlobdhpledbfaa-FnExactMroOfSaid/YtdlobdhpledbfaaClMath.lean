/- Merging lists: what a merge answers keeps the order of each list, has nothing twice, and has nothing else. -/
import Derived.Test.YtdlobdhpledbfaaGrMath
import Derived.Test.YtdlobdhpledbfaaQ3
set_option linter.unusedSimpArgs false
set_option linter.unusedVariables false
namespace Go.Proofs.Ytdlobdhpledbfaa.CL
open Go.Proofs.Ytdlobdhpledbfaa.Q
def ne (l : List Int) : Bool := !decide (l.length = 0)
def stp (h : Int) (ls : List (List Int)) : List (List Int) := ls.map fun m => if m.headD 0 = h then m.drop 1 else m
def total (ls : List (List Int)) : Nat := (ls.map List.length).sum
def mrg : Nat → List (List Int) → List Int × Bool
  | 0, _ => ([], false)
  | n + 1, ls => if (ls.filter ne).length = 0 then ([], true) else
    match mgPick (ls.filter ne) with
    | none => ([], false)
    | some l => if (mrg n (stp (l.headD 0) (ls.filter ne))).2 = true then (l.headD 0 :: (mrg n (stp (l.headD 0) (ls.filter ne))).1, true) else ([], false)
theorem mrg_congr (n : Nat) {ls ls' : List (List Int)} (h : ls.filter ne = ls'.filter ne) : mrg n ls = mrg n ls' := by
  cases n with
  | zero => rfl
  | succ n => unfold mrg; rw [h]
theorem ne_iff {l : List Int} : ne l = true ↔ l ≠ [] := by unfold ne; cases l <;> simp
theorem filter_map_eq (h : Int) (f : List Int → List Int) (hf : ∀ m, ne m = true → f m = if m.headD 0 = h then m.drop 1 else m) (h0 : f [] = []) : ∀ ls : List (List Int), (ls.map f).filter ne = (stp h (ls.filter ne)).filter ne
  | [] => rfl
  | m :: ls => by
    have ih := filter_map_eq h f hf h0 ls
    by_cases q : ne m = true
    · rw [List.map_cons, List.filter_cons_of_pos (l := ls) q]
      unfold stp at *
      rw [List.map_cons, hf m q, List.filter_cons, List.filter_cons, ih]
    · have e : m = [] := by
        cases m with
        | nil => rfl
        | cons a b => exact absurd (by simp [ne]) q
      subst e
      rw [List.map_cons, h0, List.filter_cons_of_neg (l := ls) q, List.filter_cons_of_neg (by decide)]
      exact ih
theorem pick_spec {es : List (List Int)} {l : List Int} (h : mgPick es = some l) : l ∈ es ∧ ∀ m ∈ es, l.headD 0 ∉ m.drop 1 := by
  unfold mgPick at h
  refine ⟨List.mem_of_find?_eq_some h, fun m hm q => ?_⟩
  have := List.find?_some h
  unfold mgFree at this
  rw [Bool.not_eq_true', List.any_eq_false] at this
  exact this m hm (by simpa using q)
theorem cons_of_ne {l : List Int} (h : l ≠ []) : l = l.headD 0 :: l.drop 1 := by cases l with
  | nil => exact absurd rfl h
  | cons a b => rfl
theorem total_stp {h : Int} : ∀ {es : List (List Int)}, total (stp h es) ≤ total es
  | [] => Nat.le_refl _
  | m :: es => by
    have := total_stp (h := h) (es := es)
    unfold total stp at *
    simp only [List.map_cons, List.sum_cons]
    split
    · rw [List.length_drop]; omega
    · omega
theorem total_stp_lt {h : Int} : ∀ {es : List (List Int)} {l : List Int}, l ∈ es → l ≠ [] → l.headD 0 = h → total (stp h es) < total es
  | m :: es, l, hl, hn, hh => by
    rcases List.mem_cons.1 hl with rfl | q
    · have := total_stp (h := h) (es := es)
      have : 0 < l.length := List.length_pos_iff.2 hn
      unfold total stp at *
      simp only [List.map_cons, List.sum_cons]
      rw [if_pos hh, List.length_drop]
      omega
    · have := total_stp_lt q hn hh
      unfold total stp at *
      simp only [List.map_cons, List.sum_cons]
      split
      · rw [List.length_drop]; omega
      · omega
theorem total_filter : ∀ (ls : List (List Int)), total (ls.filter ne) = total ls
  | [] => rfl
  | m :: ls => by
    have := total_filter ls
    by_cases q : ne m = true
    · rw [List.filter_cons_of_pos q]; unfold total at *; simp [this]
    · rw [List.filter_cons_of_neg q, this]
      have e : m.length = 0 := by unfold ne at q; simpa using q
      unfold total; simp [e]
/-- What a merge answers. -/
structure Mg (ls : List (List Int)) (r : List Int) : Prop where
  sub : ∀ l ∈ ls, List.Sublist l r
  nodup : r.Nodup
  mem : ∀ x ∈ r, ∃ l ∈ ls, x ∈ l
theorem mrg_ok : ∀ (n : Nat) (ls : List (List Int)), (mrg n ls).2 = true → Mg ls (mrg n ls).1
  | 0, ls, h => by simp [mrg] at h
  | n + 1, ls, h => by
    unfold mrg at h ⊢
    by_cases q : (ls.filter ne).length = 0
    · rw [if_pos q] at h ⊢
      have e : ls.filter ne = [] := List.length_eq_zero_iff.1 q
      refine ⟨fun l hl => ?_, List.nodup_nil, fun x hx => absurd hx (by simp)⟩
      have : ¬ ne l = true := List.filter_eq_nil_iff.1 e l hl
      have e2 : l = [] := by
        cases l with
        | nil => rfl
        | cons a b => exact absurd (by simp [ne]) this
      rw [e2]; exact List.nil_sublist _
    · rw [if_neg q] at h ⊢
      cases hp : mgPick (ls.filter ne) with
      | none => rw [hp] at h; simp at h
      | some l0 =>
        rw [hp] at h
        simp only at h ⊢
        by_cases q2 : (mrg n (stp (l0.headD 0) (ls.filter ne))).2 = true
        · rw [if_pos q2] at h ⊢
          have ih := mrg_ok n _ q2
          generalize (mrg n (stp (l0.headD 0) (ls.filter ne))).1 = r at ih
          obtain ⟨hl0, hfr⟩ := pick_spec hp
          have hl0' := List.mem_filter.1 hl0
          have hn0 := ne_iff.1 hl0'.2
          generalize hh : l0.headD 0 = hd at *
          have hnot : hd ∉ r := fun hx => by
            obtain ⟨l', hl', hx'⟩ := ih.mem _ hx
            obtain ⟨m, hm, rfl⟩ := List.mem_map.1 hl'
            split at hx'
            · exact hfr m hm hx'
            · rename_i q3
              have hmn := ne_iff.1 (List.mem_filter.1 hm).2
              rw [cons_of_ne hmn] at hx'
              rcases List.mem_cons.1 hx' with e | e
              · exact q3 e.symm
              · exact hfr m hm e
          refine ⟨fun l hl => ?_, List.nodup_cons.2 ⟨hnot, ih.nodup⟩, fun x hx => ?_⟩
          · by_cases qe : ne l = true
            · have hs := ih.sub _ (List.mem_map.2 ⟨l, List.mem_filter.2 ⟨hl, qe⟩, rfl⟩)
              split at hs
              · rename_i q3
                rw [cons_of_ne (ne_iff.1 qe), q3]
                exact hs.cons_cons _
              · exact hs.cons _
            · have e2 : l = [] := by
                cases l with
                | nil => rfl
                | cons a b => exact absurd (by simp [ne]) qe
              rw [e2]; exact List.nil_sublist _
          · rcases List.mem_cons.1 hx with rfl | hx
            · refine ⟨l0, hl0'.1, ?_⟩
              rw [cons_of_ne hn0, hh]
              exact List.mem_cons_self
            · obtain ⟨l', hl', hx'⟩ := ih.mem _ hx
              obtain ⟨m, hm, rfl⟩ := List.mem_map.1 hl'
              refine ⟨m, (List.mem_filter.1 hm).1, ?_⟩
              split at hx'
              · exact List.mem_of_mem_drop hx'
              · exact hx'
        · rw [if_neg q2] at h
          simp at h
end Go.Proofs.Ytdlobdhpledbfaa.CL
