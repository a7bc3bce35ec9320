/- What modules need: both answer the same. -/
import Derived.Test.YtjipapldfjhnnaaMoCirc
import Derived.Test.YtjipapldfjhnnaaGrHas
import Derived.Test.YtjipapldfjhnnaaGrSame
import Derived.Test.YtjipapldfjhnnaaMoDraw
import Derived.Test.YtjipapldfjhnnaaQ0
import Derived.Test.YtjipapldfjhnnaaQ11
set_option linter.unusedSimpArgs false
set_option linter.unusedVariables false
namespace Go.Proofs.Ytjipapldfjhnnaa.MO
open Go.RowKit Go.Proofs.Ytjipapldfjhnnaa.Q Go.Proofs.YtjipapldfjhnnaaW.PrintWords Go.Proofs.GR Go.Proofs.Ytjipapldfjhnnaa.GE Go.Proofs.Ytjipapldfjhnnaa.RD
noncomputable def needs (l : List S44) (a : Int) : List Int := if (modsOk l && decide (0 ≤ a ∧ a < (l.length : Int))) = true then idxs (flags (l.map edge) [a]) true else []
theorem needs_len (l : List S44) (a : Int) : (needs l a).length ≤ l.length := by
  unfold needs
  split
  · have := idxsTo_len (flags (l.map edge) [a]) true (flags (l.map edge) [a]).length
    rw [idxsTo_all, flags_length, List.length_map] at this
    exact this
  · simp
theorem needs_spec (l : List S44) (hb : Bnd l) (a : Int) (ha : I64 a) : Ev (fun k => spec_ImportNeeds.f k l a) (needs l a) := by
  unfold spec_ImportNeeds.f needs
  refine Ev.bind (validMods_ev l hb) ?_
  have jt : Ev (fun k => spec_ImportNeeds.j0 k l a true) [] := Ev.step (fun k => spec_ImportNeeds.j0.eq_2 ..) (Ev.now _)
  cases h : modsOk l with
  | false => exact jt
  | true =>
    simp only [if_true, Bool.true_and, inRange_eq, wless hb.len]
    have e : decide (0 ≤ a ∧ a ≤ (l.length : Int) - 1) = decide (0 ≤ a ∧ a < (l.length : Int)) := by rw [Bool.eq_iff_iff, decide_eq_true_eq, decide_eq_true_eq]; omega
    rw [e]
    show Ev (fun k => spec_ImportNeeds.j0 k l a (!(decide (0 ≤ a ∧ a < (l.length : Int))))) _
    by_cases h0 : 0 ≤ a ∧ a < (l.length : Int)
    · rw [decide_eq_true h0, if_pos rfl]
      have hf := few_of h
      have hg := gr_of h
      have hgl : (l.map edge).length = l.length := List.length_map ..
      refine Ev.step (fun k => spec_ImportNeeds.j0.eq_2 ..) ?_
      simp only [Bool.not_true, Bool.false_eq_true, if_false]
      refine Ev.bind (needs_ev l hf) ?_
      refine Ev.bind (spec_marked_ev _ hg [a] (by intro x hx; rw [List.mem_singleton.1 hx, hgl]; exact h0) (by simp)) ?_
      exact Ev.bind (spec_indices_ev _ true (by rw [flags_length, hgl]; have := hf.len; omega)) (Ev.now _)
    · rw [decide_eq_false h0]
      exact jt
/-- What is known of what is needed, where anything is. -/
structure Nd (l : List S44) (a : Int) : Prop where
  gr : Gr (l.map edge)
  ok : modsOk l = true
  rng : 0 ≤ a ∧ a < (l.length : Int)
  eq : needs l a = idxs (flags (l.map edge) [a]) true
theorem nd_of {l : List S44} {a : Int} (h : needs l a ≠ []) : Nd l a := by
  unfold needs at h
  by_cases q : (modsOk l && decide (0 ≤ a ∧ a < (l.length : Int))) = true
  · have q' := q
    rw [Bool.and_eq_true, decide_eq_true_eq] at q'
    exact ⟨gr_of q'.1, q'.1, q'.2, by unfold needs; rw [if_pos q]⟩
  · rw [if_neg q] at h
    exact absurd rfl h
theorem nd_mk {l : List S44} {a x : Int} (h : Nd l a) (hx : 0 ≤ x ∧ x < (l.length : Int)) : Nd l x := ⟨h.gr, h.ok, hx, by unfold needs; rw [if_pos (by rw [h.ok, Bool.true_and, decide_eq_true_eq]; exact hx)]⟩
theorem Nd.mem {l : List S44} {a : Int} (h : Nd l a) {x : Int} : x ∈ needs l a ↔ Rch (l.map edge) [a] x := by
  rw [h.eq]
  exact mem_reached h.gr (by intro z hz; rw [List.mem_singleton.1 hz, List.length_map]; exact h.rng)
theorem Nd.range {l : List S44} {a : Int} (h : Nd l a) {x : Int} (hx : x ∈ needs l a) : 0 ≤ x ∧ x < (l.length : Int) := by
  have := Rch.idx h.gr (r := [a]) (by intro z hz; rw [List.mem_singleton.1 hz, List.length_map]; exact h.rng) (h.mem.1 hx)
  rw [List.length_map] at this
  exact this
theorem Nd.trans {l : List S44} {a : Int} (h : Nd l a) {x y : Int} (hx : x ∈ needs l a) (hy : y ∈ needs l x) : y ∈ needs l a := by
  have h2 := nd_mk h (h.range hx)
  refine h.mem.2 (Rch.mono ?_ (h2.mem.1 hy))
  intro z hz
  rw [List.mem_singleton.1 hz]
  exact h.mem.1 hx
theorem nx1 {n : Nat} (h : n ≤ 100000000) : wrap64 ((n : Int) + 1) = ((n + 1 : Nat) : Int) := by unfold wrap64; omega
end Go.Proofs.Ytjipapldfjhnnaa.MO
