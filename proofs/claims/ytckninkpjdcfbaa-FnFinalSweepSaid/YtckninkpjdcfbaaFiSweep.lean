/- Finalizers: a sweep, and sweeps until one runs none. -/
import Derived.Test.YtckninkpjdcfbaaFiOk
import Derived.Test.YtckninkpjdcfbaaQ0
import Derived.Test.YtckninkpjdcfbaaQ4
import Derived.Test.YtckninkpjdcfbaaQ9
set_option linter.unusedSimpArgs false
set_option linter.unusedVariables false
namespace Go.Proofs.Ytckninkpjdcfbaa.FI
open Go.RowKit Go.Proofs.Ytckninkpjdcfbaa.Q Go.Proofs.YtckninkpjdcfbaaW.PrintWords Go.Proofs.GR Go.Proofs.Ytckninkpjdcfbaa.GE
/-- What a sweep of a valid graph with valid finalizers does. -/
noncomputable def sweep (g : List (List Int)) (r : List Int) (l : List S64) : List Int × List Int × List Int × List S64 :=
  ((swGo (flags g r) l [] r []).1, (swGo (flags g r) l [] r []).2.1, idxs (flags g (swGo (flags g r) l [] r []).2.1) false, (swGo (flags g r) l [] r []).2.2)
structure Vd (g : List (List Int)) (r : List Int) (l : List S64) : Prop where
  ok : (okG g && okR g r) = true
  fin : finOk (g.length : Int) l = true
theorem Vd.gr {g : List (List Int)} {r : List Int} {l : List S64} (h : Vd g r l) : Gr g ∧ RootIn g.length r ∧ r.length ≤ 12 ∧ g.length ≤ 12 ∧ l.length ≤ 12 ∧ FinIn g.length l := by
  obtain ⟨a, b, c, d⟩ := okGR h.ok
  obtain ⟨e, f⟩ := finOk_in h.fin
  exact ⟨Gr.of a, b, c, d, e, f⟩
theorem sweep_roots {g : List (List Int)} {r : List Int} {l : List S64} (h : Vd g r l) : RootIn g.length (sweep g r l).2.1 ∧ (sweep g r l).2.1.length ≤ 2000 := by
  obtain ⟨hg, hr, h12, hgl, hl, hin⟩ := h.gr
  have := sw_ev g hg hgl (flags g r) (flags_length g r) l (by omega) hin l.length 0 [] r [] rfl (Nat.zero_le _) (Nat.zero_le _) (Nat.zero_le _) hr (by omega)
  rw [List.drop_zero] at this
  exact ⟨this.2.1, this.2.2⟩
theorem finalized_ev {g : List (List Int)} {r : List Int} {l : List S64} (h : Vd g r l) : Ev (fun k => spec_finalized.f k g r l) (sweep g r l) := by
  obtain ⟨hg, hr, h12, hgl, hl, hin⟩ := h.gr
  unfold spec_finalized.f
  simp only [Option.bind_some, List.length_nil, List.nil_append, if_pos (show 0 + r.length < 17592186044416 by omega)]
  refine Ev.bind (spec_marked_ev g hg r hr (by omega)) ?_
  have := (sw_ev g hg hgl (flags g r) (flags_length g r) l (by omega) hin l.length 0 [] r [] rfl (Nat.zero_le _) (Nat.zero_le _) (Nat.zero_le _) hr (by omega)).1
  rw [List.drop_zero] at this
  exact this
theorem sweep_impl {g : List (List Int)} {r : List Int} {l : List S64} (hz : Sz g) (h : Vd g r l) : Ev (fun k => impl_FinalSweep.f k g r l) (sweep g r l) := by
  obtain ⟨hg, hr, h12, hgl, hl, hin⟩ := h.gr
  obtain ⟨h2, h3⟩ := sweep_roots h
  unfold impl_FinalSweep.f
  refine Ev.bind (impl_GraphOk_ev g hz r (by omega)) ?_
  rw [h.ok]
  simp only [if_true, impl_finalsOk.f, Option.bind_some, h.fin]
  simp only [if_pos (show r.length ≤ 1000 by omega)]
  refine Ev.bind (impl_reached_ev g hg r hr (by omega)) ?_
  simp only [if_pos (flags_length g r)]
  refine Ev.bind (impl_reached_ev g hg _ h2 (by unfold sweep at h3; simp only at h3; omega)) ?_
  refine Ev.bind (impl_marked_ev _ false (by rw [flags_length]; omega)) ?_
  exact Ev.now _
theorem sweep_bad {g : List (List Int)} {r : List Int} {l : List S64} (hz : Sz g) (hr : r.length ≤ 100000) (h : ¬ Vd g r l) : Ev (fun k => impl_FinalSweep.f k g r l) (([] : List Int), ([] : List Int), ([] : List Int), ([] : List S64)) := by
  unfold impl_FinalSweep.f
  refine Ev.bind (impl_GraphOk_ev g hz r (by omega)) ?_
  cases ho : (okG g && okR g r) with
  | false => simp only [Bool.false_eq_true, if_false]; exact Ev.now _
  | true =>
    simp only [if_true, impl_finalsOk.f, Option.bind_some]
    cases hf : finOk (g.length : Int) l with
    | false => simp only [Bool.false_eq_true, if_false]; exact Ev.now _
    | true => exact absurd ⟨ho, hf⟩ h
/-! #### a sweep keeps all that is valid, and one that runs something leaves fewer -/
/-- What of a finalizer never changes. -/
def key (x : S64) : Int × Int := (x.f0, x.f1)
theorem swGo_keys (seen : List Bool) : ∀ (l : List S64) (ran roots : List Int) (out : List S64), (swGo seen l ran roots out).2.2.map key = out.map key ++ l.map key
  | [], ran, roots, out => by unfold swGo; simp
  | x :: xs, ran, roots, out => by
    unfold swGo
    split
    · rw [swGo_keys seen xs]; simp
    · rw [swGo_keys seen xs]; simp [key]
theorem finRow_keys {n : Int} {l l' : List S64} (h : l.map key = l'.map key) (i : Nat) : finRow n l i = finRow n l' i := by
  have hx : ∀ j : Nat, (rd_T64 l (j : Int)).f0 = (rd_T64 l' (j : Int)).f0 ∧ (rd_T64 l (j : Int)).f1 = (rd_T64 l' (j : Int)).f1 := by
    intro j
    have e : (l.map key)[j]? = (l'.map key)[j]? := by rw [h]
    rw [rdF, rdF, List.getD_eq_getElem?_getD, List.getD_eq_getElem?_getD]
    rw [List.getElem?_map, List.getElem?_map] at e
    cases h1 : l[j]? with
    | none =>
      rw [h1] at e
      cases h2 : l'[j]? with
      | none => exact ⟨rfl, rfl⟩
      | some y => rw [h2] at e; simp at e
    | some x =>
      rw [h1] at e
      cases h2 : l'[j]? with
      | none => rw [h2] at e; simp at e
      | some y =>
        rw [h2] at e
        simp only [Option.map_some, Option.some.injEq, key, Prod.mk.injEq] at e
        exact e
  unfold finRow
  rw [(hx i).1, (hx i).2]
  congr 2
  have ht : (l.take i).map key = (l'.take i).map key := by rw [List.map_take, List.map_take, h]
  have ha : ∀ (m : List S64) (a : Int), (m.any fun y => decide (y.f0 = a)) = ((m.map key).any fun y => decide (y.1 = a)) := fun m a => by
    rw [List.any_map]; rfl
  rw [ha, ha, ht]
theorem finOk_keys {n : Int} {l l' : List S64} (h : l.map key = l'.map key) : finOk n l = finOk n l' := by
  have hl : l.length = l'.length := by have := congrArg List.length h; simpa using this
  unfold finOk
  rw [hl]
  congr 2
  funext i
  exact finRow_keys h i
theorem swGo_rootlen (seen : List Bool) : ∀ (l : List S64) (ran roots : List Int) (out : List S64), roots.length ≤ 12 → (swGo seen l ran roots out).2.1.length ≤ 12
  | [], ran, roots, out, h => by unfold swGo; exact h
  | x :: xs, ran, roots, out, h => by
    unfold swGo
    split
    · exact swGo_rootlen seen xs _ _ _ h
    · refine swGo_rootlen seen xs _ _ _ ?_
      split
      · rw [List.length_append, List.length_singleton]; omega
      · exact h
theorem Vd.next {g : List (List Int)} {r : List Int} {l : List S64} (h : Vd g r l) : Vd g (sweep g r l).2.1 (sweep g r l).2.2.2 := by
  obtain ⟨hg, hr, h12, hgl, hl, hin⟩ := h.gr
  obtain ⟨h2, h3⟩ := sweep_roots h
  have hlen : (sweep g r l).2.1.length ≤ 12 := swGo_rootlen _ _ _ _ _ h12
  have hok := h.ok
  rw [Bool.and_eq_true] at hok
  refine ⟨?_, ?_⟩
  · rw [Bool.and_eq_true]
    refine ⟨hok.1, ?_⟩
    unfold okR
    rw [Bool.and_eq_true]
    exact ⟨idx_iff.2 h2, decide_eq_true hlen⟩
  · rw [finOk_keys (l' := l) (by show (swGo (flags g r) l [] r []).2.2.map key = _; rw [swGo_keys]; rfl)]
    exact h.fin
/-- How many have not run. -/
def undone (l : List S64) : Nat := (l.filter fun x => !x.f2).length
theorem swGo_undone (seen : List Bool) : ∀ (l : List S64) (ran roots : List Int) (out : List S64), undone (swGo seen l ran roots out).2.2 + (swGo seen l ran roots out).1.length = undone out + undone l + ran.length
  | [], ran, roots, out => by unfold swGo; simp [undone]
  | x :: xs, ran, roots, out => by
    unfold swGo
    have hap : ∀ y : S64, undone (out ++ [y]) = undone out + undone [y] := fun y => by unfold undone; rw [List.filter_append, List.length_append]
    have hco : undone (x :: xs) = undone [x] + undone xs := by
      show undone ([x] ++ xs) = _
      unfold undone; rw [List.filter_append, List.length_append]
    split
    · rw [swGo_undone seen xs, hap, hco]; omega
    · rename_i hq
      have hf : x.f2 = false := by
        cases hf : x.f2 with
        | false => rfl
        | true => rw [hf] at hq; simp at hq
      rw [swGo_undone seen xs, hap, hco, List.length_append]
      have e1 : undone [(⟨x.f0, x.f1, true⟩ : S64)] = 0 := rfl
      have e2 : undone [x] = 1 := by unfold undone; simp [hf]
      rw [e1, e2, List.length_singleton]
      omega
end Go.Proofs.Ytckninkpjdcfbaa.FI
