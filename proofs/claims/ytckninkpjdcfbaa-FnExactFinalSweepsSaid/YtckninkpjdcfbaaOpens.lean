/- An argument as the statements read it, told as the printed functions' contracts ask for it. -/
import Derived.Test.YtckninkpjdcfbaaQ0
import Derived.ChangeArms
import Derived.ProofKit
import Derived.OpenShut
import Derived.WalkKit
set_option linter.unusedSimpArgs false
set_option linter.unusedVariables false
namespace Go.Proofs.Ytckninkpjdcfbaa.OP
open Go.RowKit Go.Proofs.YtckninkpjdcfbaaW.PrintWords

/-- Whatever reads as of a type lies in memory as a kind tells it, and is as p says. -/
def Opens {α : Type} (d : Kd α) (p : α → Prop) (P : Program) (W : World) (t : TypeId) : Prop :=
  ∀ (H : Type) (enc : TypeId × Value → H) (fuel : Nat) (cs : List Value) (x : DataW H × List MemPlace), DataW.trod enc P W 0 (fun _ => true) true fuel t cs = some x → ∃ v, d.K W v cs ∧ p v
theorem add_add (a : Addr) (m n : Nat) : (a.add m).add n = a.add (m + n) := by
  unfold Addr.add
  by_cases hm : m = 0
  · subst hm
    simp
  · by_cases hn : n = 0
    · subst hn
      simp [hm]
    · rw [if_neg hm, if_neg hn, if_neg (by omega)]
      simp [Nat.add_assoc]
section
variable {P : Program} {W : World} {t : TypeId}
theorem opens_int (ht : P.underlying t = some (.int .i64)) : Opens (Kd.int .i64) (fun n => -9223372036854775808 ≤ n ∧ n ≤ 9223372036854775807) P W t := by
  intro H enc fuel cs x h
  obtain ⟨n, rfl, -, hw⟩ := DataW.trod_int ht h
  refine ⟨n, rfl, ?_⟩
  simp [Lit.wf, IntKind.min, IntKind.max, IntKind.bits, IntKind.signed] at hw
  omega
theorem opens_bool (ht : P.underlying t = some .bool) : Opens Kd.bool (fun _ => True) P W t := by
  intro H enc fuel cs x h
  obtain ⟨b, rfl, -⟩ := DataW.trod_bool ht h
  exact ⟨b, rfl, trivial⟩
theorem opens_string (ht : P.underlying t = some .string) : Opens Kd.string (fun s => s.size ≤ maxLen) P W t := by
  intro H enc fuel cs x h
  obtain ⟨s, rfl, -, hs⟩ := DataW.trod_string ht h
  exact ⟨s, rfl, hs⟩
theorem opens_slice {α : Type} {d : Kd α} {p : α → Prop} {e : TypeId} (ht : P.underlying t = some (.slice e)) (hc : P.cellsOf e = d.sz) (hd : Opens d p P W e) : Opens (Kd.slice e d) (fun xs => xs.length ≤ maxLen ∧ ∀ x ∈ xs, p x) P W t := by
  intro H enc fuel cs x h
  rcases DataW.trod_slice ht h with ⟨rfl, -⟩ | ⟨a, len, cap, elems, rest, n, -, rfl, -, -, hl, hm, hlen, hel, -, -⟩
  · exact ⟨[], ⟨none, 0, rfl, Nat.le_refl _, Kd.C_nil _ _⟩, by simp, by simp⟩
  · have key : ∀ m, m ≤ len → ∃ xs : List α, xs.length = m ∧ (∀ j p', xs[j]? = some p' → ∃ c, c.length = d.sz ∧ d.K W p' c ∧ ∀ i u, c[i]? = some u → W.cell? (a.add (j * d.sz + i)) = some u) ∧ ∀ x ∈ xs, p x := by
      intro m
      induction m with
      | zero => intro _; exact ⟨[], rfl, by simp, by simp⟩
      | succ m ih =>
        intro hm'
        obtain ⟨xs, h1, h2, h3⟩ := ih (by omega)
        have hy : ∃ y, elems[m]? = some y := ⟨elems[m], List.getElem?_eq_getElem (by omega)⟩
        obtain ⟨y, hy⟩ := hy
        have hb := hel m (by omega)
        rw [hy, Option.bind_eq_some_iff] at hb
        obtain ⟨c, hcs, hty⟩ := hb
        obtain ⟨v, hv, hpv⟩ := hd H enc n c y hty
        rw [hc] at hcs
        have hcc := World.cells?_some hcs
        refine ⟨xs ++ [v], by simp [h1], fun j p' hj => ?_, fun x hx => ?_⟩
        · rcases Nat.lt_or_ge j m with hjm | hjm
          · rw [List.getElem?_append_left (by omega)] at hj
            exact h2 j p' hj
          · have : j = m := by
              have := (List.getElem?_eq_some_iff.1 hj).1
              simp [h1] at this
              omega
            subst this
            rw [List.getElem?_append_right (by omega), h1, Nat.sub_self] at hj
            simp at hj
            subst hj
            refine ⟨c, hcc.2.1, hv, fun i u hu => ?_⟩
            obtain ⟨hi, he⟩ := List.getElem?_eq_some_iff.1 hu
            have h5 := hcc.2.2 i (by omega)
            rw [hu] at h5
            rw [← h5, add_add]
        · rcases List.mem_append.1 hx with q | q
          · exact h3 x q
          · simp at q; rw [q]; exact hpv
    obtain ⟨xs, h1, h2, h3⟩ := key len (Nat.le_refl _)
    subst h1
    exact ⟨xs, ⟨some a, cap, rfl, hl, rfl, by unfold maxLen at hm; omega, fun _ => ⟨a, rfl, h2⟩⟩, Nat.le_trans hl hm, h3⟩
/-- Fields, from a place among the cells on. -/
def OpensF {α : Type} (d : Kd α) (p : α → Prop) (P : Program) (W : World) (fs : List Field) (off : Nat) : Prop :=
  ∀ (H : Type) (enc : TypeId × Value → H) (n : Nat) (cs : List Value), cs.length = off + d.sz → (∀ f ∈ fs, ∃ x, DataW.trod enc P W 0 (fun _ => true) true n f.type ((cs.drop f.offset).take (P.cellsOf f.type)) = some x) → ∃ v, d.K W v (cs.drop off) ∧ p v
theorem opens_last {α : Type} {d : Kd α} {p : α → Prop} {f : Field} {off : Nat} (ho : f.offset = off) (hc : P.cellsOf f.type = d.sz) (hd : Opens d p P W f.type) : OpensF d p P W [f] off := by
  intro H enc n cs hl h
  obtain ⟨x, hx⟩ := h f (List.mem_singleton.2 rfl)
  rw [ho, hc, List.take_of_length_le (by rw [List.length_drop]; omega)] at hx
  exact hd H enc n _ x hx
theorem opens_more {α β : Type} {a : Kd α} {b : Kd β} {p : α → Prop} {q : β → Prop} {f : Field} {fs : List Field} {off : Nat} (ho : f.offset = off) (hc : P.cellsOf f.type = a.sz) (hd : Opens a p P W f.type) (hr : OpensF b q P W fs (off + a.sz)) :
    OpensF (Kd.pair a b) (fun v => p v.1 ∧ q v.2) P W (f :: fs) off := by
  intro H enc n cs hl h
  obtain ⟨x, hx⟩ := h f List.mem_cons_self
  rw [ho, hc] at hx
  obtain ⟨v, hv, hpv⟩ := hd H enc n _ x hx
  have hl' : cs.length = off + (a.sz + b.sz) := hl
  obtain ⟨u, hu, hqu⟩ := hr H enc n cs (by omega) (fun g hg => h g (List.mem_cons_of_mem _ hg))
  refine ⟨(v, u), ⟨_, _, ?_, hv, hu⟩, hpv, hqu⟩
  rw [← List.drop_drop, List.take_append_drop]
theorem opens_struct {α : Type} {d : Kd α} {p : α → Prop} {fs : Array Field} (ht : P.underlying t = some (.struct fs)) (hc : P.cellsOf t = d.sz) (hd : OpensF d p P W fs.toList 0) : Opens d p P W t := by
  intro H enc fuel cs x h
  obtain ⟨xs, n, -, -, hl, hxl, hf⟩ := DataW.trod_struct ht h
  have := hd H enc n cs (by omega) (fun f hf' => by
    obtain ⟨i, hi, he⟩ := List.getElem_of_mem hf'
    have h1 : fs[i]? = some f := by
      rw [← he]
      simp at hi
      simp [hi]
    refine ⟨xs[i]'(by simp at hi; omega), ?_⟩
    rw [hf i f h1]
    exact List.getElem?_eq_getElem _)
  simpa using this
theorem Opens.mono {α : Type} {d : Kd α} {p q : α → Prop} (h : Opens d p P W t) (i : ∀ v, p v → q v) : Opens d q P W t := by
  intro H enc fuel cs x hx
  obtain ⟨v, hv, hp⟩ := h H enc fuel cs x hx
  exact ⟨v, hv, i v hp⟩
theorem opens_iso {α β : Type} {d : Kd α} {p : α → Prop} {f : β → α} (g : α → β) (hg : ∀ a, f (g a) = a) (hd : Opens d p P W t) : Opens (Kd.iso d f) (fun b => p (f b)) P W t := by
  intro H enc fuel cs x h
  obtain ⟨v, hv, hp⟩ := hd H enc fuel cs x h
  refine ⟨g v, ?_, ?_⟩
  · show d.K W (f (g v)) cs
    rw [hg]; exact hv
  · show p (f (g v))
    rw [hg]; exact hp
end
end Go.Proofs.Ytckninkpjdcfbaa.OP
