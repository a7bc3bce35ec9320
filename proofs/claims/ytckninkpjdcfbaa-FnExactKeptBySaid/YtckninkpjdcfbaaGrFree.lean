/- Freeing by counts. Plain, no program in sight. -/
import Derived.Test.YtckninkpjdcfbaaGrGarb
set_option linter.unusedSimpArgs false
set_option linter.unusedVariables false
namespace Go.Proofs.GR

/-- How many references to an object come from objects that are not among some. -/
def restc (g : List (List Int)) (s : List Int) (y : Int) : Nat := (((allL g.length).filter fun z => decide (z ∉ s)).flatMap (row g)).count y
theorem restc_nil (g : List (List Int)) (y : Int) : restc g [] y = g.flatten.count y := by
  unfold restc
  rw [List.filter_eq_self.2 (by simp), flatten_all]
  rfl
theorem count_pick {f : Int → List Int} {y x : Int} {p : Int → Bool} : ∀ {l : List Int}, l.Nodup → x ∈ l → p x = true → ((l.filter p).flatMap f).count y = (f x).count y + ((l.filter fun z => p z && decide (z ≠ x)).flatMap f).count y
  | [], _, h, _ => by simp at h
  | a :: l, hn, h, hp => by
    rw [List.nodup_cons] at hn
    by_cases e : a = x
    · subst e
      have : (l.filter fun z => p z && decide (z ≠ a)) = l.filter p := by
        refine List.filter_congr fun z hz => ?_
        have : z ≠ a := fun e => hn.1 (e ▸ hz)
        simp [this]
      rw [List.filter_cons_of_pos hp, List.filter_cons_of_neg (by simp), this, List.flatMap_cons, List.count_append]
    · have hx : x ∈ l := by
        rcases List.mem_cons.1 h with h | h
        · exact absurd h.symm e
        · exact h
      have ih := count_pick (f := f) (y := y) hn.2 hx hp
      by_cases hq : p a = true
      · rw [List.filter_cons_of_pos hq, List.filter_cons_of_pos (by simp [hq, e]), List.flatMap_cons, List.flatMap_cons, List.count_append, List.count_append, ih]
        omega
      · rw [List.filter_cons_of_neg hq, List.filter_cons_of_neg (by simp [hq]), ih]
theorem allL_nodup (n : Nat) : (allL n).Nodup := (allL_asc n).imp fun h => by omega
theorem restc_snoc (g : List (List Int)) (s : List Int) (x y : Int) (hx : x ∉ s) (h : 0 ≤ x ∧ x < (g.length : Int)) : restc g s y = (row g x).count y + restc g (s ++ [x]) y := by
  unfold restc
  rw [count_pick (p := fun z => decide (z ∉ s)) (x := x) (allL_nodup _) (mem_allL.2 h) (by simpa using hx)]
  congr 3
  refine List.filter_congr fun z _ => ?_
  rw [Bool.eq_iff_iff]
  simp
theorem restc_pos {g : List (List Int)} {s : List Int} {y z : Int} (hz : 0 ≤ z ∧ z < (g.length : Int)) (hs : z ∉ s) (hy : y ∈ row g z) : 0 < restc g s y := by
  unfold restc
  rw [List.count_pos_iff]
  exact List.mem_flatMap.2 ⟨z, List.mem_filter.2 ⟨mem_allL.2 hz, by simpa using hs⟩, hy⟩
theorem restc_ex {g : List (List Int)} {s : List Int} {y : Int} (h : 0 < restc g s y) : ∃ z, (0 ≤ z ∧ z < (g.length : Int)) ∧ z ∉ s ∧ y ∈ row g z := by
  unfold restc at h
  rw [List.count_pos_iff] at h
  obtain ⟨z, hz, hy⟩ := List.mem_flatMap.1 h
  obtain ⟨h1, h2⟩ := List.mem_filter.1 hz
  exact ⟨z, mem_allL.1 h1, by simpa using h2, hy⟩
/-- Freed in an order: no root, and nothing that was not freed before refers to it. -/
inductive Chain (g : List (List Int)) (r : List Int) : List Int → Prop
  | nil : Chain g r []
  | snoc {out : List Int} {k : Int} : Chain g r out → (0 ≤ k ∧ k < (g.length : Int)) → k ∉ out → r.count k = 0 → (∀ z, 0 ≤ z ∧ z < (g.length : Int) → k ∈ row g z → z ∈ out) → Chain g r (out ++ [k])
theorem Chain.idx {g : List (List Int)} {r out : List Int} (h : Chain g r out) : ∀ x ∈ out, 0 ≤ x ∧ x < (g.length : Int) := by
  induction h with
  | nil => simp
  | snoc _ h1 _ _ _ ih => intro x hx; rcases List.mem_append.1 hx with hx | hx; exact ih x hx; simp at hx; rw [hx]; exact h1
theorem Chain.nodup {g : List (List Int)} {r out : List Int} (h : Chain g r out) : out.Nodup := by
  induction h with
  | nil => simp
  | snoc _ _ h2 _ _ ih => rw [List.nodup_append]; exact ⟨ih, by simp, fun a ha b hb e => by simp at hb; subst hb; subst e; exact h2 ha⟩
theorem Chain.root {g : List (List Int)} {r out : List Int} (h : Chain g r out) : ∀ x ∈ out, x ∉ r := by
  induction h with
  | nil => simp
  | snoc _ _ _ h3 _ ih => intro x hx; rcases List.mem_append.1 hx with hx | hx; exact ih x hx; simp at hx; rw [hx]; exact List.count_eq_zero.1 h3
theorem Chain.ref {g : List (List Int)} {r out : List Int} (h : Chain g r out) : ∀ x ∈ out, ∀ z, 0 ≤ z ∧ z < (g.length : Int) → x ∈ row g z → z ∈ out := by
  induction h with
  | nil => simp
  | snoc _ _ _ _ h4 ih =>
    intro x hx z hz hxz
    rw [List.mem_append] at hx ⊢
    rcases hx with hx | hx
    · exact .inl (ih x hx z hz hxz)
    · simp at hx; subst hx; exact .inl (h4 z hz hxz)
/-- What is freed is not reached. -/
theorem Chain.unreached {g : List (List Int)} {r out : List Int} (hg : Gr g) (hr : ∀ x ∈ r, 0 ≤ x ∧ x < (g.length : Int)) (h : Chain g r out) {x : Int} (hx : Rch g r x) : x ∉ out := by
  induction hx with
  | base h1 => exact fun q => h.root _ q h1
  | step h1 h2 ih => exact fun q => ih (h.ref _ q _ (h1.idx hg hr) h2)
/-- Nothing more can be freed: what counts nothing is among it. -/
def Full (g : List (List Int)) (r out : List Int) : Prop := ∀ x, 0 ≤ x ∧ x < (g.length : Int) → r.count x + restc g out x = 0 → x ∈ out
/-- What is freed in an order lies in all that nothing more can be freed of. -/
theorem Chain.sub {g : List (List Int)} {r r' out full : List Int} (hg : Gr g) (h : Chain g r out) (hr : ∀ x, r'.count x ≤ r.count x) (hf : Full g r' full) : ∀ x ∈ out, x ∈ full := by
  induction h with
  | nil => simp
  | snoc h0 h1 h2 h3 h4 ih =>
    intro x hx
    rcases List.mem_append.1 hx with hx | hx
    · exact ih x hx
    · simp at hx
      subst hx
      refine hf _ h1 ?_
      have e1 : r'.count x = 0 := by have := hr x; omega
      have e2 : restc g full x = 0 := by
        rcases Nat.eq_zero_or_pos (restc g full x) with e | e
        · exact e
        · obtain ⟨z, hz, hzf, hxz⟩ := restc_ex e
          exact absurd (ih z (h4 z hz hxz)) hzf
      omega
/-- The state between two rounds: counts, a pile, and what is freed. -/
structure FInv (g : List (List Int)) (r : List Int) (C : Prop) (out pile c : List Int) : Prop where
  chain : Chain g r out
  len : c.length = g.length
  val : ∀ i : Nat, i < g.length → c.getD i 0 = ((r.count (i : Int) + restc g out (i : Int) : Nat) : Int)
  nd : (out ++ pile).Nodup
  idx : ∀ x ∈ pile, 0 ≤ x ∧ x < (g.length : Int)
  zero : ∀ x ∈ pile, c.getD x.toNat 0 = 0
  comp : C → ∀ x, 0 ≤ x ∧ x < (g.length : Int) → c.getD x.toNat 0 = 0 → x ∈ out ++ pile
/-- The state within a round: what is still to be taken off the counts. -/
structure FIn (g : List (List Int)) (r : List Int) (C : Prop) (out pile c q : List Int) : Prop where
  chain : Chain g r out
  len : c.length = g.length
  val : ∀ i : Nat, i < g.length → c.getD i 0 = ((r.count (i : Int) + restc g out (i : Int) + q.count (i : Int) : Nat) : Int)
  nd : (out ++ pile).Nodup
  idx : ∀ x ∈ pile, 0 ≤ x ∧ x < (g.length : Int)
  zero : ∀ x ∈ out ++ pile, c.getD x.toNat 0 = 0
  comp : C → ∀ x, 0 ≤ x ∧ x < (g.length : Int) → c.getD x.toNat 0 = 0 → x ∈ out ++ pile
theorem FInv.out_zero {g : List (List Int)} {r : List Int} {C : Prop} {out pile c : List Int} (h : FInv g r C out pile c) : ∀ x ∈ out, c.getD x.toNat 0 = 0 := by
  intro x hx
  have hi := h.chain.idx x hx
  have e := h.val x.toNat (by omega)
  rw [show ((x.toNat : Nat) : Int) = x by omega] at e
  have e1 : r.count x = 0 := List.count_eq_zero.2 (h.chain.root x hx)
  have e2 : restc g out x = 0 := by
    rcases Nat.eq_zero_or_pos (restc g out x) with e | e
    · exact e
    · obtain ⟨z, hz, hzf, hxz⟩ := restc_ex e
      exact absurd (h.chain.ref x hx z hz hxz) hzf
  rw [e, e1, e2]; rfl
/-- A round begins: the top of the pile is freed. -/
theorem FInv.pop {g : List (List Int)} {r : List Int} {C : Prop} {out pile c : List Int} {k : Int} (h : FInv g r C out (pile ++ [k]) c) : FIn g r C (out ++ [k]) pile c (row g k) := by
  have hk := h.idx k (by simp)
  have hkn : k ∉ out := by
    intro hq
    have := h.nd
    rw [List.nodup_append] at this
    exact this.2.2 k hq k (by simp) rfl
  have hz := h.zero k (by simp)
  have ev := h.val k.toNat (by omega)
  rw [show ((k.toNat : Nat) : Int) = k by omega, hz] at ev
  have e1 : r.count k = 0 := by omega
  have e2 : restc g out k = 0 := by omega
  refine ⟨.snoc h.chain hk hkn e1 (fun z hz hkz => ?_), h.len, fun i hi => ?_, ?_, fun x hx => h.idx x (by simp [hx]), fun x hx => ?_, fun hC x hx h0 => ?_⟩
  · rcases Decidable.em (z ∈ out) with q | q
    · exact q
    · have := restc_pos hz q hkz; omega
  · rw [h.val i hi, restc_snoc g out k i hkn hk]
    omega
  · have := h.nd
    have hp : (out ++ (pile ++ [k])).Perm (out ++ [k] ++ pile) := by
      rw [List.append_assoc]
      exact List.Perm.append_left _ List.perm_append_comm
    exact hp.nodup_iff.1 this
  · rcases List.mem_append.1 hx with hx | hx
    · rcases List.mem_append.1 hx with hx | hx
      · exact h.out_zero x hx
      · simp at hx; subst hx; exact hz
    · exact h.zero x (by simp [hx])
  · have := h.comp hC x hx h0
    simp only [List.mem_append] at this ⊢
    rcases this with q | q | q
    · exact .inl (.inl q)
    · exact .inr q
    · exact .inl (.inr q)
theorem FIn.done {g : List (List Int)} {r : List Int} {C : Prop} {out pile c : List Int} (h : FIn g r C out pile c []) : FInv g r C out pile c :=
  ⟨h.chain, h.len, fun i hi => by rw [h.val i hi]; simp, h.nd, h.idx, fun x hx => h.zero x (List.mem_append.2 (.inr hx)), h.comp⟩
/-- One reference is taken off. -/
theorem FIn.step {g : List (List Int)} {r : List Int} {C : Prop} {out pile c q : List Int} {y : Int} (h : FIn g r C out pile c (y :: q)) (hy : 0 ≤ y ∧ y < (g.length : Int)) :
    FIn g r C out (if (c.set y.toNat (c.getD y.toNat 0 - 1)).getD y.toNat 0 = 0 then pile ++ [y] else pile) (c.set y.toNat (c.getD y.toNat 0 - 1)) q := by
  have hyl : y.toNat < c.length := by have := h.len; omega
  have hcy := h.val y.toNat (by omega)
  rw [show ((y.toNat : Nat) : Int) = y by omega, List.count_cons_self] at hcy
  have hny : y ∉ out ++ pile := fun hq => by have := h.zero y hq; omega
  have hget : ∀ i : Nat, (c.set y.toNat (c.getD y.toNat 0 - 1)).getD i 0 = if y.toNat = i then c.getD y.toNat 0 - 1 else c.getD i 0 := fun i => getD_set hyl
  have hval : ∀ i : Nat, i < g.length → (c.set y.toNat (c.getD y.toNat 0 - 1)).getD i 0 = ((r.count (i : Int) + restc g out (i : Int) + q.count (i : Int) : Nat) : Int) := by
    intro i hi
    rw [hget]
    by_cases e : y.toNat = i
    · rw [if_pos e, hcy, show (i : Int) = y by omega]
      omega
    · rw [if_neg e, h.val i hi, List.count_cons, if_neg (by simp; omega)]
      rfl
  have hsame : ∀ x, x ∈ out ++ pile → (c.set y.toNat (c.getD y.toNat 0 - 1)).getD x.toNat 0 = 0 := by
    intro x hx
    have hxi : 0 ≤ x := by
      rcases List.mem_append.1 hx with q | q
      · exact (h.chain.idx x q).1
      · exact (h.idx x q).1
    rw [hget, if_neg (fun e => hny (by rw [show y = x by omega]; exact hx))]
    exact h.zero x hx
  have hcomp : ∀ hC : C, ∀ x, 0 ≤ x ∧ x < (g.length : Int) → (c.set y.toNat (c.getD y.toNat 0 - 1)).getD x.toNat 0 = 0 → x ≠ y → x ∈ out ++ pile := by
    intro hC x hx h0 hne
    rw [hget, if_neg (by omega)] at h0
    exact h.comp hC x hx h0
  by_cases hz : (c.set y.toNat (c.getD y.toNat 0 - 1)).getD y.toNat 0 = 0
  · rw [if_pos hz]
    refine ⟨h.chain, by rw [List.length_set]; exact h.len, hval, ?_, fun x hx => ?_, fun x hx => ?_, fun hC x hx h0 => ?_⟩
    · rw [← List.append_assoc, List.nodup_append]
      exact ⟨h.nd, by simp, fun a ha b hb e => by simp at hb; subst hb; subst e; exact hny ha⟩
    · rcases List.mem_append.1 hx with q | q
      · exact h.idx x q
      · simp at q; subst q; exact hy
    · rw [← List.append_assoc] at hx
      rcases List.mem_append.1 hx with q | q
      · exact hsame x q
      · simp at q; subst q; exact hz
    · rw [← List.append_assoc, List.mem_append]
      by_cases e : x = y
      · exact .inr (by simp [e])
      · exact .inl (hcomp hC x hx h0 e)
  · rw [if_neg hz]
    refine ⟨h.chain, by rw [List.length_set]; exact h.len, hval, h.nd, h.idx, hsame, fun hC x hx h0 => ?_⟩
    by_cases e : x = y
    · subst e; exact absurd h0 hz
    · exact hcomp hC x hx h0 e
/-- Lists of indices without a double are no longer than the graph. -/
theorem nodup_len {n : Nat} {l : List Int} (h : l.Nodup) (hi : ∀ x ∈ l, 0 ≤ x ∧ x < (n : Int)) : l.length ≤ n := by
  have key : ∀ (m : List Int) (l : List Int), l.Nodup → (∀ x ∈ l, x ∈ m) → l.length ≤ m.length := by
    intro m
    induction m with
    | nil => intro l _ h; cases l with
      | nil => simp
      | cons a l => exact absurd (h a (by simp)) (by simp)
    | cons a m ih =>
      intro l hn hm
      have h1 := ih (l.filter fun x => decide (x ≠ a)) (hn.filter _) (fun x hx => by
        obtain ⟨p, q⟩ := List.mem_filter.1 hx
        rcases List.mem_cons.1 (hm x p) with e | e
        · simp [e] at q
        · exact e)
      have h2 : l.length ≤ (l.filter fun x => decide (x ≠ a)).length + 1 := by
        clear ih hm h1
        induction l with
        | nil => simp
        | cons b l ih2 =>
          rw [List.nodup_cons] at hn
          by_cases e : b = a
          · subst e
            rw [List.filter_cons_of_neg (by simp), List.filter_eq_self.2 (fun x hx => by
              have : x ≠ b := fun e => hn.1 (e ▸ hx)
              simpa using this)]
            simp
          · rw [List.filter_cons_of_pos (by simpa using e), List.length_cons, List.length_cons]
            have := ih2 hn.2
            omega
      simp only [List.length_cons]
      omega
  have := key (allL n) l h (fun x hx => mem_allL.2 (hi x hx))
  rwa [allL_length] at this
end Go.Proofs.GR
