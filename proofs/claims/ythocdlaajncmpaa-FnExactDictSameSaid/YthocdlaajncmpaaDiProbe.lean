/- The slots that are looked at for a key. -/
import Derived.Test.YthocdlaajncmpaaDiBase
import Derived.Test.YthocdlaajncmpaaQ0
import Derived.Test.YthocdlaajncmpaaQ2
import Derived.Test.YthocdlaajncmpaaQ6
set_option linter.unusedSimpArgs false
set_option linter.unusedVariables false
namespace Go.Proofs.Ythocdlaajncmpaa.DI
open Go.RowKit Go.Proofs.Ythocdlaajncmpaa.Q Go.Proofs.YthocdlaajncmpaaW.PrintWords

def st (n : Nat) (p : Nat × Nat) : Nat × Nat := ((5 * p.1 + p.2 / 8 + 1) % n, p.2 / 8)
def it (n : Nat) : Nat → Nat × Nat → Nat × Nat
  | 0, p => p
  | t + 1, p => it n t (st n p)
theorem it_add (n : Nat) : ∀ s t p, it n (s + t) p = it n t (it n s p) := by
  intro s
  induction s with
  | zero => intro t p; rw [Nat.zero_add]; rfl
  | succ s ih => intro t p; rw [Nat.add_right_comm]; exact ih t (st n p)
def fit (n : Nat) : Nat → Nat → Nat
  | 0, a => a
  | t + 1, a => fit n t ((5 * a + 1) % n)
theorem fit_add (n : Nat) : ∀ s t a, fit n (s + t) a = fit n t (fit n s a) := by
  intro s
  induction s with
  | zero => intro t a; rw [Nat.zero_add]; rfl
  | succ s ih => intro t a; rw [Nat.add_right_comm]; exact ih t _
theorem it_zero (n : Nat) : ∀ t a, it n t (a, 0) = (fit n t a, 0) := by
  intro t
  induction t with
  | zero => intro a; rfl
  | succ t ih => intro a; show it n t (st n (a, 0)) = _; rw [show st n (a, 0) = ((5 * a + 1) % n, 0) by unfold st; simp]; exact ih _
set_option maxRecDepth 100000 in
theorem cyc : ∀ n, (n = 8 ∨ n = 16 ∨ n = 32 ∨ n = 64 ∨ n = 128) → fit n n 0 = 0 ∧ ∀ e, e < n → ∃ t, t < n ∧ fit n t 0 = e := by
  intro n hn
  rcases hn with rfl | rfl | rfl | rfl | rfl <;> exact ⟨by decide +kernel, by decide +kernel⟩
theorem hits (n : Nat) (hn : n = 8 ∨ n = 16 ∨ n = 32 ∨ n = 64 ∨ n = 128) (a r e : Nat) (hr : r < 65536) (he : e < n) : ∃ t, t ≤ 6 + 2 * n ∧ (it n t (a, r)).1 = e := by
  obtain ⟨c0, c1⟩ := cyc n hn
  have h6 : ∃ a', a' < n ∧ it n 6 (a, r) = (a', 0) := by
    refine ⟨(it n 6 (a, r)).1, ?_, ?_⟩
    · show (5 * _ + _ + 1) % n < n
      exact Nat.mod_lt _ (by omega)
    · have : (it n 6 (a, r)).2 = 0 := by
        show r / 8 / 8 / 8 / 8 / 8 / 8 = 0
        omega
      rw [← this]
  obtain ⟨a', ha', h6⟩ := h6
  obtain ⟨s, hs, rfl⟩ := c1 a' ha'
  obtain ⟨u, hu, rfl⟩ := c1 e he
  refine ⟨6 + ((n - s) + u), by omega, ?_⟩
  rw [it_add, h6, it_zero]
  show fit n (n - s + u) (fit n s 0) = fit n u 0
  rw [fit_add, ← fit_add n s (n - s), show s + (n - s) = n by omega, c0]
structure Good (I : List Int) (E : List S38) : Prop where
  size : I.length = 8 ∨ I.length = 16 ∨ I.length = 32 ∨ I.length = 64 ∨ I.length = 128
  rng : ∀ x ∈ I, -2 ≤ x ∧ x < (E.length : Int)
  free : ∃ j, j < I.length ∧ I.getD j 0 = -1
def Stop (I : List Int) (E : List S38) (key : ByteArray) (a : Nat) : Prop := I.getD a 0 = -1 ∨ (0 ≤ I.getD a 0 ∧ (E.getD (I.getD a 0).toNat z38).f0.toList = key.toList)
theorem next_eq {n a r : Nat} (ha : a < n) (hn : n ≤ 128) (hr : r < 65536) : Int.tmod (wrap64 ((wrap64 ((wrap64 (5 * (a : Int))) + (wrap64 (Int.tdiv (r : Int) 8)))) + 1)) (n : Int) = (((st n (a, r)).1 : Nat) : Int) ∧ wrap64 (Int.tdiv (r : Int) 8) = (((st n (a, r)).2 : Nat) : Int) := by
  have e : Int.tdiv (r : Int) 8 = ((r / 8 : Nat) : Int) := by rw [Int.tdiv_eq_ediv_of_nonneg (by omega)]; omega
  rw [e, w64 (x := 5 * (a : Int)) (by omega) (by omega), w64 (x := ((r / 8 : Nat) : Int)) (by omega) (by omega), w64 (x := 5 * (a : Int) + ((r / 8 : Nat) : Int)) (by omega) (by omega), w64 (by omega) (by omega)]
  refine ⟨?_, rfl⟩
  rw [show 5 * (a : Int) + ((r / 8 : Nat) : Int) + 1 = ((5 * a + r / 8 + 1 : Nat) : Int) by omega, Int.tmod_eq_emod_of_nonneg (by omega)]
  show _ = (((5 * a + r / 8 + 1) % n : Nat) : Int)
  rw [Int.natCast_emod]
theorem st_rng {n : Nat} (hn : 0 < n) (a r : Nat) (hr : r < 65536) : (st n (a, r)).1 < n ∧ (st n (a, r)).2 < 65536 := ⟨Nat.mod_lt _ hn, by show r / 8 < 65536; omega⟩
theorem probe_l (I : List Int) (E : List S38) (hG : Good I E) (key : ByteArray) (lim : Nat) (hlim : lim ≤ 100000) : ∀ (t a r : Nat) (out : List Int) (i : Nat), a < I.length → r < 65536 → Stop I E key (it I.length t (a, r)).1 → out.length + t ≤ 1000000 → i + t < lim →
    ∃ L : List Int, L ≠ [] ∧ (∀ x ∈ L, 0 ≤ x ∧ x < (I.length : Int)) ∧ Stop I E key (L.getD (L.length - 1) 0).toNat ∧ L.length ≤ t + 1 ∧ Ev (fun k => spec_probesOf.l0 k key (I.length : Int) (r : Int) (a : Int) out I E) (out ++ L) ∧ Ev (fun k => impl_Dict_probe.l0 k key (I.length : Int) (a : Int) (r : Int) out (lim : Int) (i : Int) I E) (out ++ L) := by
  have hn : I.length ≤ 128 := by have := hG.size; omega
  have hn0 : 0 < I.length := by have := hG.size; omega
  have here : ∀ (a r : Nat) (out : List Int) (i : Nat), a < I.length → out.length ≤ 1000000 → i < lim → Stop I E key a →
      ∃ L : List Int, L ≠ [] ∧ (∀ x ∈ L, 0 ≤ x ∧ x < (I.length : Int)) ∧ Stop I E key (L.getD (L.length - 1) 0).toNat ∧ L.length ≤ 1 ∧ Ev (fun k => spec_probesOf.l0 k key (I.length : Int) (r : Int) (a : Int) out I E) (out ++ L) ∧ Ev (fun k => impl_Dict_probe.l0 k key (I.length : Int) (a : Int) (r : Int) out (lim : Int) (i : Int) I E) (out ++ L) := by
    intro a r out i ha ho hi hs
    have hx := hG.rng _ (getD_mem' I 0 ha)
    refine ⟨[(a : Int)], by simp, fun x hx => by rw [List.mem_singleton.1 hx]; omega, by simpa using hs, by simp, ?_, ?_⟩
    · refine Ev.step (fun k => spec_probesOf.l0.eq_2 ..) ?_
      simp only [if_pos (show out.length < 17592186044416 by omega), Option.bind, if_pos (show (0 : Int) ≤ a by omega), if_pos (show (a : Int) < (I.length : Int) by omega), rdN]
      rcases hs with hs | ⟨hs0, hs1⟩
      · simp only [if_pos hs]; exact Ev.now _
      · simp only [if_neg (show ¬ I.getD a 0 = -1 by omega), if_pos (show I.getD a 0 ≥ 0 from hs0), if_pos hs0, if_pos hx.2]
        simp only [if_pos (show (rd_T38 E (I.getD a 0)).f0.toList = key.toList from hs1)]
        exact Ev.now _
    · refine Ev.step (fun k => impl_Dict_probe.l0.eq_2 ..) ?_
      simp only [if_pos (show (i : Int) < (lim : Int) by omega), if_pos (show out.length < 17592186044416 by omega), Option.bind, if_pos (show (0 : Int) ≤ a by omega), if_pos (show (a : Int) < (I.length : Int) by omega), rdN]
      rcases hs with hs | ⟨hs0, hs1⟩
      · simp only [if_pos hs]; exact Ev.now _
      · simp only [if_neg (show ¬ I.getD a 0 = -1 by omega), if_pos (show I.getD a 0 ≥ 0 from hs0), if_pos hs0, if_pos hx.2]
        simp only [if_pos (show (rd_T38 E (I.getD a 0)).f0.toList = key.toList from hs1)]
        exact Ev.now _
  intro t
  induction t with
  | zero =>
    intro a r out i ha hr hs ho hi
    obtain ⟨L, h1, h2, h3, h4, h5⟩ := here a r out i ha (by omega) (by omega) hs
    exact ⟨L, h1, h2, h3, by omega, h5⟩
  | succ t ih =>
    intro a r out i ha hr hs ho hi
    by_cases hst : Stop I E key a
    · obtain ⟨L, h1, h2, h3, h4, h5⟩ := here a r out i ha (by omega) (by omega) hst
      exact ⟨L, h1, h2, h3, by omega, h5⟩
    · have hx := hG.rng _ (getD_mem' I 0 ha)
      obtain ⟨q1, q2⟩ := st_rng hn0 a r hr
      obtain ⟨e1, e2⟩ := next_eq ha hn hr
      rw [e2] at e1
      obtain ⟨L, h1, h2, h3, h4, h5, h6⟩ := ih (st I.length (a, r)).1 (st I.length (a, r)).2 (out ++ [(a : Int)]) (i + 1) q1 q2 hs (by simp; omega) (by omega)
      have ho' : out ++ [(a : Int)] ++ L = out ++ (a : Int) :: L := by simp
      rw [ho'] at h5 h6
      have n1 : ¬ I.getD a 0 = -1 := fun q => hst (.inl q)
      refine ⟨(a : Int) :: L, by simp, ?_, ?_, by simp; omega, ?_, ?_⟩
      · intro x hx
        rcases List.mem_cons.1 hx with q | q
        · rw [q]; omega
        · exact h2 x q
      · have : ((a : Int) :: L).getD (((a : Int) :: L).length - 1) 0 = L.getD (L.length - 1) 0 := by
          cases L with
          | nil => exact absurd rfl h1
          | cons x L => simp
        rw [this]; exact h3
      · refine Ev.step (fun k => spec_probesOf.l0.eq_2 ..) ?_
        simp only [if_pos (show out.length < 17592186044416 by omega), Option.bind, if_pos (show (0 : Int) ≤ a by omega), if_pos (show (a : Int) < (I.length : Int) by omega), rdN, if_neg n1, if_neg (show ¬ (I.length : Int) = 0 by omega), e1, e2]
        by_cases g : 0 ≤ I.getD a 0
        · have n2 : ¬ (E.getD (I.getD a 0).toNat z38).f0.toList = key.toList := fun q => hst (.inr ⟨g, q⟩)
          simp only [if_pos (show I.getD a 0 ≥ 0 from g), if_pos g, if_pos hx.2]
          simp only [if_neg (show ¬ (rd_T38 E (I.getD a 0)).f0.toList = key.toList from n2)]
          exact h5
        · simp only [if_neg (show ¬ I.getD a 0 ≥ 0 from g)]
          exact h5
      · refine Ev.step (fun k => impl_Dict_probe.l0.eq_2 ..) ?_
        have hil : i < lim := by omega
        simp only [if_pos (show (i : Int) < (lim : Int) by omega), wnext hil (show lim ≤ maxLen by unfold maxLen; omega), if_pos (show out.length < 17592186044416 by omega), Option.bind, if_pos (show (0 : Int) ≤ a by omega), if_pos (show (a : Int) < (I.length : Int) by omega), rdN, if_neg n1, if_neg (show ¬ (I.length : Int) = 0 by omega), e1, e2]
        by_cases g : 0 ≤ I.getD a 0
        · have n2 : ¬ (E.getD (I.getD a 0).toNat z38).f0.toList = key.toList := fun q => hst (.inr ⟨g, q⟩)
          simp only [if_pos (show I.getD a 0 ≥ 0 from g), if_pos g, if_pos hx.2]
          simp only [if_neg (show ¬ (rd_T38 E (I.getD a 0)).f0.toList = key.toList from n2)]
          exact h6
        · simp only [if_neg (show ¬ I.getD a 0 ≥ 0 from g)]
          exact h6
/-- The slots for a key of a good dictionary, for both. -/
theorem probe_ex (I : List Int) (E : List S38) (hG : Good I E) (key : ByteArray) (hk : key.size ≤ 20) : ∃ L : List Int, L ≠ [] ∧ (∀ x ∈ L, 0 ≤ x ∧ x < (I.length : Int)) ∧ Stop I E key (L.getD (L.length - 1) 0).toNat ∧ L.length ≤ 1000 ∧ Ev (fun k => spec_probesOf.f k I E key) L ∧ Ev (fun k => impl_Dict_probe.f k I E key) L := by
  have hn : I.length ≤ 128 := by have := hG.size; omega
  have hn0 : 0 < I.length := by have := hG.size; omega
  obtain ⟨j, hj, hf⟩ := hG.free
  obtain ⟨h0, h1⟩ := hash_rng key
  obtain ⟨r, hr⟩ : ∃ r : Nat, hashP key = (r : Int) := ⟨(hashP key).toNat, by omega⟩
  have hrl : r < 65536 := by omega
  obtain ⟨t, ht, he⟩ := hits I.length hG.size (r % I.length) r j hrl hj
  obtain ⟨L, l1, l2, l3, l4, l5, l6⟩ := probe_l I E hG key (65536 + 2 * I.length) (by omega) t (r % I.length) r [] 0 (Nat.mod_lt _ hn0) hrl (by rw [he]; exact .inl hf) (by simp; omega) (by omega)
  have em : Int.tmod (r : Int) (I.length : Int) = ((r % I.length : Nat) : Int) := by rw [Int.tmod_eq_emod_of_nonneg (by omega), Int.natCast_emod]
  refine ⟨L, l1, l2, l3, by omega, ?_, ?_⟩
  · unfold spec_probesOf.f
    have := spec_hash key (by unfold maxLen; omega)
    rw [hr] at this
    refine Ev.bind this ?_
    simp only [if_neg (show ¬ (I.length : Int) = 0 by omega), em]
    exact l5
  · unfold impl_Dict_probe.f
    have := impl_hash key hk
    rw [hr] at this
    refine Ev.bind this ?_
    simp only [if_neg (show ¬ (I.length : Int) = 0 by omega), em]
    rw [w64 (x := 2 * (I.length : Int)) (by omega) (by omega), w64 (by omega) (by omega)]
    exact l6
end Go.Proofs.Ythocdlaajncmpaa.DI
