/- Dictionaries: hashes, and how many entries are live. -/
import Derived.Test.YthocdlaajncmpaaGrMath
import Derived.Test.YthocdlaajncmpaaQ0
import Derived.Test.YthocdlaajncmpaaQ2
import Derived.Test.YthocdlaajncmpaaQ6
set_option linter.unusedSimpArgs false
set_option linter.unusedVariables false
namespace Go.Proofs.Ythocdlaajncmpaa.DI
open Go.RowKit Go.Proofs.Ythocdlaajncmpaa.Q Go.Proofs.YthocdlaajncmpaaW.PrintWords

theorem wnext {i n : Nat} (h : i < n) (hn : n ≤ maxLen) : wrap64 ((i : Int) + 1) = ((i + 1 : Nat) : Int) := by unfold wrap64; unfold maxLen at hn; omega
theorem w64 {x : Int} (h0 : -1000000000000000000 ≤ x) (h1 : x ≤ 1000000000000000000) : wrap64 x = x := by unfold wrap64; omega
/-- A loop that goes on as long as each passes. -/
theorem allLoop {n : Nat} {F : Nat → Int → Option Bool} {c : Nat → Bool} {B : Bool}
    (yes : ∀ i, i < n → c i = true → ∀ r, Ev (fun k => F k ((i + 1 : Nat) : Int)) r → Ev (fun k => F k (i : Int)) r)
    (no : ∀ i, i < n → c i = false → Ev (fun k => F k (i : Int)) false)
    (stop : (∀ j, j < n → c j = true) → Ev (fun k => F k (n : Int)) B) : Ev (fun k => F k ((0 : Nat) : Int)) (decide (∀ j, j < n → c j = true) && B) := by
  by_cases h : ∀ j, j < n → c j = true
  · rw [decide_eq_true h, Bool.true_and]
    have key : ∀ d i, n - i = d → i ≤ n → Ev (fun k => F k (i : Int)) B := by
      intro d
      induction d with
      | zero => intro i h1 h2; obtain rfl : i = n := by omega
                exact stop h
      | succ d ih => intro i h1 h2; exact yes i (by omega) (h i (by omega)) _ (ih (i + 1) (by omega) (by omega))
    exact key n 0 (by omega) (Nat.zero_le _)
  · rw [decide_eq_false h, Bool.false_and]
    have : ∃ j, j < n ∧ c j = false := by
      by_cases q : ∃ j, j < n ∧ c j = false
      · exact q
      · refine absurd (fun j hj => ?_) h
        cases e : c j with
        | true => rfl
        | false => exact absurd ⟨j, hj, e⟩ q
    obtain ⟨j, hj, hc⟩ := this
    have key : ∀ d i, j - i = d → i ≤ j → Ev (fun k => F k (i : Int)) false := by
      intro d
      induction d with
      | zero => intro i h1 h2; obtain rfl : i = j := by omega
                exact no i hj hc
      | succ d ih =>
        intro i h1 h2
        cases e : c i with
        | true => exact yes i (by omega) e _ (ih (i + 1) (by omega) (by omega))
        | false => exact no i (by omega) e
    exact key j 0 (by omega) (Nat.zero_le _)
theorem getD_get {α : Type} (l : List α) (d : α) {i : Nat} (h : i < l.length) : l.getD i d = l[i] := by simp [h]
theorem getD_mem' {α : Type} (l : List α) (d : α) {i : Nat} (h : i < l.length) : l.getD i d ∈ l := by rw [getD_get l d h]; exact List.getElem_mem h
theorem drop_getD {α : Type} (l : List α) (d : α) {i : Nat} (h : i < l.length) : l.drop i = l.getD i d :: l.drop (i + 1) := by
  rw [List.drop_eq_getElem_cons h]
  simp [h]
theorem rdN (l : List Int) (i : Nat) : rd l (i : Int) = l.getD i 0 := by unfold rd; simp
theorem rdE (l : List S38) (i : Nat) : rd_T38 l (i : Int) = l.getD i z38 := by unfold rd_T38; simp
theorem bt_rng (s : ByteArray) (i : Int) : 0 ≤ bt s i ∧ bt s i ≤ 255 := by
  unfold bt
  split
  · rename_i h
    have := (s[i.toNat]'h).toNat_lt
    omega
  · omega
def hstep (s : ByteArray) (i : Nat) (h : Int) : Int := Int.tmod (h * 31 + bt s (i : Int)) 65536
def hgo (s : ByteArray) : Nat → Nat → Int → Int
  | 0, _, h => h
  | d + 1, i, h => hgo s d (i + 1) (hstep s i h)
def hashP (s : ByteArray) : Int := hgo s s.size 0 7
theorem hstep_rng (s : ByteArray) (i : Nat) {h : Int} (h0 : 0 ≤ h) : 0 ≤ hstep s i h ∧ hstep s i h < 65536 := by
  unfold hstep
  have := bt_rng s i
  rw [Int.tmod_eq_emod_of_nonneg (by omega)]
  omega
theorem hgo_rng (s : ByteArray) : ∀ d i h, 0 ≤ h → h < 65536 → 0 ≤ hgo s d i h ∧ hgo s d i h < 65536 := by
  intro d
  induction d with
  | zero => intro i h h0 h1; exact ⟨h0, h1⟩
  | succ d ih => intro i h h0 h1; exact ih _ _ (hstep_rng s i h0).1 (hstep_rng s i h0).2
theorem hash_rng (s : ByteArray) : 0 ≤ hashP s ∧ hashP s < 65536 := hgo_rng s _ _ _ (by decide) (by decide)
theorem spec_hash_l (s : ByteArray) (hs : s.size ≤ maxLen) : ∀ d (i : Nat) h, s.size - i = d → i ≤ s.size → 0 ≤ h → h < 65536 → Ev (fun k => spec_hashOf.l0 k s h (i : Int)) (hgo s d i h) := by
  intro d
  induction d with
  | zero =>
    intro i h h1 h2 h3 h4
    obtain rfl : i = s.size := by omega
    refine Ev.step (fun k => spec_hashOf.l0.eq_2 ..) ?_
    simp only [Int.lt_irrefl, if_false]
    exact Ev.now _
  | succ d ih =>
    intro i h h1 h2 h3 h4
    have hi : i < s.size := by omega
    have hb := bt_rng s i
    refine Ev.step (fun k => spec_hashOf.l0.eq_2 ..) ?_
    simp only [if_pos (show (i : Int) < (s.size : Int) by omega), if_pos (show (0 : Int) ≤ i by omega), wnext hi hs]
    rw [w64 (x := h * 31) (by omega) (by omega), w64 (x := bt s i) (by omega) (by omega), w64 (by omega) (by omega)]
    exact ih (i + 1) (hstep s i h) (by omega) (by omega) (hstep_rng s i h3).1 (hstep_rng s i h3).2
theorem spec_hash (s : ByteArray) (hs : s.size ≤ maxLen) : Ev (fun k => spec_hashOf.f k s) (hashP s) := by
  unfold spec_hashOf.f
  exact spec_hash_l s hs _ 0 7 rfl (Nat.zero_le _) (by decide) (by decide)
theorem impl_hash_l (s : ByteArray) (hs : s.size ≤ maxLen) : ∀ d (i : Nat) h, s.size - i = d → i ≤ s.size → 0 ≤ h → h < 65536 → Ev (fun k => impl_DictHash.l0 k s h (s.size : Int) (i : Int)) (hgo s d i h) := by
  intro d
  induction d with
  | zero =>
    intro i h h1 h2 h3 h4
    obtain rfl : i = s.size := by omega
    refine Ev.step (fun k => impl_DictHash.l0.eq_2 ..) ?_
    simp only [Int.lt_irrefl, if_false]
    exact Ev.now _
  | succ d ih =>
    intro i h h1 h2 h3 h4
    have hi : i < s.size := by omega
    have hb := bt_rng s i
    refine Ev.step (fun k => impl_DictHash.l0.eq_2 ..) ?_
    simp only [if_pos (show (i : Int) < (s.size : Int) by omega), if_pos (show (0 : Int) ≤ i by omega), wnext hi hs]
    rw [w64 (x := h * 31) (by omega) (by omega), w64 (x := bt s i) (by omega) (by omega), w64 (by omega) (by omega)]
    exact ih (i + 1) (hstep s i h) (by omega) (by omega) (hstep_rng s i h3).1 (hstep_rng s i h3).2
theorem impl_hash (s : ByteArray) (hs : s.size ≤ 20) : Ev (fun k => impl_DictHash.f k s) (hashP s) := by
  unfold impl_DictHash.f
  simp only [if_neg (show ¬ (s.size : Int) > 20 by omega)]
  exact impl_hash_l s (by unfold maxLen; omega) _ 0 7 rfl (Nat.zero_le _) (by decide) (by decide)
def live (E : List S38) : Nat := E.countP fun e => e.f3
theorem live_cons (e : S38) (E : List S38) : live (e :: E) = live E + (if e.f3 = true then 1 else 0) := by unfold live; rw [List.countP_cons]
theorem live_le (E : List S38) : live E ≤ E.length := List.countP_le_length
theorem spec_live_l (I : List Int) (E : List S38) (hE : E.length ≤ 1000000) : ∀ d (i : Nat) (v : Int), E.length - i = d → i ≤ E.length → 0 ≤ v → v ≤ i → Ev (fun k => spec_liveEntries.l0 k v (i : Int) I E) (v + (live (E.drop i) : Nat)) := by
  intro d
  induction d with
  | zero =>
    intro i v h1 h2 h3 h4
    obtain rfl : i = E.length := by omega
    refine Ev.step (fun k => spec_liveEntries.l0.eq_2 ..) ?_
    simp only [Int.lt_irrefl, if_false]
    rw [List.drop_length]
    have : v + ((live ([] : List S38) : Nat) : Int) = v := by show v + ((0 : Nat) : Int) = v; omega
    rw [this]
    exact Ev.now _
  | succ d ih =>
    intro i v h1 h2 h3 h4
    have hi : i < E.length := by omega
    refine Ev.step (fun k => spec_liveEntries.l0.eq_2 ..) ?_
    simp only [if_pos (show (i : Int) < (E.length : Int) by omega), if_pos (show (0 : Int) ≤ i by omega), rdE, wnext hi (show E.length ≤ maxLen by unfold maxLen; omega)]
    rw [drop_getD E z38 hi, live_cons]
    cases h : (E.getD i z38).f3 with
    | true =>
      simp only [if_true]
      rw [w64 (x := v + 1) (by omega) (by omega)]
      have := ih (i + 1) (v + 1) (by omega) (by omega) (by omega) (by omega)
      rw [show v + 1 + ((live (E.drop (i + 1)) : Nat) : Int) = v + ((live (E.drop (i + 1)) + 1 : Nat) : Int) by omega] at this
      exact this
    | false =>
      simp only [Bool.false_eq_true, if_false]
      exact ih (i + 1) v (by omega) (by omega) (by omega) (by omega)
theorem spec_live (I : List Int) (E : List S38) (hE : E.length ≤ 1000000) : Ev (fun k => spec_liveEntries.f k I E) (live E : Nat) := by
  unfold spec_liveEntries.f
  have := spec_live_l I E hE _ 0 0 rfl (Nat.zero_le _) (Int.le_refl _) (Int.le_refl _)
  simpa using this
theorem impl_live_l (E : List S38) (hE : E.length ≤ 1000000) : ∀ d (i : Nat) (v : Int), E.length - i = d → i ≤ E.length → 0 ≤ v → v ≤ i → Ev (fun k => impl_Dict_live.l0 k v E (E.length : Int) (i : Int)) (v + (live (E.drop i) : Nat)) := by
  intro d
  induction d with
  | zero =>
    intro i v h1 h2 h3 h4
    obtain rfl : i = E.length := by omega
    refine Ev.step (fun k => impl_Dict_live.l0.eq_2 ..) ?_
    simp only [Int.lt_irrefl, if_false]
    rw [List.drop_length]
    have : v + ((live ([] : List S38) : Nat) : Int) = v := by show v + ((0 : Nat) : Int) = v; omega
    rw [this]
    exact Ev.now _
  | succ d ih =>
    intro i v h1 h2 h3 h4
    have hi : i < E.length := by omega
    refine Ev.step (fun k => impl_Dict_live.l0.eq_2 ..) ?_
    simp only [if_pos (show (i : Int) < (E.length : Int) by omega), if_pos (show (0 : Int) ≤ i by omega), rdE, wnext hi (show E.length ≤ maxLen by unfold maxLen; omega)]
    rw [drop_getD E z38 hi, live_cons]
    cases h : (E.getD i z38).f3 with
    | true =>
      simp only [if_true]
      rw [w64 (x := v + 1) (by omega) (by omega)]
      have := ih (i + 1) (v + 1) (by omega) (by omega) (by omega) (by omega)
      rw [show v + 1 + ((live (E.drop (i + 1)) : Nat) : Int) = v + ((live (E.drop (i + 1)) + 1 : Nat) : Int) by omega] at this
      exact this
    | false =>
      simp only [Bool.false_eq_true, if_false]
      exact ih (i + 1) v (by omega) (by omega) (by omega) (by omega)
theorem impl_live (I : List Int) (E : List S38) (hE : E.length ≤ 1000000) : Ev (fun k => impl_Dict_live.f k I E) (live E : Nat) := by
  unfold impl_Dict_live.f
  have := impl_live_l E hE _ 0 0 rfl (Nat.zero_le _) (Int.le_refl _) (Int.le_refl _)
  simpa using this
theorem inRange_eq (x a b : Int) : spec_inRange.f x a b = some (decide (a ≤ x ∧ x ≤ b)) := by
  unfold spec_inRange.f
  (repeat' split) <;> (congr 1; rw [Bool.eq_iff_iff]; simp only [decide_eq_true_eq, iff_true, true_iff, Bool.false_eq_true, false_iff]; omega)
theorem within_eq (x a b : Int) : impl_within.f x a b = some (decide (a ≤ x ∧ x ≤ b)) := by
  unfold impl_within.f
  (repeat' split) <;> (congr 1; rw [Bool.eq_iff_iff]; simp only [decide_eq_true_eq, iff_true, true_iff, Bool.false_eq_true, false_iff]; omega)
theorem key_eq (s : ByteArray) : spec_validKey.f s = some (decide (s.size ≤ 20)) := by
  unfold spec_validKey.f
  congr 1
  rw [Bool.eq_iff_iff, decide_eq_true_eq, decide_eq_true_eq]
  omega
end Go.Proofs.Ythocdlaajncmpaa.DI
