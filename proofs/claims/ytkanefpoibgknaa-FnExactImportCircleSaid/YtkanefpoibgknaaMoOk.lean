/- Modules: what the reference and the program take for valid; copies and sizes. -/
import Derived.Test.YtkanefpoibgknaaMoName
import Derived.Test.YtkanefpoibgknaaQ0
import Derived.Test.YtkanefpoibgknaaQ10
import Derived.Test.YtkanefpoibgknaaQ11
set_option linter.unusedSimpArgs false
set_option linter.unusedVariables false
namespace Go.Proofs.Ytkanefpoibgknaa.MO
open Go.RowKit Go.Proofs.Ytkanefpoibgknaa.Q Go.Proofs.YtkanefpoibgknaaW.PrintWords

def conv (s : S86) : S54 := ⟨s.f0, s.f1, s.f2⟩
def convM (m : S48) : S51 := ⟨m.f0.map conv⟩
theorem rd86 (l : List S86) (i : Nat) : rd_T86 l (i : Int) = l.getD i z86 := by unfold rd_T86; simp
theorem rd48 (l : List S48) (i : Nat) : rd_T48 l (i : Int) = l.getD i z48 := by unfold rd_T48; simp
theorem rd54 (l : List S54) (i : Nat) : rd_T54 l (i : Int) = l.getD i z54 := by unfold rd_T54; simp
theorem rd51 (l : List S51) (i : Nat) : rd_T51 l (i : Int) = l.getD i z51 := by unfold rd_T51; simp
theorem fill_step {α β : Type} (x : List β) (l : List α) (f : α → β) (d : α) (n : Nat) (hn : n < l.length) (hx : x.length = l.length) :
    (x.set n (f (l.getD n d))).take (n + 1) ++ (l.drop (n + 1)).map f = x.take n ++ (l.drop n).map f := by
  rw [drop_getD l d hn, List.map_cons, List.take_add_one, List.getElem?_set_self (by omega), List.take_set_of_le (Nat.le_refl _)]
  simp
theorem toStepS_l (l : List S86) (hl : l.length ≤ maxLen) : ∀ (d n : Nat) (x : List S54), l.length - n = d → n ≤ l.length → x.length = l.length → Ev (fun k => laws_toModStepS.l0 k l x (n : Int)) (x.take n ++ (l.drop n).map conv) := by
  intro d
  induction d with
  | zero =>
    intro n x hd hn hx
    obtain rfl : n = l.length := by omega
    refine Ev.step (fun k => laws_toModStepS.l0.eq_2 ..) ?_
    simp only [Int.lt_irrefl, if_false]
    rw [List.drop_length, ← hx, List.take_length, List.map_nil, List.append_nil]
    exact Ev.now _
  | succ d ih =>
    intro n x hd hn hx
    have hi : n < l.length := by omega
    refine Ev.step (fun k => laws_toModStepS.l0.eq_2 ..) ?_
    simp only [if_pos (show (n : Int) < (l.length : Int) by omega), if_pos (show (0 : Int) ≤ n by omega), if_pos (show (n : Int) < (x.length : Int) by omega), laws_toModStep.f, Option.bind, wnext hi hl, rd86, Int.toNat_natCast]
    have := ih (n + 1) (x.set n (conv (l.getD n z86))) (by omega) (by omega) (by rw [List.length_set, hx])
    rw [fill_step x l conv z86 n hi hx] at this
    exact this
theorem toStepS_ev (l : List S86) (hl : l.length ≤ 1048576) : Ev (fun k => laws_toModStepS.f k l) (l.map conv) := by
  unfold laws_toModStepS.f
  simp only [if_pos (show (0 : Int) ≤ (l.length : Int) by omega), Int.toNat_natCast, if_pos (show l.length ≤ 8796093022208 by omega)]
  have := toStepS_l l (by unfold maxLen; omega) _ 0 (List.replicate l.length z54) rfl (Nat.zero_le _) (by simp)
  simpa using this
theorem toModS_l (l : List S48) (hl : l.length ≤ maxLen) (hm : ∀ m ∈ l, m.f0.length ≤ 1048576) : ∀ (d n : Nat) (x : List S51), l.length - n = d → n ≤ l.length → x.length = l.length → Ev (fun k => laws_toModS.l0 k l x (n : Int)) (x.take n ++ (l.drop n).map convM) := by
  intro d
  induction d with
  | zero =>
    intro n x hd hn hx
    obtain rfl : n = l.length := by omega
    refine Ev.step (fun k => laws_toModS.l0.eq_2 ..) ?_
    simp only [Int.lt_irrefl, if_false]
    rw [List.drop_length, ← hx, List.take_length, List.map_nil, List.append_nil]
    exact Ev.now _
  | succ d ih =>
    intro n x hd hn hx
    have hi : n < l.length := by omega
    refine Ev.step (fun k => laws_toModS.l0.eq_2 ..) ?_
    simp only [if_pos (show (n : Int) < (l.length : Int) by omega), if_pos (show (0 : Int) ≤ n by omega), if_pos (show (n : Int) < (x.length : Int) by omega), wnext hi hl, rd48, Int.toNat_natCast]
    have h1 : Ev (fun k => laws_toMod.f k (l.getD n z48).f0) ((l.getD n z48).f0.map conv) := by
      unfold laws_toMod.f
      exact Ev.bind (toStepS_ev _ (by rw [getD_get l z48 hi]; exact hm _ (List.getElem_mem hi))) (Ev.now _)
    refine Ev.bind h1 ?_
    have := ih (n + 1) (x.set n (convM (l.getD n z48))) (by omega) (by omega) (by rw [List.length_set, hx])
    rw [fill_step x l convM z48 n hi hx] at this
    exact this
theorem toModS_ev (l : List S48) (hl : l.length ≤ 1048576) (hm : ∀ m ∈ l, m.f0.length ≤ 1048576) : Ev (fun k => laws_toModS.f k l) (l.map convM) := by
  unfold laws_toModS.f
  simp only [if_pos (show (0 : Int) ≤ (l.length : Int) by omega), Int.toNat_natCast, if_pos (show l.length ≤ 11728124029610 by omega)]
  have := toModS_l l (by unfold maxLen; omega) hm _ 0 (List.replicate l.length z51) rfl (Nat.zero_le _) (by simp)
  simpa using this

theorem szStep_ev (s : S86) (v : Int) (h0 : 0 ≤ v) (h1 : v ≤ 1048576) (hs : s.f2.size ≤ maxLen) : ∃ r, Ev (fun _ => laws_szModStep.f s.f0 s.f1 s.f2 v) r ∧ (r < 0 ∨ (0 ≤ r ∧ r ≤ v)) := by
  unfold laws_szModStep.f
  have e : wrap64 (v - (s.f2.size : Int)) = v - (s.f2.size : Int) := by unfold wrap64; unfold maxLen at hs; omega
  rw [e]
  by_cases h : v - (s.f2.size : Int) < 0
  · simp only [if_pos h]; exact ⟨_, Ev.now _, .inl (by omega)⟩
  · simp only [if_neg h]; exact ⟨_, Ev.now _, .inr (by omega)⟩
theorem szStepS_l (l : List S86) (hl : l.length ≤ maxLen) (hs : ∀ s ∈ l, s.f2.size ≤ maxLen) : ∀ (d n : Nat) (v : Int), l.length - n = d → n ≤ l.length → 0 ≤ v → v ≤ 1048576 → ∃ r, Ev (fun k => laws_szModStepS.l0 k l v (n : Int)) r ∧ (r < 0 ∨ (0 ≤ r ∧ r ≤ v)) := by
  intro d
  induction d with
  | zero =>
    intro n v hd hn h0 h1
    obtain rfl : n = l.length := by omega
    refine ⟨v, Ev.step (fun k => laws_szModStepS.l0.eq_2 ..) ?_, .inr ⟨h0, Int.le_refl _⟩⟩
    simp only [Int.lt_irrefl, if_false]
    exact Ev.now _
  | succ d ih =>
    intro n v hd hn h0 h1
    have hi : n < l.length := by omega
    obtain ⟨r, hr, hr'⟩ := szStep_ev (l.getD n z86) v h0 h1 (by rw [getD_get l z86 hi]; exact hs _ (List.getElem_mem hi))
    by_cases hneg : r < 0
    · refine ⟨-1, Ev.step (fun k => laws_szModStepS.l0.eq_2 ..) ?_, .inl (by omega)⟩
      simp only [if_pos (show (n : Int) < (l.length : Int) by omega), if_pos (show (0 : Int) ≤ n by omega), rd86]
      refine Ev.bind hr ?_
      simp only [if_pos hneg]
      exact Ev.now _
    · obtain ⟨r2, h2, h3⟩ := ih (n + 1) r (by omega) (by omega) (by omega) (by omega)
      refine ⟨r2, Ev.step (fun k => laws_szModStepS.l0.eq_2 ..) ?_, by omega⟩
      simp only [if_pos (show (n : Int) < (l.length : Int) by omega), if_pos (show (0 : Int) ≤ n by omega), rd86, wnext hi hl]
      refine Ev.bind hr ?_
      simp only [if_neg hneg]
      exact h2
theorem szStepS_ev (l : List S86) (hl : l.length ≤ maxLen) (hs : ∀ s ∈ l, s.f2.size ≤ maxLen) (v : Int) (h0 : 0 ≤ v) (h1 : v ≤ 1048576) : ∃ r, Ev (fun k => laws_szModStepS.f k l v) r ∧ (r < 0 ∨ (0 ≤ r ∧ r ≤ v ∧ l.length ≤ 1048576)) := by
  unfold laws_szModStepS.f
  have e : wrap64 (v - (l.length : Int)) = v - (l.length : Int) := by unfold wrap64; unfold maxLen at hl; omega
  simp only [e]
  by_cases h : v - (l.length : Int) < 0
  · simp only [if_pos h]; exact ⟨_, Ev.now _, .inl (by omega)⟩
  · simp only [if_neg h]
    obtain ⟨r, h2, h3⟩ := szStepS_l l hl hs _ 0 (v - l.length) rfl (Nat.zero_le _) (by omega) (by omega)
    exact ⟨r, h2, by omega⟩
structure Fits (m : S48) : Prop where
  len : m.f0.length ≤ maxLen
  txt : ∀ s ∈ m.f0, s.f2.size ≤ maxLen
theorem szModS_l (l : List S48) (hl : l.length ≤ maxLen) (hs : ∀ m ∈ l, Fits m) : ∀ (d n : Nat) (v : Int), l.length - n = d → n ≤ l.length → 0 ≤ v → v ≤ 1048576 → ∃ r, Ev (fun k => laws_szModS.l0 k l v (n : Int)) r ∧ (r < 0 ∨ (0 ≤ r ∧ r ≤ v ∧ ∀ m ∈ l.drop n, m.f0.length ≤ 1048576)) := by
  intro d
  induction d with
  | zero =>
    intro n v hd hn h0 h1
    obtain rfl : n = l.length := by omega
    refine ⟨v, Ev.step (fun k => laws_szModS.l0.eq_2 ..) ?_, .inr ⟨h0, Int.le_refl _, by simp⟩⟩
    simp only [Int.lt_irrefl, if_false]
    exact Ev.now _
  | succ d ih =>
    intro n v hd hn h0 h1
    have hi : n < l.length := by omega
    have hf : Fits (l.getD n z48) := by rw [getD_get l z48 hi]; exact hs _ (List.getElem_mem hi)
    obtain ⟨r, hr, hr'⟩ := szStepS_ev (l.getD n z48).f0 hf.len hf.txt v h0 h1
    have hm : Ev (fun k => laws_szMod.f k (l.getD n z48).f0 v) (if r < 0 then -1 else r) := by
      unfold laws_szMod.f
      refine Ev.bind hr ?_
      by_cases h : r < 0
      · simp only [if_pos h]; exact Ev.now _
      · simp only [if_neg h]; exact Ev.now _
    by_cases hneg : r < 0
    · rw [if_pos hneg] at hm
      refine ⟨-1, Ev.step (fun k => laws_szModS.l0.eq_2 ..) ?_, .inl (by omega)⟩
      simp only [if_pos (show (n : Int) < (l.length : Int) by omega), if_pos (show (0 : Int) ≤ n by omega), rd48]
      refine Ev.bind hm ?_
      simp only [if_pos (show (-1 : Int) < 0 by omega)]
      exact Ev.now _
    · rw [if_neg hneg] at hm
      obtain ⟨r2, h2, h3⟩ := ih (n + 1) r (by omega) (by omega) (by omega) (by omega)
      refine ⟨r2, Ev.step (fun k => laws_szModS.l0.eq_2 ..) ?_, ?_⟩
      · simp only [if_pos (show (n : Int) < (l.length : Int) by omega), if_pos (show (0 : Int) ≤ n by omega), rd48, wnext hi hl]
        refine Ev.bind hm ?_
        simp only [if_neg hneg]
        exact h2
      · rcases h3 with h3 | ⟨h3, h4, h5⟩
        · exact .inl h3
        · refine .inr ⟨h3, by omega, fun m hm' => ?_⟩
          rw [drop_getD l z48 hi] at hm'
          rcases List.mem_cons.1 hm' with q | q
          · rw [q]; omega
          · exact h5 m q
theorem szModS_ev (l : List S48) (hl : l.length ≤ maxLen) (hs : ∀ m ∈ l, Fits m) : ∃ r, Ev (fun k => laws_szModS.f k l 1048576) r ∧ (r < 0 ∨ (0 ≤ r ∧ l.length ≤ 1048576 ∧ ∀ m ∈ l, m.f0.length ≤ 1048576)) := by
  unfold laws_szModS.f
  have e : wrap64 (1048576 - (l.length : Int)) = 1048576 - (l.length : Int) := by unfold wrap64; unfold maxLen at hl; omega
  simp only [e]
  by_cases h : 1048576 - (l.length : Int) < 0
  · simp only [if_pos h]; exact ⟨_, Ev.now _, .inl (by omega)⟩
  · simp only [if_neg h]
    obtain ⟨r, h2, h3⟩ := szModS_l l hl hs _ 0 (1048576 - l.length) rfl (Nat.zero_le _) (by omega) (by omega)
    refine ⟨r, h2, h3.imp id fun ⟨a, b, c⟩ => ⟨a, by omega, ?_⟩⟩
    simpa using c
theorem eqStepS_ev (l : List S54) (hl : l.length ≤ maxLen) : Ev (fun k => laws_eqModStepS.f k l l) true := by
  unfold laws_eqModStepS.f
  simp only [if_true]
  refine down (F := fun k i => laws_eqModStepS.l0 k l l i) (n := l.length) (res := fun _ => true) ?_ ?_ 0 (Nat.zero_le _)
  · refine Ev.step (fun k => laws_eqModStepS.l0.eq_2 ..) ?_
    simp only [Int.lt_irrefl, if_false]
    exact Ev.now _
  · intro i hi ih
    refine Ev.step (fun k => laws_eqModStepS.l0.eq_2 ..) ?_
    simp only [if_pos (show (i : Int) < (l.length : Int) by omega), if_pos (show (0 : Int) ≤ i by omega), laws_eqModStep.f, if_true, wnext hi hl]
    exact ih
theorem eqModS_ev (l : List S51) (hl : l.length ≤ maxLen) (hm : ∀ m ∈ l, m.f0.length ≤ maxLen) : Ev (fun k => laws_eqModS.f k l l) true := by
  unfold laws_eqModS.f
  simp only [if_true]
  refine down (F := fun k i => laws_eqModS.l0 k l l i) (n := l.length) (res := fun _ => true) ?_ ?_ 0 (Nat.zero_le _)
  · refine Ev.step (fun k => laws_eqModS.l0.eq_2 ..) ?_
    simp only [Int.lt_irrefl, if_false]
    exact Ev.now _
  · intro i hi ih
    refine Ev.step (fun k => laws_eqModS.l0.eq_2 ..) ?_
    simp only [if_pos (show (i : Int) < (l.length : Int) by omega), if_pos (show (0 : Int) ≤ i by omega), wnext hi hl, rd51]
    have h1 : Ev (fun k => laws_eqMod.f k (l.getD i z51).f0 (l.getD i z51).f0) true := by
      unfold laws_eqMod.f
      refine Ev.bind (eqStepS_ev _ (by rw [getD_get l z51 hi]; exact hm _ (List.getElem_mem hi))) ?_
      simp only [if_true]
      exact Ev.now _
    refine Ev.bind h1 ?_
    simp only [if_true]
    exact ih
end Go.Proofs.Ytkanefpoibgknaa.MO
