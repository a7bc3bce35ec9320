/- Dictionaries that come in: sizes, copies, comparisons. -/
import Derived.Test.YthocdlaajncmpaaDiSlots
import Derived.Test.YthocdlaajncmpaaQ0
import Derived.Test.YthocdlaajncmpaaQ2
import Derived.Test.YthocdlaajncmpaaQ6
import Derived.Test.YthocdlaajncmpaaQ8
import Derived.Test.YthocdlaajncmpaaQ9
set_option linter.unusedSimpArgs false
set_option linter.unusedVariables false
namespace Go.Proofs.Ythocdlaajncmpaa.DI
open Go.RowKit Go.Proofs.Ythocdlaajncmpaa.Q Go.Proofs.YthocdlaajncmpaaW.PrintWords

/-- A loop that counts up, from its end back. -/
theorem down {β : Type} {n : Nat} {F : Nat → Int → Option β} {res : Nat → β} (stop : Ev (fun k => F k (n : Int)) (res n))
    (step : ∀ i : Nat, i < n → Ev (fun k => F k ((i + 1 : Nat) : Int)) (res (i + 1)) → Ev (fun k => F k (i : Int)) (res i)) : ∀ i, i ≤ n → Ev (fun k => F k (i : Int)) (res i) := by
  have key : ∀ d i, i ≤ n → n - i = d → Ev (fun k => F k (i : Int)) (res i) := by
    intro d
    induction d with
    | zero => intro i h h1; obtain rfl : i = n := by omega
              exact stop
    | succ d ih => intro i h h1; exact step i (by omega) (ih (i + 1) (by omega) (by omega))
  exact fun i h => key _ i h rfl
def conv (s : S47) : S38 := ⟨s.f0, s.f1, s.f2, s.f3⟩
theorem rd58 (l : List S47) (i : Nat) : rd_T47 l (i : Int) = l.getD i z47 := by unfold rd_T47; simp
theorem fill_step {α β : Type} (x : List β) (l : List α) (f : α → β) (d : α) (n : Nat) (hn : n < l.length) (hx : x.length = l.length) :
    (x.set n (f (l.getD n d))).take (n + 1) ++ (l.drop (n + 1)).map f = x.take n ++ (l.drop n).map f := by
  rw [drop_getD l d hn, List.map_cons, List.take_add_one, List.getElem?_set_self (by omega), List.take_set_of_le (Nat.le_refl _)]
  simp
theorem toEnt_l (l : List S47) (hl : l.length ≤ maxLen) : ∀ (d n : Nat) (x : List S38), l.length - n = d → n ≤ l.length → x.length = l.length → Ev (fun k => laws_toEntryS.l0 k l x (n : Int)) (x.take n ++ (l.drop n).map conv) := by
  intro d
  induction d with
  | zero =>
    intro n x hd hn hx
    obtain rfl : n = l.length := by omega
    refine Ev.step (fun k => laws_toEntryS.l0.eq_2 ..) ?_
    simp only [Int.lt_irrefl, if_false]
    rw [List.drop_length, ← hx, List.take_length, List.map_nil, List.append_nil]
    exact Ev.now _
  | succ d ih =>
    intro n x hd hn hx
    have hi : n < l.length := by omega
    refine Ev.step (fun k => laws_toEntryS.l0.eq_2 ..) ?_
    simp only [if_pos (show (n : Int) < (l.length : Int) by omega), if_pos (show (0 : Int) ≤ n by omega), if_pos (show (n : Int) < (x.length : Int) by omega), laws_toEntry.f, Option.bind, wnext hi hl, rd58, Int.toNat_natCast]
    have := ih (n + 1) (x.set n (conv (l.getD n z47))) (by omega) (by omega) (by rw [List.length_set, hx])
    rw [fill_step x l conv z47 n hi hx] at this
    exact this
theorem toInt_l (l : List Int) (hl : l.length ≤ maxLen) : ∀ (d n : Nat) (x : List Int), l.length - n = d → n ≤ l.length → x.length = l.length → Ev (fun k => laws_toIntS.l0 k l x (n : Int)) (x.take n ++ (l.drop n).map id) := by
  intro d
  induction d with
  | zero =>
    intro n x hd hn hx
    obtain rfl : n = l.length := by omega
    refine Ev.step (fun k => laws_toIntS.l0.eq_2 ..) ?_
    simp only [Int.lt_irrefl, if_false]
    rw [List.drop_length, ← hx, List.take_length, List.map_nil, List.append_nil]
    exact Ev.now _
  | succ d ih =>
    intro n x hd hn hx
    have hi : n < l.length := by omega
    refine Ev.step (fun k => laws_toIntS.l0.eq_2 ..) ?_
    simp only [if_pos (show (n : Int) < (l.length : Int) by omega), if_pos (show (0 : Int) ≤ n by omega), if_pos (show (n : Int) < (x.length : Int) by omega), wnext hi hl, rdN, Int.toNat_natCast]
    have := ih (n + 1) (x.set n (id (l.getD n 0))) (by omega) (by omega) (by rw [List.length_set, hx])
    rw [fill_step x l id 0 n hi hx] at this
    exact this
theorem toDict_ev (I : List Int) (E : List S47) (hI : I.length ≤ 1048576) (hE : E.length ≤ 1048576) : Ev (fun k => laws_toDict.f k I E) (I, E.map conv) := by
  unfold laws_toDict.f
  have h1 : Ev (fun k => laws_toIntS.f k I) I := by
    unfold laws_toIntS.f
    simp only [if_pos (show (0 : Int) ≤ (I.length : Int) by omega), Int.toNat_natCast, if_pos (show I.length ≤ 35184372088832 by omega)]
    have := toInt_l I (by unfold maxLen; omega) _ 0 (List.replicate I.length 0) rfl (Nat.zero_le _) (by simp)
    simpa using this
  have h2 : Ev (fun k => laws_toEntryS.f k E) (E.map conv) := by
    unfold laws_toEntryS.f
    simp only [if_pos (show (0 : Int) ≤ (E.length : Int) by omega), Int.toNat_natCast, if_pos (show E.length ≤ 7036874417766 by omega)]
    have := toEnt_l E (by unfold maxLen; omega) _ 0 (List.replicate E.length z38) rfl (Nat.zero_le _) (by simp)
    simpa using this
  exact Ev.bind h1 (Ev.bind h2 (Ev.now _))
theorem szEnt_l (l : List S47) (hl : l.length ≤ maxLen) (hs : ∀ s ∈ l, s.f0.size ≤ maxLen) : ∀ (d n : Nat) (v : Int), l.length - n = d → n ≤ l.length → 0 ≤ v → v ≤ 1048576 → ∃ r, Ev (fun k => laws_szEntryS.l0 k l v (n : Int)) r ∧ (r < 0 ∨ (0 ≤ r ∧ r ≤ v)) := by
  intro d
  induction d with
  | zero =>
    intro n v hd hn h0 h1
    obtain rfl : n = l.length := by omega
    refine ⟨v, Ev.step (fun k => laws_szEntryS.l0.eq_2 ..) ?_, .inr ⟨h0, Int.le_refl _⟩⟩
    simp only [Int.lt_irrefl, if_false]
    exact Ev.now _
  | succ d ih =>
    intro n v hd hn h0 h1
    have hi : n < l.length := by omega
    have hz := hs _ (getD_mem' l z47 hi)
    have e : wrap64 (v - ((l.getD n z47).f0.size : Int)) = v - ((l.getD n z47).f0.size : Int) := by unfold wrap64; unfold maxLen at hz; omega
    by_cases hneg : v - ((l.getD n z47).f0.size : Int) < 0
    · refine ⟨-1, Ev.step (fun k => laws_szEntryS.l0.eq_2 ..) ?_, .inl (by omega)⟩
      simp only [if_pos (show (n : Int) < (l.length : Int) by omega), if_pos (show (0 : Int) ≤ n by omega), rd58, laws_szEntry.f, e, if_pos hneg, Option.bind, if_pos (show (-1 : Int) < 0 by omega)]
      exact Ev.now _
    · obtain ⟨r2, h2, h3⟩ := ih (n + 1) (v - ((l.getD n z47).f0.size : Int)) (by omega) (by omega) (by omega) (by omega)
      refine ⟨r2, Ev.step (fun k => laws_szEntryS.l0.eq_2 ..) ?_, by omega⟩
      simp only [if_pos (show (n : Int) < (l.length : Int) by omega), if_pos (show (0 : Int) ≤ n by omega), rd58, wnext hi hl, laws_szEntry.f, e, if_neg hneg, Option.bind]
      exact h2
theorem szDict_ev (I : List Int) (E : List S47) (hI : I.length ≤ maxLen) (hE : E.length ≤ maxLen) (hs : ∀ s ∈ E, s.f0.size ≤ maxLen) : ∃ r, Ev (fun k => laws_szDict.f k I E 1048576) r ∧ (r < 0 ∨ (0 ≤ r ∧ I.length ≤ 1048576 ∧ E.length ≤ 1048576)) := by
  unfold laws_szDict.f laws_szIntS.f
  have e : wrap64 (1048576 - (I.length : Int)) = 1048576 - (I.length : Int) := by unfold wrap64; unfold maxLen at hI; omega
  rw [e]
  by_cases h : 1048576 - (I.length : Int) < 0
  · simp only [if_pos h, Option.bind, if_pos (show (-1 : Int) < 0 by omega)]
    exact ⟨_, Ev.now _, .inl (by omega)⟩
  simp only [if_neg h, Option.bind]
  have e2 : wrap64 (1048576 - (I.length : Int) - (E.length : Int)) = 1048576 - (I.length : Int) - (E.length : Int) := by unfold wrap64; unfold maxLen at hE; omega
  by_cases h2 : 1048576 - (I.length : Int) - (E.length : Int) < 0
  · refine ⟨-1, ?_, .inl (by omega)⟩
    have : Ev (fun k => laws_szEntryS.f k E (1048576 - (I.length : Int))) (-1) := by
      unfold laws_szEntryS.f
      simp only [e2, if_pos h2]
      exact Ev.now _
    refine Ev.bind (f := fun k t => if t < 0 then some (-1) else some t) this ?_
    simp only [if_pos (show (-1 : Int) < 0 by omega)]
    exact Ev.now _
  · obtain ⟨r, h3, h4⟩ := szEnt_l E hE hs _ 0 (1048576 - (I.length : Int) - (E.length : Int)) rfl (Nat.zero_le _) (by omega) (by omega)
    have : Ev (fun k => laws_szEntryS.f k E (1048576 - (I.length : Int))) r := by
      unfold laws_szEntryS.f
      simp only [e2, if_neg h2]
      exact h3
    by_cases hr : r < 0
    · refine ⟨-1, Ev.bind (f := fun k t => if t < 0 then some (-1) else some t) this ?_, .inl (by omega)⟩
      simp only [if_pos hr]
      exact Ev.now _
    · refine ⟨r, Ev.bind (f := fun k t => if t < 0 then some (-1) else some t) this ?_, .inr (by omega)⟩
      simp only [if_neg hr]
      exact Ev.now _
theorem eqInt_ev (l : List Int) (hl : l.length ≤ maxLen) : Ev (fun k => laws_eqIntS.f k l l) true := by
  unfold laws_eqIntS.f
  simp only [if_true]
  refine down (F := fun k i => laws_eqIntS.l0 k l l i) (n := l.length) (res := fun _ => true) ?_ ?_ 0 (Nat.zero_le _)
  · refine Ev.step (fun k => laws_eqIntS.l0.eq_2 ..) ?_
    simp only [Int.lt_irrefl, if_false]
    exact Ev.now _
  · intro i hi ih
    refine Ev.step (fun k => laws_eqIntS.l0.eq_2 ..) ?_
    simp only [if_pos (show (i : Int) < (l.length : Int) by omega), if_pos (show (0 : Int) ≤ i by omega), if_true, wnext hi hl]
    exact ih
theorem eqDict_ev (I : List Int) (E : List S38) (hI : I.length ≤ maxLen) (hE : E.length ≤ maxLen) : Ev (fun k => laws_eqDict.f k I E I E) true := by
  have h2 : Ev (fun k => laws_eqEntryS.f k E E) true := by
    unfold laws_eqEntryS.f
    simp only [if_true]
    refine down (F := fun k i => laws_eqEntryS.l0 k E E i) (n := E.length) (res := fun _ => true) ?_ ?_ 0 (Nat.zero_le _)
    · refine Ev.step (fun k => laws_eqEntryS.l0.eq_2 ..) ?_
      simp only [Int.lt_irrefl, if_false]
      exact Ev.now _
    · intro i hi ih
      refine Ev.step (fun k => laws_eqEntryS.l0.eq_2 ..) ?_
      simp only [if_pos (show (i : Int) < (E.length : Int) by omega), if_pos (show (0 : Int) ≤ i by omega), if_true, wnext hi hE, laws_eqEntry.f, bne_self_eq_false, Bool.false_eq_true, if_false]
      exact ih
  unfold laws_eqDict.f
  refine Ev.bind (eqInt_ev I hI) ?_
  simp only [if_true]
  refine Ev.bind h2 ?_
  simp only [if_true]
  exact Ev.now _
end Go.Proofs.Ythocdlaajncmpaa.DI
