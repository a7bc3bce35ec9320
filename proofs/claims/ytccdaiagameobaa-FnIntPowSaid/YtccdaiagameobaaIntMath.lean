/- Plain facts on decimal digits, lowest first: values, comparison, carrying; no program in sight. -/
namespace Go.Proofs.IM

def val : List Int → Int
  | [] => 0
  | d :: ds => d + 10 * val ds

def Dig (l : List Int) : Prop := ∀ d ∈ l, 0 ≤ d ∧ d ≤ 9

def trim : List Int → List Int
  | [] => []
  | d :: ds => if trim ds = [] ∧ d = 0 then [] else d :: trim ds

def dig (n : Nat) : List Int := if h : n = 0 then [] else ((n % 10 : Nat) : Int) :: dig (n / 10)
termination_by n
decreasing_by omega

theorem getD_lt {α : Type} {l : List α} {n : Nat} {d : α} (h : n < l.length) : l.getD n d = l[n] := by simp [List.getD_eq_getElem?_getD, h]
theorem getD_ge {α : Type} {l : List α} {n : Nat} {d : α} (h : l.length ≤ n) : l.getD n d = d := by simp [List.getD_eq_getElem?_getD, List.getElem?_eq_none h]
theorem dig_zero : dig 0 = [] := by rw [dig]; simp
theorem dig_pos {n : Nat} (h : n ≠ 0) : dig n = ((n % 10 : Nat) : Int) :: dig (n / 10) := by rw [dig]; simp [h]
theorem dig_nil {n : Nat} : dig n = [] ↔ n = 0 := by
  constructor
  · intro h
    by_cases e : n = 0
    · exact e
    · rw [dig_pos e] at h; cases h
  · rintro rfl; exact dig_zero

theorem Dig.nil : Dig [] := by intro d h; cases h
theorem Dig.cons {d : Int} {l : List Int} (h0 : 0 ≤ d) (h9 : d ≤ 9) (h : Dig l) : Dig (d :: l) := by
  intro x hx
  rcases List.mem_cons.1 hx with rfl | hx
  · exact ⟨h0, h9⟩
  · exact h x hx
theorem Dig.tail {d : Int} {l : List Int} (h : Dig (d :: l)) : Dig l := fun x hx => h x (List.mem_cons_of_mem _ hx)
theorem Dig.head {d : Int} {l : List Int} (h : Dig (d :: l)) : 0 ≤ d ∧ d ≤ 9 := h d (List.mem_cons_self)
theorem Dig.append {a b : List Int} (ha : Dig a) (hb : Dig b) : Dig (a ++ b) := by
  intro x hx
  rcases List.mem_append.1 hx with h | h
  · exact ha x h
  · exact hb x h
theorem Dig.left {a b : List Int} (h : Dig (a ++ b)) : Dig a := fun x hx => h x (List.mem_append_left _ hx)
theorem Dig.right {a b : List Int} (h : Dig (a ++ b)) : Dig b := fun x hx => h x (List.mem_append_right _ hx)
theorem Dig.take {a : List Int} (h : Dig a) (n : Nat) : Dig (a.take n) := fun x hx => h x (List.mem_of_mem_take hx)
theorem Dig.drop {a : List Int} (h : Dig a) (n : Nat) : Dig (a.drop n) := fun x hx => h x (List.mem_of_mem_drop hx)
theorem Dig.getD {l : List Int} (h : Dig l) (i : Nat) : 0 ≤ l.getD i 0 ∧ l.getD i 0 ≤ 9 := by
  by_cases hi : i < l.length
  · rw [getD_lt hi]; exact h _ (List.getElem_mem hi)
  · rw [getD_ge (by omega)]; omega

theorem Dig.set {l : List Int} {i : Nat} {x : Int} (h : Dig l) (h0 : 0 ≤ x) (h1 : x ≤ 9) : Dig (l.set i x) := by
  intro y hy
  rcases List.mem_or_eq_of_mem_set hy with h' | h'
  · exact h y h'
  · subst h'; exact ⟨h0, h1⟩
theorem val_nonneg {l : List Int} (h : ∀ d ∈ l, 0 ≤ d) : 0 ≤ val l := by
  induction l with
  | nil => simp [val]
  | cons d ds ih =>
    have h1 := h d (List.mem_cons_self)
    have h2 := ih (fun x hx => h x (List.mem_cons_of_mem _ hx))
    simp only [val]; omega
theorem Dig.nonneg {l : List Int} (h : Dig l) : 0 ≤ val l := val_nonneg (fun d hd => (h d hd).1)
theorem Dig.lt {l : List Int} (h : Dig l) : val l < (10 : Int) ^ l.length := by
  induction l with
  | nil => simp [val]
  | cons d ds ih =>
    have h1 := h.head
    have h2 := ih h.tail
    simp only [val, List.length_cons, Int.pow_succ]; omega
theorem val_append (a b : List Int) : val (a ++ b) = val a + (10 : Int) ^ a.length * val b := by
  induction a with
  | nil => simp [val]
  | cons d ds ih =>
    simp only [List.cons_append, val, ih, List.length_cons, Int.pow_succ]
    rw [Int.mul_add, ← Int.mul_assoc, Int.mul_comm 10 ((10 : Int) ^ ds.length)]; omega
theorem val_replicate (n : Nat) : val (List.replicate n 0) = 0 := by
  induction n with
  | zero => rfl
  | succ n ih => simp only [List.replicate_succ, val, ih]; rfl
theorem Dig.replicate (n : Nat) : Dig (List.replicate n 0) := by
  intro x hx
  have := List.eq_of_mem_replicate hx
  omega
theorem val_set {l : List Int} {i : Nat} (h : i < l.length) (d : Int) : val (l.set i d) = val l + (10 : Int) ^ i * (d - l.getD i 0) := by
  induction l generalizing i with
  | nil => simp at h
  | cons x xs ih =>
    cases i with
    | zero => simp only [List.set_cons_zero, val, List.getD_cons_zero, Int.pow_zero]; omega
    | succ i =>
      have := ih (i := i) (by simpa using h)
      simp only [List.set_cons_succ, val, List.getD_cons_succ, Int.pow_succ, this]
      rw [Int.mul_add, ← Int.mul_assoc, Int.mul_comm 10 ((10 : Int) ^ i)]; omega

theorem val_trim (l : List Int) : val (trim l) = val l := by
  induction l with
  | nil => rfl
  | cons d ds ih =>
    simp only [trim]
    split
    · rename_i h
      obtain ⟨h1, h2⟩ := h
      rw [h1] at ih
      simp only [val] at ih ⊢; omega
    · simp only [val, ih]
theorem trim_eq {l : List Int} (h : Dig l) : trim l = dig (val l).toNat := by
  induction l with
  | nil => simp [trim, val, dig_zero]
  | cons d ds ih =>
    have h1 := h.head
    have h2 := h.tail.nonneg
    have ih := ih h.tail
    simp only [trim, val]
    by_cases e : d + 10 * val ds = 0
    · have e1 : d = 0 := by omega
      have e2 : val ds = 0 := by omega
      rw [e] at *
      rw [e2] at ih
      rw [if_pos ⟨by rw [ih]; exact dig_zero, e1⟩]; exact dig_zero.symm
    · have hn : (d + 10 * val ds).toNat ≠ 0 := by omega
      rw [dig_pos hn]
      have e3 : (d + 10 * val ds).toNat / 10 = (val ds).toNat := by omega
      have e4 : (((d + 10 * val ds).toNat % 10 : Nat) : Int) = d := by omega
      rw [e3, e4, ← ih, if_neg]
      rintro ⟨q1, q2⟩
      rw [ih] at q1
      have := dig_nil.1 q1
      omega
theorem trim_append_zero (l : List Int) : trim (l ++ [0]) = trim l := by
  induction l with
  | nil => simp [trim]
  | cons d ds ih => simp only [List.cons_append, trim, ih]
theorem trim_append_ne (l : List Int) {d : Int} (h : d ≠ 0) : trim (l ++ [d]) = l ++ [d] := by
  induction l with
  | nil => simp [trim, h]
  | cons x xs ih => simp only [List.cons_append, trim, ih]; rw [if_neg]; simp
theorem dig_Dig (n : Nat) : Dig (dig n) := by
  induction n using Nat.strongRecOn with
  | _ n ih =>
    by_cases h : n = 0
    · subst h; rw [dig_zero]; exact Dig.nil
    · rw [dig_pos h]; exact Dig.cons (by omega) (by omega) (ih _ (by omega))
theorem val_dig (n : Nat) : val (dig n) = n := by
  induction n using Nat.strongRecOn with
  | _ n ih =>
    by_cases h : n = 0
    · subst h; rw [dig_zero]; rfl
    · rw [dig_pos h]; simp only [val]; rw [ih _ (by omega)]; omega
theorem trim_dig (n : Nat) : trim (dig n) = dig n := by
  rw [trim_eq (dig_Dig n), val_dig]; simp
theorem dig_length_le {n k : Nat} : (dig n).length ≤ k ↔ n < 10 ^ k := by
  induction k generalizing n with
  | zero =>
    rw [Nat.pow_zero, Nat.le_zero, List.length_eq_zero_iff, dig_nil]; omega
  | succ k ih =>
    by_cases h : n = 0
    · subst h
      rw [dig_zero]
      simp [Nat.pow_pos]
    · rw [dig_pos h, List.length_cons, Nat.add_le_add_iff_right, ih, Nat.pow_succ]; omega
theorem dig_length_lt {a b : Nat} (h : (dig a).length < (dig b).length) : a < b := by
  have h1 : a < 10 ^ (dig a).length := dig_length_le.1 (Nat.le_refl _)
  have h2 : ¬ b < 10 ^ (dig a).length := fun h3 => by have := dig_length_le.2 h3; omega
  omega
theorem dig_lt_pow (a : Nat) : a < 10 ^ (dig a).length := dig_length_le.1 (Nat.le_refl _)
theorem dig_last {n : Nat} (h : n ≠ 0) : (dig n).getD ((dig n).length - 1) 0 ≠ 0 := by
  induction n using Nat.strongRecOn with
  | _ n ih =>
    rw [dig_pos h]
    by_cases e : n / 10 = 0
    · rw [e, dig_zero]
      simp; omega
    · have := ih _ (by omega) e
      have hl : 0 < (dig (n / 10)).length := by
        rcases Nat.eq_zero_or_pos (dig (n / 10)).length with h0 | h0
        · exact absurd (dig_nil.1 (List.length_eq_zero_iff.1 h0)) e
        · exact h0
      rw [List.length_cons, show (dig (n / 10)).length + 1 - 1 = ((dig (n / 10)).length - 1) + 1 by omega, List.getD_cons_succ]; exact this

/-- -1, 0 or 1. -/
def cmp (a b : Int) : Int := if a < b then -1 else if a = b then 0 else 1

theorem cmp_step {p x y d e : Int} (hx0 : 0 ≤ x) (hx : x < p) (hy0 : 0 ≤ y) (hy : y < p) (hde : d ≠ e) : cmp (x + p * d) (y + p * e) = if d < e then -1 else 1 := by
  unfold cmp
  by_cases h : d < e
  · rw [if_pos h]
    have h1 : p * d ≤ p * (e - 1) := Int.mul_le_mul_of_nonneg_left (by omega) (by omega)
    rw [Int.mul_sub, Int.mul_one] at h1
    rw [if_pos (by omega)]
  · rw [if_neg h]
    have h1 : p * e ≤ p * (d - 1) := Int.mul_le_mul_of_nonneg_left (by omega) (by omega)
    rw [Int.mul_sub, Int.mul_one] at h1
    rw [if_neg (by omega), if_neg (by omega)]
theorem cmp_same (x y c : Int) : cmp (x + c) (y + c) = cmp x y := by
  unfold cmp
  by_cases h : x < y
  · rw [if_pos h, if_pos (by omega)]
  · rw [if_neg h, if_neg (by omega)]
    by_cases e : x = y
    · rw [if_pos e, if_pos (by omega)]
    · rw [if_neg e, if_neg (by omega)]
theorem take_succ_getD {l : List Int} {n : Nat} (h : n < l.length) : l.take (n + 1) = l.take n ++ [l.getD n 0] := by
  rw [List.take_succ_eq_append_getElem h, getD_lt h]
theorem drop_getD {l : List Int} {n : Nat} (h : n < l.length) : l.drop n = l.getD n 0 :: l.drop (n + 1) := by
  rw [List.drop_eq_getElem_cons h, getD_lt h]
theorem getD_append_len (a b : List Int) (x : Int) : (a ++ x :: b).getD a.length 0 = x := by
  rw [List.getD_eq_getElem?_getD, List.getElem?_append_right (Nat.le_refl _)]; simp
theorem getD_append_len1 (a b : List Int) (x y : Int) : (a ++ x :: y :: b).getD (a.length + 1) 0 = y := by
  rw [List.getD_eq_getElem?_getD, List.getElem?_append_right (by omega)]; simp
theorem set_append_len (a b : List Int) (x y : Int) : (a ++ x :: b).set a.length y = a ++ y :: b := by
  rw [List.set_append_right _ _ (Nat.le_refl _)]; simp
theorem set_append_len1 (a b : List Int) (x z y : Int) : (a ++ x :: z :: b).set (a.length + 1) y = a ++ x :: y :: b := by
  rw [List.set_append_right _ _ (by omega)]; simp
end Go.Proofs.IM
