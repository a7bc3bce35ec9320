/- What the program's products of magnitudes come to, and the reference's. -/
import Derived.Test.YtccdaiagameobaaIntEv2a
import Derived.Test.YtccdaiagameobaaQ12
import Derived.Test.YtccdaiagameobaaQ17
set_option linter.unusedSimpArgs false
set_option linter.unusedVariables false
namespace Go.Proofs.Ytccdaiagameobaa.IE
open Go.RowKit Go.Proofs.Ytccdaiagameobaa.Q Go.Proofs.YtccdaiagameobaaW.PrintWords Go.Proofs.IM

theorem p10_pos (n : Nat) : (0 : Int) < (10 : Int) ^ n := by
  induction n with
  | zero => decide
  | succ n ih => rw [Int.pow_succ]; omega
theorem p10_mono {m n : Nat} (h : m ≤ n) : (10 : Int) ^ m ≤ (10 : Int) ^ n := by
  obtain ⟨d, rfl⟩ : ∃ d, n = m + d := ⟨n - m, by omega⟩
  induction d with
  | zero => exact Int.le_refl _
  | succ d ih =>
    have h1 := ih (by omega)
    have h2 := p10_pos (m + d)
    rw [← Nat.add_assoc, Int.pow_succ]; omega
theorem getD_set {l : List Int} {i j : Nat} {x : Int} (h : i < l.length) : (l.set i x).getD j 0 = if i = j then x else l.getD j 0 := by
  rw [List.getD_eq_getElem?_getD, List.getD_eq_getElem?_getD, List.getElem?_set]
  by_cases e : i = j
  · rw [if_pos e, if_pos e, if_pos h]; rfl
  · rw [if_neg e, if_neg e]
def Bd (N : Nat) (l : List Int) : Prop := ∀ j, 0 ≤ l.getD j 0 ∧ l.getD j 0 ≤ 81 * (N : Int)
theorem Bd.mono {M N : Nat} {l : List Int} (h : Bd M l) (hm : M ≤ N) : Bd N l := fun j => ⟨(h j).1, by have := (h j).2; omega⟩
theorem Bd.set {N : Nat} {l : List Int} {i : Nat} {x : Int} (h : Bd N l) (hi : i < l.length) (h0 : 0 ≤ x) (h1 : x ≤ 81 * (N : Int)) : Bd N (l.set i x) := by
  intro j
  rw [getD_set hi]
  by_cases e : i = j
  · rw [if_pos e]; exact ⟨h0, h1⟩
  · rw [if_neg e]; exact h j
theorem mul_lt_pow {x y : Int} {m n : Nat} (hx0 : 0 ≤ x) (hx : x < (10 : Int) ^ m) (hy0 : 0 ≤ y) (hy : y < (10 : Int) ^ n) : x * y < (10 : Int) ^ (m + n) := by
  rw [Int.pow_add]
  exact Int.lt_of_le_of_lt (Int.mul_le_mul_of_nonneg_right (Int.le_of_lt hx) hy0) (Int.mul_lt_mul_of_pos_left hy (p10_pos m))

theorem spec_times_l2 (hL : (10 : Int) ^ 12 = 1000000000000) : ∀ (S P : List Int) (c i : Int), i = P.length → P.length + S.length ≤ 100000 → 0 ≤ c → c ≤ 1000000000000 → (∀ s ∈ S, 0 ≤ s ∧ s ≤ 1000000000000) → val S + c < (10 : Int) ^ S.length →
    ∃ R, Dig R ∧ val R = val S + c ∧ Ev (fun k => spec_timesDigits.l2 k (P ++ S) c i) (trim (P ++ R)) := by
  intro S
  induction S with
  | nil =>
    intro P c i hi hl h0 h1 hS hv
    simp only [val, List.length_nil, Int.pow_zero] at hv
    refine ⟨[], Dig.nil, by simp only [val]; omega, ?_⟩
    refine Ev.step (fun k => spec_timesDigits.l2.eq_2 ..) ?_
    have e1 : ¬ i < ((P ++ []).length : Int) := by simp; omega
    simp only [if_neg e1]
    exact Ev.bind (spec_trimmed_ev _ (by simp at hl ⊢; omega)) (Ev.now _)
  | cons s T ih =>
    intro P c i hi hl h0 h1 hS hv
    have hs := hS s List.mem_cons_self
    simp only [val, List.length_cons, Int.pow_succ] at hv
    simp only [List.length_cons] at hl
    obtain ⟨R, hR, hv', he⟩ := ih (P ++ [(s + c) % 10]) ((s + c) / 10) (i + 1) (by simp; omega) (by simp; omega) (by omega) (by omega) (fun x hx => hS x (List.mem_cons_of_mem _ hx)) (by omega)
    refine ⟨(s + c) % 10 :: R, Dig.cons (by omega) (by omega) hR, by simp only [val]; omega, ?_⟩
    refine Ev.step (fun k => spec_timesDigits.l2.eq_2 ..) ?_
    have e1 : i < ((P ++ s :: T).length : Int) := by simp; omega
    have e2 : 0 ≤ i := by omega
    rw [rd_nat _ P.length i hi, getD_append_len, w64 (x := s + c) (by omega) (by omega), tmod10 (by omega), tdiv10 (by omega), w64 (x := (s + c) / 10) (by omega) (by omega), w64 (x := i + 1) (by omega) (by omega), show i.toNat = P.length by omega, set_append_len]
    simp only [if_pos e1, if_pos e2]
    rw [List.append_assoc] at he
    rw [List.append_assoc] at he
    exact he

theorem spec_times_l1 (a b : List Int) (ha : Dig a) (hb : Dig b) (hla : a.length ≤ 1000) (hlb : b.length ≤ 1000) (n : Nat) (hn : n < a.length) (i : Int) (hi : i = n) (r : List Int) :
    ∀ (d j N : Nat) (y : Int) (out : List Int), y = j → j ≤ b.length → b.length - j ≤ d → out.length = a.length + b.length + 1 → Bd N out → N + (b.length - j) ≤ 1000000 →
      (∀ out', out'.length = a.length + b.length + 1 → Bd (N + (b.length - j)) out' → val out' = val out + a.getD n 0 * ((10 : Int) ^ (n + j) * val (b.drop j)) → Ev (fun k => spec_timesDigits.l0 k a b out' (i + 1)) r) →
      Ev (fun k => spec_timesDigits.l1 k a b out i y) r := by
  intro d
  induction d with
  | zero =>
    intro j N y out hy hj hd hl hB hN post
    refine Ev.step (fun k => spec_timesDigits.l1.eq_2 ..) ?_
    have e1 : ¬ y < (b.length : Int) := by omega
    simp only [if_neg e1]
    rw [w64 (x := i + 1) (by omega) (by omega)]
    exact post out hl (hB.mono (by omega)) (by rw [val_drop_ge (by omega)]; simp)
  | succ d ih =>
    intro j N y out hy hj hd hl hB hN post
    by_cases ej : j < b.length
    · have hga := ha.getD n
      have hgb := hb.getD j
      have hp : 0 ≤ a.getD n 0 * b.getD j 0 ∧ a.getD n 0 * b.getD j 0 ≤ 81 := by
        refine ⟨Int.mul_nonneg hga.1 hgb.1, ?_⟩
        have h1 := Int.mul_le_mul_of_nonneg_right hga.2 hgb.1
        omega
      have ho := hB (n + j)
      have hin : n + j < out.length := by omega
      refine Ev.step (fun k => spec_timesDigits.l1.eq_2 ..) ?_
      have e1 : y < (b.length : Int) := by omega
      have e2 : 0 ≤ i + y := by omega
      have e3 : i + y < (out.length : Int) := by omega
      have e4 : 0 ≤ i := by omega
      have e5 : i < (a.length : Int) := by omega
      have e6 : 0 ≤ y := by omega
      rw [w64 (x := i + y) (by omega) (by omega), rd_nat out (n + j) (i + y) (by omega), rd_nat a n i hi, rd_nat b j y hy, w64 (x := a.getD n 0 * b.getD j 0) (by omega) (by omega), w64 (x := out.getD (n + j) 0 + a.getD n 0 * b.getD j 0) (by omega) (by omega), w64 (x := y + 1) (by omega) (by omega), show (i + y).toNat = n + j by omega]
      simp only [if_pos e1, if_pos e2, if_pos e3, if_pos e4, if_pos e5, if_pos e6]
      refine ih (j + 1) (N + 1) (y + 1) _ (by omega) (by omega) (by omega) (by simpa using hl) ((hB.mono (by omega)).set hin (by omega) (by omega)) (by omega) ?_
      intro out' hl' hB' hv'
      refine post out' hl' (hB'.mono (by omega)) ?_
      rw [hv', val_set hin, val_drop_lt ej, ← Nat.add_assoc, Int.pow_succ]
      have k1 : out.getD (n + j) 0 + a.getD n 0 * b.getD j 0 - out.getD (n + j) 0 = a.getD n 0 * b.getD j 0 := by omega
      rw [k1]
      simp only [Int.mul_add, Int.add_assoc]
      congr 1
      simp only [Int.mul_comm, Int.mul_left_comm, Int.mul_assoc]
    · refine Ev.step (fun k => spec_timesDigits.l1.eq_2 ..) ?_
      have e1 : ¬ y < (b.length : Int) := by omega
      simp only [if_neg e1]
      rw [w64 (x := i + 1) (by omega) (by omega)]
      exact post out hl (hB.mono (by omega)) (by rw [val_drop_ge (by omega)]; simp)

theorem val_take_succ {a : List Int} {n : Nat} (h : n < a.length) : val (a.take (n + 1)) = val (a.take n) + (10 : Int) ^ n * a.getD n 0 := by
  rw [take_succ_getD h, val_append]; simp only [val, List.length_take, Nat.min_eq_left (Nat.le_of_lt h)]; simp

theorem spec_times_l0 (a b : List Int) (ha : Dig a) (hb : Dig b) (hla : a.length ≤ 1000) (hlb : b.length ≤ 1000) :
    ∀ (d n : Nat) (i : Int) (out : List Int), i = n → n ≤ a.length → a.length - n ≤ d → out.length = a.length + b.length + 1 → Bd (n * b.length) out → val out = val (a.take n) * val b →
      Ev (fun k => spec_timesDigits.l0 k a b out i) (dig (val a * val b).toNat) := by
  have fin : ∀ (i : Int) (out : List Int), i = a.length → out.length = a.length + b.length + 1 → Bd (a.length * b.length) out → val out = val a * val b → Ev (fun k => spec_timesDigits.l0 k a b out i) (dig (val a * val b).toNat) := by
    intro i out hi hl hB hv
    have hab : a.length * b.length ≤ 1000 * 1000 := Nat.mul_le_mul hla hlb
    refine Ev.step (fun k => spec_timesDigits.l0.eq_2 ..) ?_
    have e1 : ¬ i < (a.length : Int) := by omega
    simp only [if_neg e1]
    obtain ⟨R, hR, hv', he⟩ := spec_times_l2 (by decide) out [] 0 0 rfl (by simp; omega) (by omega) (by omega) (fun s hs => by
      obtain ⟨j, hj, rfl⟩ := List.getElem_of_mem hs
      have := hB j
      rw [getD_lt hj] at this
      omega) (by
      rw [hl, hv, Int.add_zero]
      refine Int.lt_of_lt_of_le (mul_lt_pow ha.nonneg ha.lt hb.nonneg hb.lt) (p10_mono (by omega)))
    rw [List.nil_append, List.nil_append, trim_eq hR, hv', hv, Int.add_zero] at he
    exact he
  intro d
  induction d with
  | zero =>
    intro n i out hi hn hd hl hB hv
    have hn' : n = a.length := by omega
    subst hn'
    rw [List.take_length] at hv
    exact fin i out hi hl hB hv
  | succ d ih =>
    intro n i out hi hn hd hl hB hv
    by_cases en : n < a.length
    · have hnb : (n + 1) * b.length = n * b.length + b.length := Nat.succ_mul _ _
      have hnb2 : (n + 1) * b.length ≤ 1000 * 1000 := Nat.mul_le_mul (by omega) hlb
      refine Ev.step (fun k => spec_timesDigits.l0.eq_2 ..) ?_
      have e1 : i < (a.length : Int) := by omega
      simp only [if_pos e1]
      refine spec_times_l1 a b ha hb hla hlb n en i hi _ b.length 0 (n * b.length) 0 out rfl (by omega) (by omega) hl hB (by omega) ?_
      intro out' hl' hB' hv'
      refine ih (n + 1) (i + 1) out' (by omega) (by omega) (by omega) hl' (hB'.mono (by omega)) ?_
      rw [hv', hv, val_take_succ en, List.drop_zero, Nat.add_zero, Int.add_mul]
      congr 1
      simp only [Int.mul_comm, Int.mul_left_comm, Int.mul_assoc]
    · have hn' : n = a.length := by omega
      subst hn'
      rw [List.take_length] at hv
      exact fin i out hi hl hB hv
theorem Bd.zeros (n : Nat) : Bd 0 (List.replicate n 0) := by
  intro j
  rw [List.getD_eq_getElem?_getD, List.getElem?_replicate]
  by_cases h : j < n
  · rw [if_pos h]; simp
  · rw [if_neg h]; simp
theorem spec_times_ev (a b : Nat) (hla : (dig a).length ≤ 1000) (hlb : (dig b).length ≤ 1000) : Ev (fun k => spec_timesDigits.f k (dig a) (dig b)) (dig (a * b)) := by
  have h := spec_times_l0 (dig a) (dig b) (dig_Dig a) (dig_Dig b) hla hlb (dig a).length 0 0 (List.replicate ((dig a).length + (dig b).length + 1) 0) rfl (by omega) (by omega) (by simp) (by simpa using Bd.zeros _) (by rw [val_replicate]; simp [val])
  rw [val_dig, val_dig, show ((a : Int) * b).toNat = a * b by rw [← Int.natCast_mul, Int.toNat_natCast]] at h
  refine Ev.congr (fun k => ?_) h
  simp only [spec_timesDigits.f]
  rw [w64 (x := ((dig a).length : Int) + (dig b).length) (by omega) (by omega), w64 (x := ((dig a).length : Int) + (dig b).length + 1) (by omega) (by omega), if_pos (by omega), if_pos (by omega)]
  rw [show (((dig a).length : Int) + (dig b).length + 1).toNat = (dig a).length + (dig b).length + 1 by omega]

theorem impl_mul_l1 (a b : List Int) (ha : Dig a) (hb : Dig b) (hla : a.length ≤ 1000) (hlb : b.length ≤ 1000) (n : Nat) (hn : n < a.length) (i m : Int) (hi : i = n) (T : Int) (hT : T < (10 : Int) ^ (n + b.length + 1)) (r : List Int)
    (post : ∀ out', out'.length = a.length + b.length + 1 → Dig out' → val out' = T → Ev (fun k => impl_magMul.l0 k b out' a m (i + 1)) r) :
    ∀ (d j : Nat) (y c : Int) (out : List Int), y = j → j ≤ b.length + 1 → b.length + 1 - j ≤ d → out.length = a.length + b.length + 1 → Dig out → 0 ≤ c → c ≤ 9 →
      val out + (10 : Int) ^ (n + j) * c + a.getD n 0 * ((10 : Int) ^ (n + j) * val (b.drop j)) = T →
      Ev (fun k => impl_magMul.l1 k b out i (a.getD n 0) c y a m i) r := by
  have stop : ∀ (j : Nat) (y : Int) (out : List Int), y = j → b.length ≤ j → out.length = a.length + b.length + 1 → Dig out → val out = T → Ev (fun k => impl_magMul.l1 k b out i (a.getD n 0) 0 y a m i) r := by
    intro j y out hy hj hl hD hv
    refine Ev.step (fun k => impl_magMul.l1.eq_2 ..) ?_
    have e1 : ¬ y < (b.length : Int) := by omega
    simp only [if_neg e1]
    refine Ev.step (fun k => impl_magMul.j2.eq_2 ..) ?_
    have e3 : ¬ decide ((0 : Int) > 0) = true := by decide
    simp only [if_neg e3]
    rw [w64 (x := i + 1) (by omega) (by omega)]
    exact post out hl hD hv
  intro d
  induction d with
  | zero =>
    intro j y c out hy hj hd hl hD h0 h9 hv
    have hj' : j = b.length + 1 := by omega
    subst hj'
    rw [val_drop_ge (by omega), Int.mul_zero, Int.mul_zero, Int.add_zero] at hv
    have hc : c = 0 := by
      have h1 := hD.nonneg
      have h2 := p10_pos (n + (b.length + 1))
      rw [← Nat.add_assoc] at hv h2
      by_cases e : c = 0
      · exact e
      · have h3 : (10 : Int) ^ (n + b.length + 1) * 1 ≤ (10 : Int) ^ (n + b.length + 1) * c := Int.mul_le_mul_of_nonneg_left (by omega) (by omega)
        omega
    subst hc
    exact stop _ y out hy (by omega) hl hD (by rw [Int.mul_zero, Int.add_zero] at hv; exact hv)
  | succ d ih =>
    intro j y c out hy hj hd hl hD h0 h9 hv
    have hga := ha.getD n
    have ho := hD.getD (n + j)
    by_cases ej : j < b.length
    · have hgb := hb.getD j
      have hp : 0 ≤ a.getD n 0 * b.getD j 0 ∧ a.getD n 0 * b.getD j 0 ≤ 81 := by
        refine ⟨Int.mul_nonneg hga.1 hgb.1, ?_⟩
        have h1 := Int.mul_le_mul_of_nonneg_right hga.2 hgb.1
        omega
      have hin : n + j < out.length := by omega
      refine Ev.step (fun k => impl_magMul.l1.eq_2 ..) ?_
      have e1 : y < (b.length : Int) := by omega
      simp only [if_pos e1]
      refine Ev.step (fun k => impl_magMul.j2.eq_2 ..) ?_
      have e2 : 0 ≤ i + y := by omega
      have e3 : i + y < (out.length : Int) := by omega
      have e6 : 0 ≤ y := by omega
      generalize hs : c + out.getD (n + j) 0 + a.getD n 0 * b.getD j 0 = s
      rw [w64 (x := i + y) (by omega) (by omega), rd_nat out (n + j) (i + y) (by omega), rd_nat b j y hy, w64 (x := a.getD n 0 * b.getD j 0) (by omega) (by omega), w64 (x := c + out.getD (n + j) 0) (by omega) (by omega), hs, w64 (x := s) (by omega) (by omega), tmod10 (by omega), tdiv10 (by omega), w64 (x := s / 10) (by omega) (by omega), w64 (x := y + 1) (by omega) (by omega), show (i + y).toNat = n + j by omega]
      simp only [if_true, if_pos e1, if_pos e2, if_pos e3, if_pos e6]
      refine ih (j + 1) (y + 1) (s / 10) _ (by omega) (by omega) (by omega) (by simpa using hl) (hD.set (by omega) (by omega)) (by omega) (by omega) ?_
      rw [← hv, val_set hin, val_drop_lt ej, ← Nat.add_assoc, Int.pow_succ]
      have k1 : (10 : Int) ^ (n + j) * (s % 10 - out.getD (n + j) 0) + (10 : Int) ^ (n + j) * 10 * (s / 10) = (10 : Int) ^ (n + j) * (c + a.getD n 0 * b.getD j 0) := by
        rw [Int.mul_assoc, ← Int.mul_add]; congr 1; omega
      have k2 : a.getD n 0 * ((10 : Int) ^ (n + j) * (b.getD j 0 + 10 * val (b.drop (j + 1)))) = (10 : Int) ^ (n + j) * (a.getD n 0 * b.getD j 0) + a.getD n 0 * ((10 : Int) ^ (n + j) * 10 * val (b.drop (j + 1))) := by
        rw [Int.mul_add, Int.mul_add]
        simp only [Int.mul_comm, Int.mul_left_comm, Int.mul_assoc]
      rw [k2]
      have k3 := Int.mul_add ((10 : Int) ^ (n + j)) c (a.getD n 0 * b.getD j 0)
      omega
    · rw [val_drop_ge (by omega), Int.mul_zero, Int.mul_zero, Int.add_zero] at hv
      by_cases ec : c > 0
      · have hjl : j = b.length := by
          by_cases e : j = b.length
          · exact e
          · exfalso
            have hj' : j = b.length + 1 := by omega
            subst hj'
            have h1 := hD.nonneg
            have h2 := p10_pos (n + b.length + 1)
            rw [← Nat.add_assoc] at hv
            have h3 : (10 : Int) ^ (n + b.length + 1) * 1 ≤ (10 : Int) ^ (n + b.length + 1) * c := Int.mul_le_mul_of_nonneg_left (by omega) (by omega)
            omega
        have hin : n + j < out.length := by omega
        refine Ev.step (fun k => impl_magMul.l1.eq_2 ..) ?_
        have e1 : ¬ y < (b.length : Int) := by omega
        simp only [if_neg e1]
        refine Ev.step (fun k => impl_magMul.j2.eq_2 ..) ?_
        have e2 : 0 ≤ i + y := by omega
        have e3 : i + y < (out.length : Int) := by omega
        have e4 : decide (c > 0) = true := by simpa using ec
        generalize hs : c + out.getD (n + j) 0 = s
        simp only [if_pos e4, if_neg e1]
        rw [w64 (x := i + y) (by omega) (by omega), rd_nat out (n + j) (i + y) (by omega), hs, w64 (x := s) (by omega) (by omega), tmod10 (by omega), tdiv10 (by omega), w64 (x := s / 10) (by omega) (by omega), w64 (x := y + 1) (by omega) (by omega), show (i + y).toNat = n + j by omega]
        simp only [if_pos e2, if_pos e3]
        refine ih (j + 1) (y + 1) (s / 10) _ (by omega) (by omega) (by omega) (by simpa using hl) (hD.set (by omega) (by omega)) (by omega) (by omega) ?_
        rw [← hv, val_set hin, val_drop_ge (l := b) (n := j + 1) (by omega), ← Nat.add_assoc, Int.pow_succ]
        have k1 : (10 : Int) ^ (n + j) * (s % 10 - out.getD (n + j) 0) + (10 : Int) ^ (n + j) * 10 * (s / 10) = (10 : Int) ^ (n + j) * c := by
          rw [Int.mul_assoc, ← Int.mul_add]; congr 1; omega
        rw [Int.mul_zero, Int.mul_zero]
        omega
      · have hc : c = 0 := by omega
        subst hc
        rw [Int.mul_zero, Int.add_zero] at hv
        exact stop j y out hy (by omega) hl hD hv
theorem impl_mul_l0 (a b : List Int) (ha : Dig a) (hb : Dig b) (hla : a.length ≤ 1000) (hlb : b.length ≤ 1000) (m : Int) (hm : m = a.length) :
    ∀ (d n : Nat) (i : Int) (out : List Int), i = n → n ≤ a.length → a.length - n ≤ d → out.length = a.length + b.length + 1 → Dig out → val out = val (a.take n) * val b →
      Ev (fun k => impl_magMul.l0 k b out a m i) (dig (val a * val b).toNat) := by
  have fin : ∀ (i : Int) (out : List Int), i = a.length → out.length = a.length + b.length + 1 → Dig out → val out = val a * val b → Ev (fun k => impl_magMul.l0 k b out a m i) (dig (val a * val b).toNat) := by
    intro i out hi hl hD hv
    refine Ev.step (fun k => impl_magMul.l0.eq_2 ..) ?_
    have e1 : ¬ i < m := by omega
    simp only [if_neg e1]
    rw [← hv, ← trim_eq hD]
    exact Ev.bind (impl_trimmed_ev _ (by omega)) (Ev.now _)
  intro d
  induction d with
  | zero =>
    intro n i out hi hn hd hl hD hv
    have hn' : n = a.length := by omega
    subst hn'
    rw [List.take_length] at hv
    exact fin i out hi hl hD hv
  | succ d ih =>
    intro n i out hi hn hd hl hD hv
    by_cases en : n < a.length
    · refine Ev.step (fun k => impl_magMul.l0.eq_2 ..) ?_
      have e1 : i < m := by omega
      have e2 : 0 ≤ i := by omega
      have e3 : i < (a.length : Int) := by omega
      rw [rd_nat a n i hi]
      simp only [if_pos e1, if_pos e2, if_pos e3]
      have hval : val (a.take (n + 1)) * val b = val out + (10 : Int) ^ (n + 0) * 0 + a.getD n 0 * ((10 : Int) ^ (n + 0) * val (b.drop 0)) := by
        rw [hv, val_take_succ en, List.drop_zero, Nat.add_zero, Int.add_mul, Int.mul_zero, Int.add_zero]
        congr 1
        simp only [Int.mul_comm, Int.mul_left_comm, Int.mul_assoc]
      refine impl_mul_l1 a b ha hb hla hlb n en i m hi (val (a.take (n + 1)) * val b) ?_ _ ?_ (b.length + 1) 0 0 0 out rfl (by omega) (by omega) hl hD (by omega) (by omega) hval.symm
      · have h1 := (ha.take (n + 1)).lt
        rw [List.length_take, Nat.min_eq_left (by omega)] at h1
        have h2 := mul_lt_pow (ha.take (n + 1)).nonneg h1 hb.nonneg hb.lt
        rw [show n + 1 + b.length = n + b.length + 1 by omega] at h2
        exact h2
      · intro out' hl' hD' hv'
        exact ih (n + 1) (i + 1) out' (by omega) (by omega) (by omega) hl' hD' hv'
    · have hn' : n = a.length := by omega
      subst hn'
      rw [List.take_length] at hv
      exact fin i out hi hl hD hv
theorem impl_mul_ev (a b : Nat) (hla : (dig a).length ≤ 1000) (hlb : (dig b).length ≤ 1000) : Ev (fun k => impl_magMul.f k (dig a) (dig b)) (dig (a * b)) := by
  have h := impl_mul_l0 (dig a) (dig b) (dig_Dig a) (dig_Dig b) hla hlb _ rfl (dig a).length 0 0 (List.replicate ((dig a).length + (dig b).length + 1) 0) rfl (by omega) (by omega) (by simp) (Dig.replicate _) (by rw [val_replicate]; simp [val])
  rw [val_dig, val_dig, show ((a : Int) * b).toNat = a * b by rw [← Int.natCast_mul, Int.toNat_natCast]] at h
  refine Ev.congr (fun k => ?_) h
  simp only [impl_magMul.f]
  rw [w64 (x := ((dig a).length : Int) + (dig b).length) (by omega) (by omega), w64 (x := ((dig a).length : Int) + (dig b).length + 1) (by omega) (by omega), if_pos (by omega), if_pos (by omega)]
  rw [show (((dig a).length : Int) + (dig b).length + 1).toNat = (dig a).length + (dig b).length + 1 by omega]

end Go.Proofs.Ytccdaiagameobaa.IE
