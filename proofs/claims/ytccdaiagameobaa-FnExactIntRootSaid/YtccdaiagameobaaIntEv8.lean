/- What the program's root of an integer comes to, and the reference's. -/
import Derived.Test.YtccdaiagameobaaIntEv6
import Derived.Test.YtccdaiagameobaaIntEv3
import Derived.Test.YtccdaiagameobaaQ34
import Derived.Test.YtccdaiagameobaaQ35
set_option linter.unusedSimpArgs false
set_option linter.unusedVariables false
namespace Go.Proofs.Ytccdaiagameobaa.IE
open Go.RowKit Go.Proofs.Ytccdaiagameobaa.Q Go.Proofs.YtccdaiagameobaaW.PrintWords Go.Proofs.IM

theorem some_bind {α β : Type} (x : α) (f : α → Option β) : (some x).bind f = f x := by by_cases h : True <;> exact rfl
theorem isqrt (m : Nat) : ∃ S : Nat, S * S ≤ m ∧ m < (S + 1) * (S + 1) := by
  induction m with
  | zero => exact ⟨0, by decide, by decide⟩
  | succ m ih =>
    obtain ⟨S, h1, h2⟩ := ih
    by_cases h : m + 1 < (S + 1) * (S + 1)
    · exact ⟨S, by omega, h⟩
    · refine ⟨S + 1, by omega, ?_⟩
      have : (S + 1) * (S + 1) < (S + 1 + 1) * (S + 1 + 1) := Nat.mul_self_lt_mul_self (by omega)
      omega
theorem sq_le {m S V : Nat} (h1 : S * S ≤ m) (h2 : m < (S + 1) * (S + 1)) : V * V ≤ m ↔ V ≤ S := by
  constructor
  · intro h
    rcases Nat.lt_or_ge S V with c | c
    · have : (S + 1) * (S + 1) ≤ V * V := Nat.mul_self_le_mul_self c
      omega
    · exact c
  · intro h
    exact Nat.le_trans (Nat.mul_self_le_mul_self h) h1
theorem cmp_le {a b : Int} : cmp a b ≤ 0 ↔ a ≤ b := by
  unfold cmp
  split
  · constructor <;> intro <;> omega
  · split
    · constructor <;> intro <;> omega
    · constructor <;> intro <;> omega
theorem root_test {m S : Nat} (hS1 : S * S ≤ m) (hS2 : m < (S + 1) * (S + 1)) (V : Nat) : cmp ((V * V : Nat) : Int) m ≤ 0 ↔ V ≤ S := by
  rw [cmp_le, ← sq_le hS1 hS2]
  omega
theorem dig_len_of {l : List Int} (h : Dig l) : (dig (val l).toNat).length ≤ l.length := by
  refine dig_length_le.2 ?_
  have h1 := h.lt
  have h2 := h.nonneg
  have e : ((10 ^ l.length : Nat) : Int) = (10 : Int) ^ l.length := by simp
  rw [← e] at h1
  omega

theorem mul_len_of {a b K L M : Nat} (ha : (dig a).length ≤ K) (hb : (dig b).length ≤ L) (h : K + L ≤ M) : (dig (a * b)).length ≤ M := by
  refine dig_length_le.2 ?_
  have h5 := Nat.mul_lt_mul'' (dig_length_le.1 ha) (dig_length_le.1 hb)
  rw [← Nat.pow_add] at h5
  exact Nat.lt_of_lt_of_le h5 (Nat.pow_le_pow_right (by decide) h)

theorem impl_root_l1 (m S : Nat) (hS1 : S * S ≤ m) (hS2 : m < (S + 1) * (S + 1)) (hm : (dig m).length ≤ 1000) (H : Nat) (hH : H ≤ 400) (n : Nat) (hn : n < H) (i : Int) (hi : i = n) (neg : Bool) (r : ByteArray × Bool) (B : Int)
    (post : ∀ x : List Int, x.length = H → Dig x → (∀ j, j < n → x.getD j 0 = 0) → val x ≤ S → (S : Int) < val x + (10 : Int) ^ n → Ev (fun k => impl_IntRoot.l0 k x (i - 1) neg (dig m)) r) :
    ∀ (d : Nat) (x : List Int) (y : Int), y = d → d ≤ 9 → x.length = H → Dig x → (∀ j, j < n → x.getD j 0 = 0) → val x - (10 : Int) ^ n * x.getD n 0 = B → B ≤ S → (S : Int) < B + (10 : Int) ^ n * (d + 1) →
      Ev (fun k => impl_IntRoot.l1 k x i y neg (dig m)) r := by
  have core : ∀ (d : Nat) (x : List Int) (y : Int), y = d → d ≤ 9 → x.length = H → Dig x → (∀ j, j < n → x.getD j 0 = 0) → val x - (10 : Int) ^ n * x.getD n 0 = B → (S : Int) < B + (10 : Int) ^ n * (d + 1) →
      (¬ B + (10 : Int) ^ n * d ≤ S → Ev (fun k => impl_IntRoot.l1 k (x.set n y) i (y - 1) neg (dig m)) r) → Ev (fun k => impl_IntRoot.l1 k x i y neg (dig m)) r := by
    intro d x y hy hd hl hD hz hB h2 next
    have hin : n < x.length := by omega
    have hD' : Dig (x.set n y) := hD.set (by omega) (by omega)
    have hv : val (x.set n y) = B + (10 : Int) ^ n * d := by rw [val_set hin, Int.mul_sub, hy]; omega
    have hv0 := hD'.nonneg
    have hll : (dig (val (x.set n y)).toNat).length ≤ 1000 := by
      have := dig_len_of hD'
      rw [List.length_set] at this
      omega
    refine Ev.step (fun k => impl_IntRoot.l1.eq_2 ..) ?_
    have e1 : y ≥ 0 := by omega
    have e2 : 0 ≤ i := by omega
    have e3 : i < (x.length : Int) := by omega
    have e4 : ([] : List Int).length + (x.set n y).length < 17592186044416 := by rw [List.length_set, List.length_nil]; omega
    have e5 : i.toNat = n := by omega
    simp only [if_pos e1, if_pos e2, if_pos e3, Option.bind_some, List.nil_append, e5, if_pos e4]
    refine Ev.bind (impl_trimmed_ev _ (by rw [List.length_set]; omega)) ?_
    rw [trim_eq hD']
    refine Ev.bind (impl_mul_ev _ _ hll hll) ?_
    have hl2 : (dig ((val (x.set n y)).toNat * (val (x.set n y)).toNat)).length ≤ 1000000 := mul_len_of hll hll (by omega)
    refine Ev.bind (impl_compare_ev _ _ hl2 (by omega)) ?_
    rw [w64 (x := i - 1) (by omega) (by omega), w64 (x := y - 1) (by omega) (by omega)]
    have ht := root_test hS1 hS2 (val (x.set n y)).toNat
    by_cases c : B + (10 : Int) ^ n * d ≤ S
    · have hc : cmp (((val (x.set n y)).toNat * (val (x.set n y)).toNat : Nat) : Int) m ≤ 0 := ht.2 (by omega)
      simp only [if_pos hc]
      refine post _ (by rw [List.length_set]; omega) hD' (fun j hj => by rw [getD_set hin, if_neg (by omega)]; exact hz j hj) (by omega) ?_
      rw [hv]
      rw [Int.mul_add, Int.mul_one] at h2
      omega
    · have hc : ¬ cmp (((val (x.set n y)).toNat * (val (x.set n y)).toNat : Nat) : Int) m ≤ 0 := fun h => c (by have := ht.1 h; omega)
      simp only [if_neg hc]
      exact next c
  intro d
  induction d with
  | zero =>
    intro x y hy hd hl hD hz hB h1 h2
    exact core 0 x y hy hd hl hD hz hB h2 (fun c => absurd (by simpa using h1) c)
  | succ d ih =>
    intro x y hy hd hl hD hz hB h1 h2
    refine core (d + 1) x y hy hd hl hD hz hB h2 (fun c => ?_)
    have hin : n < x.length := by omega
    refine ih _ _ (by omega) (by omega) (by rw [List.length_set]; omega) (hD.set (by omega) (by omega)) (fun j hj => by rw [getD_set hin, if_neg (by omega)]; exact hz j hj) ?_ h1 ?_
    · rw [val_set hin, getD_set hin, if_pos rfl, Int.mul_sub]; omega
    · rw [Int.natCast_add] at c
      simp only [Int.natCast_one] at c
      omega
theorem impl_root_l0 (m S : Nat) (hS1 : S * S ≤ m) (hS2 : m < (S + 1) * (S + 1)) (hm : (dig m).length ≤ 1000) (H : Nat) (hH : H ≤ 400) (neg : Bool) :
    ∀ (n : Nat) (i : Int) (x : List Int), i = (n : Int) - 1 → n ≤ H → x.length = H → Dig x → (∀ j, j < n → x.getD j 0 = 0) → val x ≤ S → (S : Int) < val x + (10 : Int) ^ n →
      Ev (fun k => impl_IntRoot.l0 k x i neg (dig m)) (fit S) := by
  intro n
  induction n with
  | zero =>
    intro i x hi hn hl hD hz h1 h2
    refine Ev.step (fun k => impl_IntRoot.l0.eq_2 ..) ?_
    have e1 : ¬ i ≥ 0 := by omega
    simp only [if_neg e1]
    refine Ev.bind (impl_trimmed_ev _ (by omega)) ?_
    rw [Int.pow_zero] at h2
    have hv : (val x).toNat = S := by omega
    rw [trim_eq hD, hv]
    have := impl_text_eq (S : Int)
    rw [Int.natAbs_natCast, decide_eq_false (by omega)] at this
    simp only [this, Option.bind_some]
    exact Ev.now _
  | succ n ih =>
    intro i x hi hn hl hD hz h1 h2
    refine Ev.step (fun k => impl_IntRoot.l0.eq_2 ..) ?_
    have e1 : i ≥ 0 := by omega
    simp only [if_pos e1]
    have h0 := hz n (by omega)
    refine impl_root_l1 m S hS1 hS2 hm H hH n (by omega) i (by omega) neg _ (val x) ?_ 9 x 9 rfl (by omega) hl hD (fun j hj => hz j (by omega)) (by rw [h0]; omega) h1 (by rw [Int.pow_succ] at h2; exact h2)
    intro x' hl' hD' hz' h1' h2'
    exact ih (i - 1) x' (by omega) (by omega) hl' hD' hz' h1' h2'

theorem spec_root_l1 (m S : Nat) (hS1 : S * S ≤ m) (hS2 : m < (S + 1) * (S + 1)) (hm : (dig m).length ≤ 1000) (H : Nat) (hH : H ≤ 400) (n : Nat) (hn : n < H) (i : Int) (hi : i = n) (r : ByteArray × Bool)
    (post : ∀ x : List Int, x.length = H → Dig x → (∀ j, j < n → x.getD j 0 = 0) → val x ≤ S → (S : Int) < val x + (10 : Int) ^ n → Ev (fun k => spec_IntRoot.l0 k (dig m) x (i - 1)) r) :
    ∀ (d e : Nat) (x : List Int), 9 - e ≤ d → e ≤ 9 → x.length = H → Dig x → (∀ j, j < n → x.getD j 0 = 0) → x.getD n 0 = e → val x ≤ S → (S : Int) < val x - (10 : Int) ^ n * e + (10 : Int) ^ n * 10 →
      Ev (fun k => spec_IntRoot.l1 k (dig m) x i) r := by
  have nine : ∀ (e : Nat) (x : List Int), e = 9 → x.length = H → Dig x → (∀ j, j < n → x.getD j 0 = 0) → x.getD n 0 = e → val x ≤ S → (S : Int) < val x - (10 : Int) ^ n * e + (10 : Int) ^ n * 10 →
      Ev (fun k => spec_IntRoot.l1 k (dig m) x i) r := by
    intro e x h9 hl hD hz he h1 h2
    have he9 : (e : Int) = 9 := by omega
    rw [he9] at h2 he
    refine Ev.step (fun k => spec_IntRoot.l1.eq_2 ..) ?_
    have e2 : 0 ≤ i := by omega
    have e3 : i < (x.length : Int) := by omega
    rw [rd_nat x n i hi, he, w64 (x := i - 1) (by omega) (by omega)]
    simp only [if_pos e2, if_pos e3, show ¬ (9 : Int) < 9 by decide, if_false]
    exact post x hl hD hz h1 (by omega)
  intro d
  induction d with
  | zero =>
    intro e x hd he hl hD hz hen h1 h2
    exact nine e x (by omega) hl hD hz hen h1 h2
  | succ d ih =>
    intro e x hd he hl hD hz hen h1 h2
    by_cases c9 : e = 9
    · exact nine e x c9 hl hD hz hen h1 h2
    · have hin : n < x.length := by omega
      have hD' : Dig (x.set n ((e : Int) + 1)) := hD.set (by omega) (by omega)
      have hv : val (x.set n ((e : Int) + 1)) = val x + (10 : Int) ^ n := by rw [val_set hin, hen, show ((e : Int) + 1 - e) = 1 by omega]; omega
      have hv0 := hD'.nonneg
      have hz' : ∀ j, j < n → (x.set n ((e : Int) + 1)).getD j 0 = 0 := fun j hj => by rw [getD_set hin, if_neg (by omega)]; exact hz j hj
      have hll : (dig (val (x.set n ((e : Int) + 1))).toNat).length ≤ 1000 := by
        have := dig_len_of hD'
        rw [List.length_set] at this
        omega
      refine Ev.step (fun k => spec_IntRoot.l1.eq_2 ..) ?_
      have e2 : 0 ≤ i := by omega
      have e3 : i < (x.length : Int) := by omega
      have e4 : (e : Int) < 9 := by omega
      have e5 : i.toNat = n := by omega
      rw [rd_nat x n i hi, hen, w64 (x := i - 1) (by omega) (by omega), w64 (x := (e : Int) + 1) (by omega) (by omega)]
      simp only [if_pos e2, if_pos e3, if_pos e4, some_bind, e5]
      refine Ev.bind (spec_trimmed_ev _ (by rw [List.length_set]; omega)) (Ev.bind (spec_trimmed_ev _ (by rw [List.length_set]; omega)) ?_)
      rw [trim_eq hD']
      refine Ev.bind (spec_times_ev _ _ hll hll) ?_
      have hl2 : (dig ((val (x.set n ((e : Int) + 1))).toNat * (val (x.set n ((e : Int) + 1))).toNat)).length ≤ 1000000 := mul_len_of hll hll (by omega)
      refine Ev.bind (spec_compare_ev _ _ hl2 (by omega)) ?_
      have ht := root_test hS1 hS2 (val (x.set n ((e : Int) + 1))).toNat
      by_cases c : val x + (10 : Int) ^ n ≤ S
      · have hc : ¬ cmp (((val (x.set n ((e : Int) + 1))).toNat * (val (x.set n ((e : Int) + 1))).toNat : Nat) : Int) m > 0 := by
          have := ht.2 (by omega)
          omega
        simp only [if_neg hc]
        refine ih (e + 1) _ (by omega) (by omega) (by rw [List.length_set]; omega) hD' hz' (by rw [getD_set hin, if_pos rfl]; omega) (by omega) ?_
        rw [hv, Int.natCast_add, Int.mul_add]
        simp only [Int.natCast_one, Int.mul_one]
        omega
      · have hc : cmp (((val (x.set n ((e : Int) + 1))).toNat * (val (x.set n ((e : Int) + 1))).toNat : Nat) : Int) m > 0 := by
          have := mt ht.1 (by omega)
          omega
        simp only [if_pos hc]
        have hin' : n < (x.set n ((e : Int) + 1)).length := by rw [List.length_set]; omega
        rw [rd_nat (x.set n ((e : Int) + 1)) n i hi, getD_set hin, if_pos rfl, w64 (x := (e : Int) + 1 - 1) (by omega) (by omega)]
        have hv2 : val ((x.set n ((e : Int) + 1)).set n ((e : Int) + 1 - 1)) = val x := by
          rw [val_set hin', getD_set hin, if_pos rfl, hv, show ((e : Int) + 1 - 1 - (e + 1)) = -1 by omega]; omega
        refine post _ (by rw [List.length_set, List.length_set]; omega) (hD'.set (by omega) (by omega)) (fun j hj => by rw [getD_set hin', if_neg (by omega)]; exact hz' j hj) (by omega) (by omega)
theorem fit_sm {n : Int} (h : n.natAbs < 10 ^ 40) : fit n = (txt n, true) := by
  unfold fit
  rw [if_pos h]
theorem spec_root_l0 (m S : Nat) (hS1 : S * S ≤ m) (hS2 : m < (S + 1) * (S + 1)) (hm : (dig m).length ≤ 1000) (hS40 : S < 10 ^ 40) (H : Nat) (hH : H ≤ 400) :
    ∀ (n : Nat) (i : Int) (x : List Int), i = (n : Int) - 1 → n ≤ H → x.length = H → Dig x → (∀ j, j < n → x.getD j 0 = 0) → val x ≤ S → (S : Int) < val x + (10 : Int) ^ n →
      Ev (fun k => spec_IntRoot.l0 k (dig m) x i) (fit S) := by
  intro n
  induction n with
  | zero =>
    intro i x hi hn hl hD hz h1 h2
    refine Ev.step (fun k => spec_IntRoot.l0.eq_2 ..) ?_
    have e1 : ¬ i ≥ 0 := by omega
    simp only [if_neg e1]
    rw [Int.pow_zero] at h2
    have h3 := spec_integer_evL x hD S (by omega) false (by omega) (by have := (dig_length_le (n := S) (k := 40)).2 hS40; omega)
    simp only [Bool.false_eq_true, if_false] at h3
    refine Ev.bind h3 ?_
    rw [fit_sm (by omega)]
    exact Ev.now _
  | succ n ih =>
    intro i x hi hn hl hD hz h1 h2
    refine Ev.step (fun k => spec_IntRoot.l0.eq_2 ..) ?_
    have e1 : i ≥ 0 := by omega
    simp only [if_pos e1]
    have h0 := hz n (by omega)
    refine spec_root_l1 m S hS1 hS2 hm H hH n (by omega) i (by omega) _ ?_ 9 0 x (by omega) (by omega) hl hD (fun j hj => hz j (by omega)) (by rw [h0]; rfl) h1 (by rw [Int.pow_succ] at h2; simp only [Int.natCast_zero]; omega)
    intro x' hl' hD' hz' h1' h2'
    exact ih (i - 1) x' (by omega) (by omega) hl' hD' hz' h1' h2'


theorem root_start (m S : Nat) (hS1 : S * S ≤ m) (hl : (dig m).length ≤ 40) : S < 10 ^ ((dig m).length / 2 + 1) := by
  rcases Nat.lt_or_ge S (10 ^ ((dig m).length / 2 + 1)) with h | h
  · exact h
  · have h1 := Nat.mul_le_mul h h
    rw [← Nat.pow_add] at h1
    have h2 := dig_lt_pow m
    have h3 : 10 ^ (dig m).length ≤ 10 ^ ((dig m).length / 2 + 1 + ((dig m).length / 2 + 1)) := Nat.pow_le_pow_right (by decide) (by omega)
    omega
theorem roots (a : List UInt8) (ha : a.length ≤ 1000000000000000) : ∃ r, Ev (fun k => impl_IntRoot.f k (mkS a)) r ∧ Ev (fun k => spec_IntRoot.f k (mkS a)) r := by
  by_cases h : okInt a = true
  · have hok := ok_txt h
    have l1 := ok_len h
    by_cases hneg : numOf a < 0
    · refine ⟨(⟨#[]⟩, false), ?_, ?_⟩
      · unfold impl_IntRoot.f
        have hp := impl_parse_ev a ha
        unfold parsed at hp
        rw [if_pos h, decide_eq_true hneg] at hp
        refine Ev.bind hp ?_
        simp only [if_true]
        refine Ev.step (fun k => impl_IntRoot.j0.eq_2 ..) ?_
        simp only [if_true]
        exact Ev.now _
      · unfold spec_IntRoot.f
        have hp := spec_valid_ev a ha
        rw [h] at hp
        refine Ev.bind hp ?_
        have hs := neg_split (hok.2.2.2.trans (decide_eq_true hneg))
        have e1 : 0 < ((mkS a).size : Int) := by rw [mkS_size, hs]; simp
        have e2 : bt (mkS a) 0 = 45 := by rw [mkS_bt a 0 0 rfl, hs]; rfl
        simp only [if_true, if_pos e1, e2]
        refine Ev.step (fun k => spec_IntRoot.j0.eq_2 ..) ?_
        simp only [beq_self_eq_true, if_true]
        exact Ev.now _
    · obtain ⟨S, hS1, hS2⟩ := isqrt (numOf a).natAbs
      have hst := root_start _ S hS1 l1
      have hS40 : S < 10 ^ 40 := Nat.lt_of_lt_of_le hst (Nat.pow_le_pow_right (by decide) (by omega))
      have hlen : (wrap64 ((wrap64 (((dig (numOf a).natAbs).length : Int) / 2)) + 1)) = (((dig (numOf a).natAbs).length / 2 + 1 : Nat) : Int) := by
        rw [w64 (x := ((dig (numOf a).natAbs).length : Int) / 2) (by omega) (by omega), w64 (by omega) (by omega)]
        omega
      have hstI : (S : Int) < val (List.replicate ((dig (numOf a).natAbs).length / 2 + 1) 0) + (10 : Int) ^ ((dig (numOf a).natAbs).length / 2 + 1) := by
        rw [val_replicate]
        have e : ((10 ^ ((dig (numOf a).natAbs).length / 2 + 1) : Nat) : Int) = (10 : Int) ^ ((dig (numOf a).natAbs).length / 2 + 1) := by simp
        rw [← e]
        omega
      have hz0 : ∀ j, j < (dig (numOf a).natAbs).length / 2 + 1 → (List.replicate ((dig (numOf a).natAbs).length / 2 + 1) (0 : Int)).getD j 0 = 0 := fun j hj => by rw [List.getD_eq_getElem?_getD, List.getElem?_replicate, if_pos hj]; rfl
      refine ⟨fit S, ?_, ?_⟩
      · unfold impl_IntRoot.f
        have hp := impl_parse_ev a ha
        unfold parsed at hp
        rw [if_pos h, decide_eq_false hneg] at hp
        refine Ev.bind hp ?_
        simp only [if_true]
        refine Ev.step (fun k => impl_IntRoot.j0.eq_2 ..) ?_
        simp only [Bool.false_eq_true, if_false, hlen]
        have g1 : (0 : Int) ≤ (((dig (numOf a).natAbs).length / 2 + 1 : Nat) : Int) := by omega
        have g2 : (dig (numOf a).natAbs).length / 2 + 1 ≤ 35184372088832 := by omega
        simp only [Int.toNat_natCast, if_pos g1, if_pos g2, some_bind, List.length_replicate]
        rw [w64 (x := (((dig (numOf a).natAbs).length / 2 + 1 : Nat) : Int) - 1) (by omega) (by omega)]
        exact impl_root_l0 _ S hS1 hS2 (by omega) ((dig (numOf a).natAbs).length / 2 + 1) (by omega) false ((dig (numOf a).natAbs).length / 2 + 1) _ _ rfl (Nat.le_refl _) (by simp) (Dig.replicate _) hz0 (by rw [val_replicate]; omega) hstI
      · unfold spec_IntRoot.f
        have hp := spec_valid_ev a ha
        rw [h] at hp
        refine Ev.bind hp ?_
        have hpos : isNeg a = false := hok.2.2.2.trans (decide_eq_false hneg)
        have hne : 1 ≤ a.length := by
          have := h
          unfold okInt lastOk at this
          rw [pos_split hpos] at this
          simp only [Bool.and_eq_true, decide_eq_true_eq] at this
          exact this.2.1.1
        have e1 : 0 < ((mkS a).size : Int) := by rw [mkS_size]; omega
        have e2 : (bt (mkS a) 0 == 45) = false := by
          rw [mkS_bt a 0 0 rfl]
          cases a with
          | nil => simp at hne
          | cons x xs =>
            have hx : x ≠ 45 := by simpa [isNeg] using hpos
            simp only [List.getD_cons_zero, beq_eq_false_iff_ne, ne_eq]
            intro q
            exact hx (u8_of (by simpa using q))
        simp only [if_true, if_pos e1, e2]
        refine Ev.step (fun k => spec_IntRoot.j0.eq_2 ..) ?_
        simp only [Bool.false_eq_true, if_false]
        refine Ev.bind (spec_digits_ev a h) ?_
        simp only [hlen]
        have g1 : (0 : Int) ≤ (((dig (numOf a).natAbs).length / 2 + 1 : Nat) : Int) := by omega
        have g2 : (dig (numOf a).natAbs).length / 2 + 1 ≤ 35184372088832 := by omega
        simp only [Int.toNat_natCast, if_pos g1, if_pos g2, some_bind, List.length_replicate]
        rw [w64 (x := (((dig (numOf a).natAbs).length / 2 + 1 : Nat) : Int) - 1) (by omega) (by omega)]
        exact spec_root_l0 _ S hS1 hS2 (by omega) hS40 ((dig (numOf a).natAbs).length / 2 + 1) (by omega) ((dig (numOf a).natAbs).length / 2 + 1) _ _ rfl (Nat.le_refl _) (by simp) (Dig.replicate _) hz0 (by rw [val_replicate]; omega) hstI
  · refine ⟨(⟨#[]⟩, false), ?_, ?_⟩
    · unfold impl_IntRoot.f
      have hp := impl_parse_ev a ha
      unfold parsed at hp
      rw [if_neg h] at hp
      refine Ev.bind hp ?_
      simp only [Bool.false_eq_true, if_false]
      refine Ev.step (fun k => impl_IntRoot.j0.eq_2 ..) ?_
      simp only [if_true]
      exact Ev.now _
    · unfold spec_IntRoot.f
      have hp := spec_valid_ev a ha
      have h' : okInt a = false := by simpa using h
      rw [h'] at hp
      refine Ev.bind hp ?_
      simp only [Bool.false_eq_true, if_false]
      refine Ev.step (fun k => spec_IntRoot.j0.eq_2 ..) ?_
      simp only [if_true]
      exact Ev.now _
end Go.Proofs.Ytccdaiagameobaa.IE
