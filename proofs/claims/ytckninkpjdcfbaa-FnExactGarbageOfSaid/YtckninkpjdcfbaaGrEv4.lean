/- Sets of objects, and what of the counts is left of them, for the reference and for the program. -/
import Derived.Test.YtckninkpjdcfbaaGrEv3
import Derived.Test.YtckninkpjdcfbaaQ0
import Derived.Test.YtckninkpjdcfbaaQ11
import Derived.Test.YtckninkpjdcfbaaQ12
import Derived.Test.YtckninkpjdcfbaaQ19
set_option linter.unusedSimpArgs false
set_option linter.unusedVariables false
namespace Go.Proofs.Ytckninkpjdcfbaa.GE
open Go.RowKit Go.Proofs.Ytckninkpjdcfbaa.Q Go.Proofs.YtckninkpjdcfbaaW.PrintWords Go.Proofs.GR

theorem asc_snoc {l : List Int} {x : Int} : asc (l ++ [x]) ↔ asc l ∧ ∀ y ∈ l, y < x := by
  unfold asc
  rw [List.pairwise_append]
  simp
theorem asc_take {l : List Int} (h : asc l) (n : Nat) : asc (l.take n) := List.Pairwise.sublist (List.take_sublist n l) h
/-- A list of objects, ascending. -/
def setB (n : Nat) (l : List Int) : Bool := idx n l && decide (asc l)
theorem asc_step {l : List Int} {n : Nat} (hn : n < l.length) (h : asc (l.take n)) (hs : ∀ m, n = m + 1 → l.getD m 0 < l.getD n 0) : asc (l.take (n + 1)) := by
  rw [take_succ (d := (0 : Int)) hn, asc_snoc]
  refine ⟨h, fun y hy => ?_⟩
  cases n with
  | zero => simp at hy
  | succ m =>
    have h1 := hs m rfl
    rw [take_succ (d := (0 : Int)) (show m < l.length by omega)] at h hy
    rcases List.mem_append.1 hy with h2 | h2
    · have := (asc_snoc.1 h).2 y h2; omega
    · have := List.mem_singleton.1 h2; omega
theorem spec_validSet_l (l : List Int) (N : Nat) (hN : N ≤ 100000000) (hm : l.length ≤ 100000000) : ∀ (d n : Nat) (i : Int), i = n → n ≤ l.length → l.length - n ≤ d → idx N (l.take n) = true → asc (l.take n) →
    Ev (fun k => spec_validSet.l0 k l N i) (setB N l) := by
  have stop : ∀ (n : Nat) (i : Int), i = n → n = l.length → idx N (l.take n) = true → asc (l.take n) → Ev (fun k => spec_validSet.l0 k l N i) (setB N l) := by
    intro n i hi hn h1 h2
    refine Ev.step (fun k => spec_validSet.l0.eq_2 ..) ?_
    simp only [if_neg (show ¬ i < (l.length : Int) by omega)]
    rw [hn, List.take_length] at h1 h2
    unfold setB
    rw [h1, decide_eq_true h2]
    exact Ev.now _
  intro d
  induction d with
  | zero => intro n i hi hn hd h1 h2; exact stop n i hi (by omega) h1 h2
  | succ d ih =>
    intro n i hi hn hd h1 h2
    rcases Nat.lt_or_ge n l.length with hlt | hge
    · refine Ev.step (fun k => spec_validSet.l0.eq_2 ..) ?_
      simp only [if_pos (show i < (l.length : Int) by omega), if_pos (show 0 ≤ i by omega), inRange_eq, Option.bind_some]
      rw [rd_nat l n i hi, w64 (x := (N : Int) - 1) (by omega) (by omega), w64 (x := i + 1) (by omega) (by omega), w64 (x := i - 1) (by omega) (by omega)]
      by_cases c : 0 ≤ l.getD n 0 ∧ l.getD n 0 ≤ (N : Int) - 1
      · have h1' : idx N (l.take (n + 1)) = true := by
          rw [idx_iff, take_succ (d := (0 : Int)) hlt]
          intro x hx
          rcases List.mem_append.1 hx with h | h
          · exact idx_iff.1 h1 x h
          · have := List.mem_singleton.1 h; omega
        simp only [decide_eq_true c, if_true]
        by_cases c0 : i > 0
        · have hm1 : n - 1 < l.length := by omega
          rw [rd_nat l (n - 1) (i - 1) (by omega)]
          simp only [if_pos c0, if_pos (show 0 ≤ i - 1 by omega), if_pos (show i - 1 < (l.length : Int) by omega)]
          by_cases c1 : l.getD n 0 ≤ l.getD (n - 1) 0
          · simp only [if_pos c1]
            have : setB N l = false := by
              unfold setB
              rw [decide_eq_false, Bool.and_false]
              intro q
              have h3 := asc_take q (n + 1)
              rw [take_succ (d := (0 : Int)) hlt, asc_snoc] at h3
              have h4 := h3.2 (l.getD (n - 1) 0) (by
                have : l.take n = l.take (n - 1) ++ [l.getD (n - 1) 0] := by
                  have := take_succ (d := (0 : Int)) hm1
                  rwa [show n - 1 + 1 = n by omega] at this
                rw [this]; simp)
              omega
            rw [this]
            exact Ev.now _
          · simp only [if_neg c1]
            exact ih (n + 1) (i + 1) (by omega) (by omega) (by omega) h1' (asc_step hlt h2 (fun m hm => by rw [show m = n - 1 by omega]; omega))
        · simp only [if_neg c0]
          exact ih (n + 1) (i + 1) (by omega) (by omega) (by omega) h1' (asc_step hlt h2 (fun m hm => by omega))
      · simp only [decide_eq_false c, Bool.false_eq_true, if_false]
        have : setB N l = false := by
          unfold setB
          have : idx N l = false := by
            rw [Bool.eq_false_iff, ne_eq, idx_iff]
            intro q
            have := q _ (getD_mem (d := 0) hlt)
            omega
          rw [this, Bool.false_and]
        rw [this]
        exact Ev.now _
    · exact stop n i hi (by omega) h1 h2
theorem spec_validSet_ev (l : List Int) (N : Nat) (hN : N ≤ 100000000) (hm : l.length ≤ 100000000) : Ev (fun k => spec_validSet.f k l N) (setB N l) := by
  unfold spec_validSet.f
  exact spec_validSet_l l N hN hm l.length 0 0 rfl (Nat.zero_le _) (by omega) rfl List.Pairwise.nil

theorem impl_setOk_l (g : List (List Int)) (hs : Sz g) (r : List Int) (hr : r.length ≤ 2000000) (l : List Int) (hm : l.length ≤ 2000000) : ∀ (d n : Nat) (i : Int), i = n → n ≤ l.length → l.length - n ≤ d → asc (l.take n) →
    Ev (fun k => impl_setOk.l0 k g r l l l.length i) (okG g && okR g r && setB g.length l) := by
  have stop : ∀ (n : Nat) (i : Int), i = n → n = l.length → asc (l.take n) → Ev (fun k => impl_setOk.l0 k g r l l l.length i) (okG g && okR g r && setB g.length l) := by
    intro n i hi hn h2
    refine Ev.step (fun k => impl_setOk.l0.eq_2 ..) ?_
    simp only [if_neg (show ¬ i < (l.length : Int) by omega)]
    rw [hn, List.take_length] at h2
    unfold setB
    rw [decide_eq_true h2, Bool.and_true]
    refine Ev.bind (impl_GraphOk_ev g hs r hr) ?_
    cases okG g && okR g r with
    | true =>
      simp only [if_true, Bool.true_and]
      exact Ev.bind (impl_indicesOk_ev l g.length hm) (Ev.now _)
    | false =>
      simp only [Bool.false_eq_true, if_false, Bool.false_and]
      exact Ev.now _
  intro d
  induction d with
  | zero => intro n i hi hn hd h2; exact stop n i hi (by omega) h2
  | succ d ih =>
    intro n i hi hn hd h2
    rcases Nat.lt_or_ge n l.length with hlt | hge
    · refine Ev.step (fun k => impl_setOk.l0.eq_2 ..) ?_
      simp only [if_pos (show i < (l.length : Int) by omega), if_pos (show 0 ≤ i by omega)]
      rw [rd_nat l n i hi, w64 (x := i + 1) (by omega) (by omega), w64 (x := i - 1) (by omega) (by omega)]
      by_cases c0 : i > 0
      · have hm1 : n - 1 < l.length := by omega
        rw [rd_nat l (n - 1) (i - 1) (by omega)]
        simp only [if_pos c0, if_pos (show 0 ≤ i - 1 by omega), if_pos (show i - 1 < (l.length : Int) by omega)]
        by_cases c1 : l.getD (n - 1) 0 ≥ l.getD n 0
        · simp only [if_pos c1]
          have : setB g.length l = false := by
            unfold setB
            rw [decide_eq_false, Bool.and_false]
            intro q
            have h3 := asc_take q (n + 1)
            rw [take_succ (d := (0 : Int)) hlt, asc_snoc] at h3
            have h4 := h3.2 (l.getD (n - 1) 0) (by
              have : l.take n = l.take (n - 1) ++ [l.getD (n - 1) 0] := by
                have := take_succ (d := (0 : Int)) hm1
                rwa [show n - 1 + 1 = n by omega] at this
              rw [this]; simp)
            omega
          rw [this, Bool.and_false]
          exact Ev.now _
        · simp only [if_neg c1]
          exact ih (n + 1) (i + 1) (by omega) (by omega) (by omega) (asc_step hlt h2 (fun m hm => by rw [show m = n - 1 by omega]; omega))
      · simp only [if_neg c0]
        exact ih (n + 1) (i + 1) (by omega) (by omega) (by omega) (asc_step hlt h2 (fun m hm => by omega))
    · exact stop n i hi (by omega) h2
theorem impl_setOk_ev (g : List (List Int)) (hs : Sz g) (r : List Int) (hr : r.length ≤ 2000000) (l : List Int) (hm : l.length ≤ 2000000) : Ev (fun k => impl_setOk.f k g r l) (okG g && okR g r && setB g.length l) := by
  unfold impl_setOk.f
  exact impl_setOk_l g hs r hr l hm l.length 0 0 rfl (Nat.zero_le _) (by omega) List.Pairwise.nil

theorem setRefs_drop {g : List (List Int)} {s : List Int} {n : Nat} (h : n < s.length) : setRefs g (s.drop n) = row g (s.getD n 0) ++ setRefs g (s.drop (n + 1)) := by
  unfold setRefs
  rw [drop_cons (d := (0 : Int)) h, List.flatMap_cons]
theorem trial_length (g : List (List Int)) (r s : List Int) : (trial g r s).length = s.length := by simp [trial]
theorem trial_getD {g : List (List Int)} {r s : List Int} (hg : Gr g) (hr : ∀ x ∈ r, 0 ≤ x ∧ x < (g.length : Int)) (hi : ∀ x ∈ s, 0 ≤ x ∧ x < (g.length : Int)) {n : Nat} (h : n < s.length) : (trial g r s).getD n 0 = (counts g r).getD (s.getD n 0).toNat 0 - ((setRefs g s).count (s.getD n 0) : Int) := by
  have hx := hi _ (getD_mem (d := 0) h)
  unfold trial
  rw [getD_lt (by simpa using h), List.getElem_map, ← getD_lt (d := 0) h, trial_val hg hr, counts_getD hg hr, show (((s.getD n 0).toNat : Nat) : Int) = s.getD n 0 by omega]

theorem spec_outside_l2 (g : List (List Int)) (hg : Gr g) (c s out : List Int) (hi : ∀ x ∈ s, 0 ≤ x ∧ x < (g.length : Int)) (a b : Nat) (ha : a < s.length) (hb : b < s.length) (hs : s.length ≤ 2000000) (res : List Int) (ia ib : Int) (hia : ia = a) (hib : ib = b) :
    ∀ (d m : Nat) (j v : Int), j = m → m ≤ (row g (s.getD b 0)).length → (row g (s.getD b 0)).length - m ≤ d → -10000000000 + ((row g (s.getD b 0)).length - m : Int) ≤ v → v ≤ 10000000000 →
      Ev (fun k => spec_outside.l1 k g c s out ia (v - (((row g (s.getD b 0)).drop m).count (s.getD a 0) : Int)) (ib + 1)) res →
      Ev (fun k => spec_outside.l2 k g c s out ia v ib j) res := by
  have hx := hi _ (getD_mem (d := 0) hb)
  have hrl := hg.row_len (s.getD b 0)
  have stop : ∀ (m : Nat) (j v : Int), j = m → m = (row g (s.getD b 0)).length → Ev (fun k => spec_outside.l1 k g c s out ia (v - (((row g (s.getD b 0)).drop m).count (s.getD a 0) : Int)) (ib + 1)) res → Ev (fun k => spec_outside.l2 k g c s out ia v ib j) res := by
    intro m j v hj hm post
    refine Ev.step (fun k => spec_outside.l2.eq_2 ..) ?_
    simp only [if_pos (show 0 ≤ ib by omega), if_pos (show ib < (s.length : Int) by omega), rd_nat s b ib hib, if_pos hx.1, if_pos hx.2]
    rw [show rd_L2 g (s.getD b 0) = row g (s.getD b 0) from rfl]
    simp only [if_neg (show ¬ j < ((row g (s.getD b 0)).length : Int) by omega), w64 (x := ib + 1) (by omega) (by omega)]
    rw [hm, List.drop_length, List.count_nil] at post
    simp only [Int.natCast_zero, Int.sub_zero] at post
    exact post
  intro d
  induction d with
  | zero => intro m j v hj hm hd hv1 hv2 post; exact stop m j v hj (by omega) post
  | succ d ih =>
    intro m j v hj hm hd hv1 hv2 post
    rcases Nat.lt_or_ge m (row g (s.getD b 0)).length with hlt | hge
    · refine Ev.step (fun k => spec_outside.l2.eq_2 ..) ?_
      simp only [if_pos (show 0 ≤ ib by omega), if_pos (show ib < (s.length : Int) by omega), rd_nat s b ib hib, if_pos hx.1, if_pos hx.2]
      rw [show rd_L2 g (s.getD b 0) = row g (s.getD b 0) from rfl]
      simp only [if_pos (show j < ((row g (s.getD b 0)).length : Int) by omega), if_pos (show 0 ≤ j by omega), if_pos (show 0 ≤ ia by omega), if_pos (show ia < (s.length : Int) by omega), rd_nat s a ia hia, rd_nat (row g (s.getD b 0)) m j hj, w64 (x := j + 1) (by omega) (by omega), w64 (x := v - 1) (by omega) (by omega)]
      rw [drop_cons (d := (0 : Int)) hlt, List.count_cons] at post
      by_cases c1 : (row g (s.getD b 0)).getD m 0 = s.getD a 0
      · rw [if_pos (by simpa using c1)] at post
        simp only [if_pos c1]
        refine ih (m + 1) (j + 1) (v - 1) (by omega) (by omega) (by omega) (by omega) (by omega) ?_
        rw [show v - 1 - (((row g (s.getD b 0)).drop (m + 1)).count (s.getD a 0) : Int) = v - ((((row g (s.getD b 0)).drop (m + 1)).count (s.getD a 0) + 1 : Nat) : Int) by omega]
        exact post
      · rw [if_neg (by simpa using c1), Nat.add_zero] at post
        simp only [if_neg c1]
        exact ih (m + 1) (j + 1) v (by omega) (by omega) (by omega) (by omega) (by omega) post
    · exact stop m j v hj (by omega) post
theorem spec_outside_l1 (g : List (List Int)) (hg : Gr g) (c s out : List Int) (hi : ∀ x ∈ s, 0 ≤ x ∧ x < (g.length : Int)) (a : Nat) (ha : a < s.length) (hs : s.length ≤ 2000000) (ho : out.length ≤ 2000000) (res : List Int) (ia : Int) (hia : ia = a) :
    ∀ (d b : Nat) (ib v : Int), ib = b → b ≤ s.length → s.length - b ≤ d → -10000000000 + 100 * (s.length - b : Int) ≤ v → v ≤ 10000000000 →
      Ev (fun k => spec_outside.l0 k g c s (out ++ [v - ((setRefs g (s.drop b)).count (s.getD a 0) : Int)]) (ia + 1)) res →
      Ev (fun k => spec_outside.l1 k g c s out ia v ib) res := by
  have stop : ∀ (b : Nat) (ib v : Int), ib = b → b = s.length → Ev (fun k => spec_outside.l0 k g c s (out ++ [v - ((setRefs g (s.drop b)).count (s.getD a 0) : Int)]) (ia + 1)) res → Ev (fun k => spec_outside.l1 k g c s out ia v ib) res := by
    intro b ib v hib hb post
    refine Ev.step (fun k => spec_outside.l1.eq_2 ..) ?_
    simp only [if_neg (show ¬ ib < (s.length : Int) by omega), if_pos (show out.length < 17592186044416 by omega), w64 (x := ia + 1) (by omega) (by omega)]
    have e : setRefs g (s.drop b) = [] := by rw [hb, List.drop_length]; rfl
    rw [e, List.count_nil] at post
    simp only [Int.natCast_zero, Int.sub_zero] at post
    exact post
  intro d
  induction d with
  | zero => intro b ib v hib hb hd hv1 hv2 post; exact stop b ib v hib (by omega) post
  | succ d ih =>
    intro b ib v hib hb hd hv1 hv2 post
    rcases Nat.lt_or_ge b s.length with hlt | hge
    · refine Ev.step (fun k => spec_outside.l1.eq_2 ..) ?_
      simp only [if_pos (show ib < (s.length : Int) by omega)]
      have hrl := hg.row_len (s.getD b 0)
      have hcl : (row g (s.getD b 0)).count (s.getD a 0) ≤ (row g (s.getD b 0)).length := List.count_le_length
      refine spec_outside_l2 g hg c s out hi a b ha hlt hs res ia ib hia hib _ 0 0 v rfl (Nat.zero_le _) (Nat.le_refl _) (by omega) (by omega) ?_
      rw [List.drop_zero]
      refine ih (b + 1) (ib + 1) _ (by omega) (by omega) (by omega) (by omega) (by omega) ?_
      rw [setRefs_drop hlt, List.count_append] at post
      rw [show v - ((row g (s.getD b 0)).count (s.getD a 0) : Int) - ((setRefs g (s.drop (b + 1))).count (s.getD a 0) : Int) = v - (((row g (s.getD b 0)).count (s.getD a 0) + (setRefs g (s.drop (b + 1))).count (s.getD a 0) : Nat) : Int) by omega]
      exact post
    · exact stop b ib v hib (by omega) post
theorem spec_outside_l0 (g : List (List Int)) (hg : Gr g) (r s : List Int) (hr : ∀ x ∈ r, 0 ≤ x ∧ x < (g.length : Int)) (hrl : r.length ≤ 2000000) (hi : ∀ x ∈ s, 0 ≤ x ∧ x < (g.length : Int)) (hs : s.length ≤ 2000000) :
    ∀ (d a : Nat) (ia : Int), ia = a → a ≤ s.length → s.length - a ≤ d → Ev (fun k => spec_outside.l0 k g (counts g r) s ((trial g r s).take a) ia) (trial g r s) := by
  have stop : ∀ (a : Nat) (ia : Int), ia = a → a = s.length → Ev (fun k => spec_outside.l0 k g (counts g r) s ((trial g r s).take a) ia) (trial g r s) := by
    intro a ia hia ha
    refine Ev.step (fun k => spec_outside.l0.eq_2 ..) ?_
    simp only [if_neg (show ¬ ia < (s.length : Int) by omega)]
    rw [ha, ← trial_length g r s, List.take_length]
    exact Ev.now _
  intro d
  induction d with
  | zero => intro a ia hia ha hd; exact stop a ia hia (by omega)
  | succ d ih =>
    intro a ia hia ha hd
    rcases Nat.lt_or_ge a s.length with hlt | hge
    · have hx := hi _ (getD_mem (d := 0) hlt)
      have hcl := counts_length g r
      have hsm := counts_Sm hg hr hrl (s.getD a 0).toNat
      refine Ev.step (fun k => spec_outside.l0.eq_2 ..) ?_
      simp only [if_pos (show ia < (s.length : Int) by omega), if_pos (show 0 ≤ ia by omega), rd_nat s a ia hia, if_pos hx.1, if_pos (show s.getD a 0 < ((counts g r).length : Int) by omega)]
      rw [rd_nat (counts g r) (s.getD a 0).toNat (s.getD a 0) (by omega)]
      refine spec_outside_l1 g hg (counts g r) s _ hi a hlt hs (by rw [List.length_take]; omega) _ ia hia s.length 0 0 _ rfl (Nat.zero_le _) (by omega) (by omega) (by omega) ?_
      rw [List.drop_zero, ← trial_getD hg hr hi hlt, ← take_succ (d := (0 : Int)) (by rw [trial_length]; exact hlt)]
      exact ih (a + 1) (ia + 1) (by omega) (by omega) (by omega)
    · exact stop a ia hia (by omega)
theorem spec_outside_ev (g : List (List Int)) (hg : Gr g) (r s : List Int) (hr : ∀ x ∈ r, 0 ≤ x ∧ x < (g.length : Int)) (hrl : r.length ≤ 2000000) (hi : ∀ x ∈ s, 0 ≤ x ∧ x < (g.length : Int)) (hs : s.length ≤ 2000000) : Ev (fun k => spec_outside.f k g (counts g r) s) (trial g r s) := by
  unfold spec_outside.f
  exact spec_outside_l0 g hg r s hr hrl hi hs s.length 0 0 rfl (Nat.zero_le _) (by omega)

theorem impl_trial_l2 (g : List (List Int)) (s c : List Int) (hc : c.length = g.length) (hi : ∀ x ∈ s, 0 ≤ x ∧ x < (g.length : Int)) (hs : s.length ≤ 2000000) :
    ∀ (d a : Nat) (ia : Int), ia = a → a ≤ s.length → s.length - a ≤ d → Ev (fun k => impl_trial.l2 k c ((s.map fun x => c.getD x.toNat 0).take a) s s.length ia) (s.map fun x => c.getD x.toNat 0) := by
  have stop : ∀ (a : Nat) (ia : Int), ia = a → a = s.length → Ev (fun k => impl_trial.l2 k c ((s.map fun x => c.getD x.toNat 0).take a) s s.length ia) (s.map fun x => c.getD x.toNat 0) := by
    intro a ia hia ha
    refine Ev.step (fun k => impl_trial.l2.eq_2 ..) ?_
    simp only [if_neg (show ¬ ia < (s.length : Int) by omega)]
    rw [List.take_of_length_le (by simp; omega)]
    exact Ev.now _
  intro d
  induction d with
  | zero => intro a ia hia ha hd; exact stop a ia hia (by omega)
  | succ d ih =>
    intro a ia hia ha hd
    rcases Nat.lt_or_ge a s.length with hlt | hge
    · have hx := hi _ (getD_mem (d := 0) hlt)
      refine Ev.step (fun k => impl_trial.l2.eq_2 ..) ?_
      have hl : ((s.map fun x => c.getD x.toNat 0).take a).length < 17592186044416 := by rw [List.length_take]; omega
      simp only [if_pos (show ia < (s.length : Int) by omega), if_pos (show 0 ≤ ia by omega), rd_nat s a ia hia, if_pos hx.1, if_pos (show s.getD a 0 < (c.length : Int) by omega), if_pos hl, w64 (x := ia + 1) (by omega) (by omega)]
      have h1 := ih (a + 1) (ia + 1) (by omega) (by omega) (by omega)
      rw [take_succ (d := (0 : Int)) (show a < (s.map fun x => c.getD x.toNat 0).length by rw [List.length_map]; exact hlt)] at h1
      have e : (s.map fun x => c.getD x.toNat 0).getD a 0 = rd c (s.getD a 0) := by
        rw [getD_lt (by rw [List.length_map]; exact hlt), List.getElem_map, ← getD_lt (d := 0) hlt]; rfl
      rw [e] at h1
      exact h1
    · exact stop a ia hia (by omega)
theorem impl_trial_l0 (g : List (List Int)) (hg : Gr g) (s : List Int) (hi : ∀ x ∈ s, 0 ≤ x ∧ x < (g.length : Int)) (hs : s.length ≤ 2000000) (res : List Int) :
    ∀ (d a : Nat) (ia B : Int) (c : List Int), ia = a → a ≤ s.length → s.length - a ≤ d → c.length = g.length → Sm B c → B + 100 * (s.length - a : Int) ≤ 1000000000 →
      Ev (fun k => impl_trial.l2 k (bumps (-1) c (setRefs g (s.drop a))) ([] : List Int) s s.length 0) res →
      Ev (fun k => impl_trial.l0 k g s c s s.length ia) res := by
  have stop : ∀ (a : Nat) (ia : Int) (c : List Int), ia = a → a = s.length → Ev (fun k => impl_trial.l2 k (bumps (-1) c (setRefs g (s.drop a))) ([] : List Int) s s.length 0) res → Ev (fun k => impl_trial.l0 k g s c s s.length ia) res := by
    intro a ia c hia ha post
    refine Ev.step (fun k => impl_trial.l0.eq_2 ..) ?_
    simp only [if_neg (show ¬ ia < (s.length : Int) by omega)]
    have e : setRefs g (s.drop a) = [] := by rw [ha, List.drop_length]; rfl
    rw [e] at post
    exact post
  intro d
  induction d with
  | zero => intro a ia B c hia ha hd hc hB hBl post; exact stop a ia c hia (by omega) post
  | succ d ih =>
    intro a ia B c hia ha hd hc hB hBl post
    rcases Nat.lt_or_ge a s.length with hlt | hge
    · have hx := hi _ (getD_mem (d := 0) hlt)
      have hrl := hg.row_len (s.getD a 0)
      have l1 : ∀ (e m : Nat) (j B' : Int) (c' : List Int), j = m → m ≤ (row g (s.getD a 0)).length → (row g (s.getD a 0)).length - m ≤ e → c'.length = g.length → Sm B' c' → B' ≤ B + m → c' = bumps (-1) c ((row g (s.getD a 0)).take m) →
          Ev (fun k => impl_trial.l1 k g s c' s s.length ia (row g (s.getD a 0)) (row g (s.getD a 0)).length j) res := by
        have stop1 : ∀ (m : Nat) (j B' : Int) (c' : List Int), j = m → m = (row g (s.getD a 0)).length → c'.length = g.length → Sm B' c' → B' ≤ B + m → c' = bumps (-1) c ((row g (s.getD a 0)).take m) →
            Ev (fun k => impl_trial.l1 k g s c' s s.length ia (row g (s.getD a 0)) (row g (s.getD a 0)).length j) res := by
          intro m j B' c' hj hm hc' hB' hBB hcc
          refine Ev.step (fun k => impl_trial.l1.eq_2 ..) ?_
          simp only [if_neg (show ¬ j < ((row g (s.getD a 0)).length : Int) by omega), w64 (x := ia + 1) (by omega) (by omega)]
          refine ih (a + 1) (ia + 1) B' c' (by omega) (by omega) (by omega) hc' hB' (by omega) ?_
          rw [hcc, hm, List.take_length, ← bumps_append, ← setRefs_drop hlt]
          exact post
        intro e
        induction e with
        | zero => intro m j B' c' hj hm he hc' hB' hBB hcc; exact stop1 m j B' c' hj (by omega) hc' hB' hBB hcc
        | succ e ihe =>
          intro m j B' c' hj hm he hc' hB' hBB hcc
          rcases Nat.lt_or_ge m (row g (s.getD a 0)).length with hlt2 | hge2
          · have hy := hg.row_idx _ _ (getD_mem (d := 0) hlt2)
            refine Ev.step (fun k => impl_trial.l1.eq_2 ..) ?_
            simp only [if_pos (show j < ((row g (s.getD a 0)).length : Int) by omega), if_pos (show 0 ≤ j by omega), rd_nat (row g (s.getD a 0)) m j hj, w64 (x := j + 1) (by omega) (by omega)]
            have htake := take_succ (d := (0 : Int)) hlt2
            generalize (row g (s.getD a 0)).getD m 0 = X at *
            simp only [if_pos hy.1, if_pos (show X < (c'.length : Int) by omega)]
            rw [bump_sub hB' (by omega)]
            refine ihe (m + 1) (j + 1) (B' + 1) (bump (-1) c' X) (by omega) (by omega) (by omega) (by rw [bump_length]; exact hc') (hB'.bump (by omega) hy.1 (by omega)) (by omega) ?_
            rw [htake, bumps_append, ← hcc]; rfl
          · exact stop1 m j B' c' hj (by omega) hc' hB' hBB hcc
      refine Ev.step (fun k => impl_trial.l0.eq_2 ..) ?_
      simp only [if_pos (show ia < (s.length : Int) by omega), if_pos (show 0 ≤ ia by omega), rd_nat s a ia hia, if_pos hx.1, if_pos hx.2]
      exact l1 _ 0 0 B c rfl (Nat.zero_le _) (Nat.le_refl _) hc hB (by omega) rfl
    · exact stop a ia c hia (by omega) post
theorem impl_trial_ev (g : List (List Int)) (hg : Gr g) (r s : List Int) (hr : ∀ x ∈ r, 0 ≤ x ∧ x < (g.length : Int)) (hrl : r.length ≤ 2000000) (hi : ∀ x ∈ s, 0 ≤ x ∧ x < (g.length : Int)) (hs : s.length ≤ 2000000) : Ev (fun k => impl_trial.f k g r s) (trial g r s) := by
  unfold impl_trial.f
  refine Ev.bind (impl_counts_ev g hg r hr hrl) ?_
  refine impl_trial_l0 g hg s hi hs _ s.length 0 0 100000000 (counts g r) rfl (Nat.zero_le _) (by omega) (counts_length g r) (counts_Sm hg hr hrl) (by omega) ?_
  rw [List.drop_zero]
  exact impl_trial_l2 g s _ (by rw [bumps_length, counts_length]) hi hs s.length 0 0 rfl (Nat.zero_le _) (by omega)

theorem ok_split {g : List (List Int)} {r s : List Int} (h : (okG g && okR g r && setB g.length s) = true) : okG g = true ∧ (∀ x ∈ r, 0 ≤ x ∧ x < (g.length : Int)) ∧ r.length ≤ 12 ∧ (∀ x ∈ s, 0 ≤ x ∧ x < (g.length : Int)) ∧ asc s := by
  simp only [okR, setB, Bool.and_eq_true, decide_eq_true_eq] at h
  exact ⟨h.1.1, idx_iff.1 h.1.2.1, h.1.2.2, idx_iff.1 h.2.1, h.2.2⟩
theorem asc_len {n : Nat} {s : List Int} (hs : asc s) (hi : ∀ x ∈ s, 0 ≤ x ∧ x < (n : Int)) : s.length ≤ n := by
  have h1 : (s.map Int.toNat).Sublist (List.range' 0 n) := by
    refine asc_sublist n _ 0 ?_ ?_
    · rw [List.pairwise_map]
      refine List.Pairwise.imp_of_mem (fun {a b} ha hb hab => ?_) hs
      have := hi a ha
      have := hi b hb
      omega
    · intro x hx
      obtain ⟨y, hy, rfl⟩ := List.mem_map.1 hx
      have := hi y hy
      omega
  have := h1.length_le
  simpa using this
end Go.Proofs.Ytckninkpjdcfbaa.GE
