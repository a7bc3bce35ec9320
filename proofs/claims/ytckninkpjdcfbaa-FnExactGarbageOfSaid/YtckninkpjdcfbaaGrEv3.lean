/- What the reference's and the program's counts of references come to. -/
import Derived.Test.YtckninkpjdcfbaaGrCount
import Derived.Test.YtckninkpjdcfbaaGrEv1
import Derived.Test.YtckninkpjdcfbaaQ0
import Derived.Test.YtckninkpjdcfbaaQ7
set_option linter.unusedSimpArgs false
set_option linter.unusedVariables false
namespace Go.Proofs.Ytckninkpjdcfbaa.GE
open Go.RowKit Go.Proofs.Ytckninkpjdcfbaa.Q Go.Proofs.YtckninkpjdcfbaaW.PrintWords Go.Proofs.GR

/-- Small counts. -/
def Sm (B : Int) (c : List Int) : Prop := ∀ i, -B ≤ c.getD i 0 ∧ c.getD i 0 ≤ B
theorem Sm.bump {B e x : Int} {c : List Int} (h : Sm B c) (he : -1 ≤ e ∧ e ≤ 1) (h0 : 0 ≤ x) (h1 : x < (c.length : Int)) : Sm (B + 1) (bump e c x) := by
  intro i
  rw [bump_getD h0 h1]
  have := h i
  split <;> omega
theorem Sm.bumps {e : Int} (he : -1 ≤ e ∧ e ≤ 1) (l : List Int) : ∀ {B : Int} {c : List Int}, Sm B c → (∀ x ∈ l, 0 ≤ x ∧ x < (c.length : Int)) → Sm (B + l.length) (bumps e c l) := by
  induction l with
  | nil => intro B c h _; simpa [GR.bumps] using h
  | cons x l ih =>
    intro B c h hl
    have hx := hl x List.mem_cons_self
    have h2 := ih (h.bump he hx.1 hx.2) (fun y hy => by rw [bump_length]; exact hl y (List.mem_cons_of_mem _ hy))
    show Sm _ (GR.bumps e (GR.bump e c x) l)
    rw [List.length_cons, show B + ((l.length + 1 : Nat) : Int) = B + 1 + (l.length : Int) by omega]
    exact h2
theorem Sm.zeros (n : Nat) : Sm 0 (List.replicate n 0) := by
  intro i
  rw [List.getD_eq_getElem?_getD, List.getElem?_replicate]
  split <;> simp
theorem bump_eq {B e x : Int} {c : List Int} (h : Sm B c) (hB : B ≤ 1000000000) (he : e = 1 ∨ e = -1) : c.set x.toNat (wrap64 ((rd c x) + e)) = bump e c x := by
  have := h x.toNat
  unfold bump rd
  rw [w64 (by omega) (by omega)]
theorem bump_sub {B x : Int} {c : List Int} (h : Sm B c) (hB : B ≤ 1000000000) : c.set x.toNat (wrap64 ((rd c x) - 1)) = bump (-1) c x := by
  rw [Int.sub_eq_add_neg]
  exact bump_eq h hB (.inr rfl)

theorem spec_countsOf_l0 (g : List (List Int)) (r : List Int) (hr : ∀ x ∈ r, 0 ≤ x ∧ x < (g.length : Int)) (hrl : r.length ≤ 2000000) (res : List Int) :
    ∀ (d n : Nat) (i B : Int) (c : List Int), i = n → n ≤ r.length → r.length - n ≤ d → c.length = g.length → Sm B c → B + r.length - n ≤ 100000000 →
      (∀ c', c' = bumps 1 c (r.drop n) → Ev (fun k => spec_countsOf.l1 k g c' 0) res) → Ev (fun k => spec_countsOf.l0 k g r c i) res := by
  have stop : ∀ (n : Nat) (i : Int) (c : List Int), i = n → n = r.length → (∀ c', c' = bumps 1 c (r.drop n) → Ev (fun k => spec_countsOf.l1 k g c' 0) res) → Ev (fun k => spec_countsOf.l0 k g r c i) res := by
    intro n i c hi hn post
    refine Ev.step (fun k => spec_countsOf.l0.eq_2 ..) ?_
    simp only [if_neg (show ¬ i < (r.length : Int) by omega)]
    refine post c ?_
    rw [hn, List.drop_length]; rfl
  intro d
  induction d with
  | zero =>
    intro n i B c hi hn hd hc hB hBl post
    exact stop n i c hi (by omega) post
  | succ d ih =>
    intro n i B c hi hn hd hc hB hBl post
    rcases Nat.lt_or_ge n r.length with hlt | hge
    · have hx := hr _ (getD_mem (d := 0) hlt)
      refine Ev.step (fun k => spec_countsOf.l0.eq_2 ..) ?_
      simp only [if_pos (show i < (r.length : Int) by omega), if_pos (show 0 ≤ i by omega)]
      rw [rd_nat r n i hi, w64 (x := i + 1) (by omega) (by omega)]
      have hdrop := drop_cons (d := (0 : Int)) hlt
      generalize r.getD n 0 = X at *
      simp only [if_pos hx.1, if_pos (show X < (c.length : Int) by omega)]
      rw [bump_eq hB (by omega) (.inl rfl)]
      refine ih (n + 1) (i + 1) (B + 1) (bump 1 c X) (by omega) (by omega) (by omega) (by rw [bump_length]; exact hc) (hB.bump (by omega) hx.1 (by omega)) (by omega) (fun c' hc' => post c' ?_)
      rw [hc', hdrop]; rfl
    · exact stop n i c hi (by omega) post
theorem flatten_drop {g : List (List Int)} {n : Nat} (h : n < g.length) : (g.drop n).flatten = g.getD n [] ++ (g.drop (n + 1)).flatten := by
  rw [drop_cons (d := []) h, List.flatten_cons]
theorem row_nat (g : List (List Int)) (n : Nat) (i : Int) (h : i = n) : rd_L2 g i = g.getD n [] := by unfold rd_L2; rw [h]; simp
theorem Gr.row_nat {g : List (List Int)} (hg : Gr g) (n : Nat) : (g.getD n []).length ≤ 100 ∧ ∀ y ∈ g.getD n [], 0 ≤ y ∧ y < (g.length : Int) := by
  have h1 := hg.row_len (n : Int)
  have h2 := hg.row_idx (n : Int)
  unfold row at h1 h2
  rw [Int.toNat_natCast] at h1 h2
  exact ⟨h1, h2⟩
theorem spec_countsOf_l1 (g : List (List Int)) (hg : Gr g) :
    ∀ (d n : Nat) (i B : Int) (c : List Int), i = n → n ≤ g.length → g.length - n ≤ d → c.length = g.length → Sm B c → B + 100 * (g.length - n : Int) ≤ 10000000 →
      Ev (fun k => spec_countsOf.l1 k g c i) (bumps 1 c (g.drop n).flatten) := by
  have hgl := hg.len
  have stop : ∀ (n : Nat) (i : Int) (c : List Int), i = n → n = g.length → Ev (fun k => spec_countsOf.l1 k g c i) (bumps 1 c (g.drop n).flatten) := by
    intro n i c hi hn
    refine Ev.step (fun k => spec_countsOf.l1.eq_2 ..) ?_
    simp only [if_neg (show ¬ i < (g.length : Int) by omega)]
    rw [hn, List.drop_length]
    exact Ev.now _
  intro d
  induction d with
  | zero =>
    intro n i B c hi hn hd hc hB hBl
    exact stop n i c hi (by omega)
  | succ d ih =>
    intro n i B c hi hn hd hc hB hBl
    rcases Nat.lt_or_ge n g.length with hlt | hge
    · have hrow := Gr.row_nat hg n
      have l2 : ∀ (e m : Nat) (j B' : Int) (c' : List Int), j = m → m ≤ (g.getD n []).length → (g.getD n []).length - m ≤ e → c'.length = g.length → Sm B' c' → B' ≤ B + m → c' = bumps 1 c ((g.getD n []).take m) →
          Ev (fun k => spec_countsOf.l2 k g c' i j) (bumps 1 c (g.drop n).flatten) := by
        have stop2 : ∀ (m : Nat) (j B' : Int) (c' : List Int), j = m → m = (g.getD n []).length → c'.length = g.length → Sm B' c' → B' ≤ B + m → c' = bumps 1 c ((g.getD n []).take m) → Ev (fun k => spec_countsOf.l2 k g c' i j) (bumps 1 c (g.drop n).flatten) := by
          intro m j B' c' hj hm hc' hB' hBB hcc
          refine Ev.step (fun k => spec_countsOf.l2.eq_2 ..) ?_
          simp only [if_pos (show 0 ≤ i by omega), if_pos (show i < (g.length : Int) by omega), row_nat g n i hi, if_neg (show ¬ j < ((g.getD n []).length : Int) by omega)]
          rw [w64 (x := i + 1) (by omega) (by omega), flatten_drop hlt, bumps_append]
          have h1 := ih (n + 1) (i + 1) B' c' (by omega) (by omega) (by omega) hc' hB' (by omega)
          rw [hcc, hm, List.take_length] at h1
          rw [hcc, hm, List.take_length]
          exact h1
        intro e
        induction e with
        | zero => intro m j B' c' hj hm he hc' hB' hBB hcc; exact stop2 m j B' c' hj (by omega) hc' hB' hBB hcc
        | succ e ihe =>
          intro m j B' c' hj hm he hc' hB' hBB hcc
          rcases Nat.lt_or_ge m (g.getD n []).length with hlt2 | hge2
          · have hx := hrow.2 _ (getD_mem (d := 0) hlt2)
            refine Ev.step (fun k => spec_countsOf.l2.eq_2 ..) ?_
            simp only [if_pos (show 0 ≤ i by omega), if_pos (show i < (g.length : Int) by omega), row_nat g n i hi, if_pos (show j < ((g.getD n []).length : Int) by omega), if_pos (show 0 ≤ j by omega)]
            rw [rd_nat (g.getD n []) m j hj, w64 (x := j + 1) (by omega) (by omega)]
            have htake := take_succ (d := (0 : Int)) hlt2
            generalize (g.getD n []).getD m 0 = X at *
            simp only [if_pos hx.1, if_pos (show X < (c'.length : Int) by omega)]
            rw [bump_eq hB' (by omega) (.inl rfl)]
            refine ihe (m + 1) (j + 1) (B' + 1) (bump 1 c' X) (by omega) (by omega) (by omega) (by rw [bump_length]; exact hc') (hB'.bump (by omega) hx.1 (by omega)) (by omega) ?_
            rw [htake, bumps_append, ← hcc]; rfl
          · exact stop2 m j B' c' hj (by omega) hc' hB' hBB hcc
      refine Ev.step (fun k => spec_countsOf.l1.eq_2 ..) ?_
      simp only [if_pos (show i < (g.length : Int) by omega)]
      exact l2 _ 0 0 B c rfl (Nat.zero_le _) (Nat.le_refl _) hc hB (by omega) rfl
    · exact stop n i c hi (by omega)
theorem spec_countsOf_ev (g : List (List Int)) (hg : Gr g) (r : List Int) (hr : ∀ x ∈ r, 0 ≤ x ∧ x < (g.length : Int)) (hrl : r.length ≤ 2000000) : Ev (fun k => spec_countsOf.f k g r) (counts g r) := by
  have hgl := hg.len
  have h := spec_countsOf_l0 g r hr hrl (counts g r) r.length 0 0 0 (List.replicate g.length 0) rfl (Nat.zero_le _) (by omega) (by simp) (Sm.zeros _) (by omega) (fun c' hc' => by
    rw [List.drop_zero] at hc'
    have h1 := spec_countsOf_l1 g hg g.length 0 0 r.length c' rfl (Nat.zero_le _) (by omega) (by rw [hc', bumps_length]; simp) (by
      rw [hc']
      have := Sm.bumps (e := 1) (by omega) r (Sm.zeros g.length) (by simpa using hr)
      rwa [Int.zero_add] at this) (by omega)
    rw [List.drop_zero, hc', ← bumps_append] at h1
    rw [hc']
    exact h1)
  refine Ev.congr (fun k => ?_) h
  simp only [spec_countsOf.f]
  rw [if_pos (by omega), if_pos (by omega), Int.toNat_natCast]

theorem impl_counts_l0 (g : List (List Int)) (r : List Int) (hr : ∀ x ∈ r, 0 ≤ x ∧ x < (g.length : Int)) (hrl : r.length ≤ 2000000) (res : List Int) :
    ∀ (d n : Nat) (i B : Int) (c : List Int), i = n → n ≤ r.length → r.length - n ≤ d → c.length = g.length → Sm B c → B + r.length - n ≤ 100000000 →
      (∀ c', c' = bumps 1 c (r.drop n) → Ev (fun k => impl_counts.l1 k c' g g.length 0) res) → Ev (fun k => impl_counts.l0 k g c r r.length i) res := by
  have stop : ∀ (n : Nat) (i : Int) (c : List Int), i = n → n = r.length → (∀ c', c' = bumps 1 c (r.drop n) → Ev (fun k => impl_counts.l1 k c' g g.length 0) res) → Ev (fun k => impl_counts.l0 k g c r r.length i) res := by
    intro n i c hi hn post
    refine Ev.step (fun k => impl_counts.l0.eq_2 ..) ?_
    simp only [if_neg (show ¬ i < (r.length : Int) by omega)]
    refine post c ?_
    rw [hn, List.drop_length]; rfl
  intro d
  induction d with
  | zero =>
    intro n i B c hi hn hd hc hB hBl post
    exact stop n i c hi (by omega) post
  | succ d ih =>
    intro n i B c hi hn hd hc hB hBl post
    rcases Nat.lt_or_ge n r.length with hlt | hge
    · have hx := hr _ (getD_mem (d := 0) hlt)
      refine Ev.step (fun k => impl_counts.l0.eq_2 ..) ?_
      simp only [if_pos (show i < (r.length : Int) by omega), if_pos (show 0 ≤ i by omega)]
      rw [rd_nat r n i hi, w64 (x := i + 1) (by omega) (by omega)]
      have hdrop := drop_cons (d := (0 : Int)) hlt
      generalize r.getD n 0 = X at *
      simp only [if_pos hx.1, if_pos (show X < (c.length : Int) by omega)]
      rw [bump_eq hB (by omega) (.inl rfl)]
      refine ih (n + 1) (i + 1) (B + 1) (bump 1 c X) (by omega) (by omega) (by omega) (by rw [bump_length]; exact hc) (hB.bump (by omega) hx.1 (by omega)) (by omega) (fun c' hc' => post c' ?_)
      rw [hc', hdrop]; rfl
    · exact stop n i c hi (by omega) post
theorem impl_counts_l1 (g : List (List Int)) (hg : Gr g) :
    ∀ (d n : Nat) (i B : Int) (c : List Int), i = n → n ≤ g.length → g.length - n ≤ d → c.length = g.length → Sm B c → B + 100 * (g.length - n : Int) ≤ 10000000 →
      Ev (fun k => impl_counts.l1 k c g g.length i) (bumps 1 c (g.drop n).flatten) := by
  have hgl := hg.len
  have stop : ∀ (n : Nat) (i : Int) (c : List Int), i = n → n = g.length → Ev (fun k => impl_counts.l1 k c g g.length i) (bumps 1 c (g.drop n).flatten) := by
    intro n i c hi hn
    refine Ev.step (fun k => impl_counts.l1.eq_2 ..) ?_
    simp only [if_neg (show ¬ i < (g.length : Int) by omega)]
    rw [hn, List.drop_length]
    exact Ev.now _
  intro d
  induction d with
  | zero =>
    intro n i B c hi hn hd hc hB hBl
    exact stop n i c hi (by omega)
  | succ d ih =>
    intro n i B c hi hn hd hc hB hBl
    rcases Nat.lt_or_ge n g.length with hlt | hge
    · have hrow := Gr.row_nat hg n
      have l2 : ∀ (e m : Nat) (j B' : Int) (c' : List Int), j = m → m ≤ (g.getD n []).length → (g.getD n []).length - m ≤ e → c'.length = g.length → Sm B' c' → B' ≤ B + m → c' = bumps 1 c ((g.getD n []).take m) →
          Ev (fun k => impl_counts.l2 k c' g g.length i (g.getD n []) (g.getD n []).length j) (bumps 1 c (g.drop n).flatten) := by
        have stop2 : ∀ (m : Nat) (j B' : Int) (c' : List Int), j = m → m = (g.getD n []).length → c'.length = g.length → Sm B' c' → B' ≤ B + m → c' = bumps 1 c ((g.getD n []).take m) → Ev (fun k => impl_counts.l2 k c' g g.length i (g.getD n []) (g.getD n []).length j) (bumps 1 c (g.drop n).flatten) := by
          intro m j B' c' hj hm hc' hB' hBB hcc
          refine Ev.step (fun k => impl_counts.l2.eq_2 ..) ?_
          simp only [if_neg (show ¬ j < ((g.getD n []).length : Int) by omega)]
          rw [w64 (x := i + 1) (by omega) (by omega), flatten_drop hlt, bumps_append]
          have h1 := ih (n + 1) (i + 1) B' c' (by omega) (by omega) (by omega) hc' hB' (by omega)
          rw [hcc, hm, List.take_length] at h1
          rw [hcc, hm, List.take_length]
          exact h1
        intro e
        induction e with
        | zero => intro m j B' c' hj hm he hc' hB' hBB hcc; exact stop2 m j B' c' hj (by omega) hc' hB' hBB hcc
        | succ e ihe =>
          intro m j B' c' hj hm he hc' hB' hBB hcc
          rcases Nat.lt_or_ge m (g.getD n []).length with hlt2 | hge2
          · have hx := hrow.2 _ (getD_mem (d := 0) hlt2)
            refine Ev.step (fun k => impl_counts.l2.eq_2 ..) ?_
            simp only [if_pos (show j < ((g.getD n []).length : Int) by omega), if_pos (show 0 ≤ j by omega)]
            rw [rd_nat (g.getD n []) m j hj, w64 (x := j + 1) (by omega) (by omega)]
            have htake := take_succ (d := (0 : Int)) hlt2
            generalize (g.getD n []).getD m 0 = X at *
            simp only [if_pos hx.1, if_pos (show X < (c'.length : Int) by omega)]
            rw [bump_eq hB' (by omega) (.inl rfl)]
            refine ihe (m + 1) (j + 1) (B' + 1) (bump 1 c' X) (by omega) (by omega) (by omega) (by rw [bump_length]; exact hc') (hB'.bump (by omega) hx.1 (by omega)) (by omega) ?_
            rw [htake, bumps_append, ← hcc]; rfl
          · exact stop2 m j B' c' hj (by omega) hc' hB' hBB hcc
      refine Ev.step (fun k => impl_counts.l1.eq_2 ..) ?_
      simp only [if_pos (show i < (g.length : Int) by omega), if_pos (show 0 ≤ i by omega), row_nat g n i hi]
      exact l2 _ 0 0 B c rfl (Nat.zero_le _) (Nat.le_refl _) hc hB (by omega) rfl
    · exact stop n i c hi (by omega)
theorem impl_counts_ev (g : List (List Int)) (hg : Gr g) (r : List Int) (hr : ∀ x ∈ r, 0 ≤ x ∧ x < (g.length : Int)) (hrl : r.length ≤ 2000000) : Ev (fun k => impl_counts.f k g r) (counts g r) := by
  have hgl := hg.len
  have h := impl_counts_l0 g r hr hrl (counts g r) r.length 0 0 0 (List.replicate g.length 0) rfl (Nat.zero_le _) (by omega) (by simp) (Sm.zeros _) (by omega) (fun c' hc' => by
    rw [List.drop_zero] at hc'
    have h1 := impl_counts_l1 g hg g.length 0 0 r.length c' rfl (Nat.zero_le _) (by omega) (by rw [hc', bumps_length]; simp) (by
      rw [hc']
      have := Sm.bumps (e := 1) (by omega) r (Sm.zeros g.length) (by simpa using hr)
      rwa [Int.zero_add] at this) (by omega)
    rw [List.drop_zero, hc', ← bumps_append] at h1
    rw [hc']
    exact h1)
  refine Ev.congr (fun k => ?_) h
  simp only [impl_counts.f]
  rw [if_pos (by omega), if_pos (by omega), Int.toNat_natCast]
theorem counts_Sm {g : List (List Int)} {r : List Int} (hg : Gr g) (hr : ∀ x ∈ r, 0 ≤ x ∧ x < (g.length : Int)) (hrl : r.length ≤ 2000000) : Sm 100000000 (counts g r) := by
  intro i
  rw [counts_getD hg hr]
  have h1 : (refs g r).count (i : Int) ≤ (refs g r).length := List.count_le_length
  have h2 : ∀ (l : List (List Int)), (∀ r ∈ l, r.length ≤ 100) → l.flatten.length ≤ 100 * l.length := by
    intro l
    induction l with
    | nil => intro _; simp
    | cons x l ih =>
      intro h
      have := ih (fun r hr => h r (List.mem_cons_of_mem _ hr))
      have := h x List.mem_cons_self
      rw [List.flatten_cons, List.length_append, List.length_cons]; omega
  have h3 := h2 g (fun r hr => by
    obtain ⟨n, hn, e⟩ := mem_getD (d := []) hr
    have := (Gr.row_nat hg n).1
    rwa [e] at this)
  have h4 : (refs g r).length = r.length + g.flatten.length := by simp [refs]
  have := hg.len
  omega
end Go.Proofs.Ytckninkpjdcfbaa.GE
