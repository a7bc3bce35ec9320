/- What the program's sums and differences of magnitudes come to, and the reference's. -/
import Derived.Test.YtccdaiagameobaaIntEv2a
import Derived.Test.YtccdaiagameobaaQ6
import Derived.Test.YtccdaiagameobaaQ14
set_option linter.unusedSimpArgs false
set_option linter.unusedVariables false
namespace Go.Proofs.Ytccdaiagameobaa.IE
open Go.RowKit Go.Proofs.Ytccdaiagameobaa.Q Go.Proofs.YtccdaiagameobaaW.PrintWords Go.Proofs.IM
theorem spec_plusDigits_l0 (a b : List Int) (ha : Dig a) (hb : Dig b) (M : Nat) (hla : a.length ≤ M) (hlb : b.length ≤ M) (hM : M ≤ 100000) :
    ∀ (d n : Nat) (i c : Int) (out : List Int), i = n → out.length = n → 0 ≤ c → c ≤ 1 → n ≤ M + 1 → (n = M + 1 → c = 0) → M + 1 - n ≤ d →
      ∃ R, Dig R ∧ R.length + n ≤ M + 1 ∧ val R = val (a.drop n) + val (b.drop n) + c ∧ Ev (fun k => spec_plusDigits.l0 k a b out c i) (trim (out ++ R)) := by
  have stop : ∀ (n : Nat) (i : Int) (out : List Int), i = n → out.length = n → n ≤ M + 1 → a.length ≤ n → b.length ≤ n → Ev (fun k => spec_plusDigits.l0 k a b out 0 i) (trim out) := by
    intro n i out hi ho hn hna hnb
    refine Ev.step (fun k => spec_plusDigits.l0.eq_2 ..) ?_
    have e1 : ¬ i < (a.length : Int) := by omega
    have e2 : ¬ i < (b.length : Int) := by omega
    simp only [if_neg e1, if_neg e2]
    refine Ev.step (fun k => spec_plusDigits.j1.eq_2 ..) ?_
    have e3 : ¬ decide ((0 : Int) > 0) = true := by decide
    simp only [if_neg e3]
    exact Ev.bind (spec_trimmed_ev out (by omega)) (Ev.now _)
  intro d
  induction d with
  | zero =>
    intro n i c out hi ho h0 h1 hn hc hd
    have hc0 : c = 0 := hc (by omega)
    subst hc0
    refine ⟨[], Dig.nil, by simp; omega, by rw [val_drop_ge (by omega), val_drop_ge (by omega)]; rfl, ?_⟩
    rw [List.append_nil]
    exact stop n i out hi ho hn (by omega) (by omega)
  | succ d ih =>
    intro n i c out hi ho h0 h1 hn hc hd
    have hlo : out.length < 17592186044416 := by omega
    have hga := ha.getD n
    have hgb := hb.getD n
    have k1 : 0 ≤ i := by omega
    have next : ∀ s : Int, 0 ≤ s → s ≤ 19 → n ≤ M → (n = M → s / 10 = 0) → ∃ R, Dig (s % 10 :: R) ∧ (s % 10 :: R).length + n ≤ M + 1 ∧ val R = val (a.drop (n + 1)) + val (b.drop (n + 1)) + s / 10 ∧ Ev (fun k => spec_plusDigits.l0 k a b (out ++ [s % 10]) (s / 10) (i + 1)) (trim (out ++ (s % 10 :: R))) := by
      intro s s0 s19 hnM hnz
      obtain ⟨R, hR, hll, hv, he⟩ := ih (n + 1) (i + 1) (s / 10) (out ++ [s % 10]) (by omega) (by simp; omega) (by omega) (by omega) (by omega) (fun h => hnz (by omega)) (by omega)
      rw [List.append_assoc] at he
      exact ⟨R, Dig.cons (by omega) (by omega) hR, by simp; omega, hv, he⟩
    by_cases ea : n < a.length
    · have ea' : i < (a.length : Int) := by omega
      by_cases eb : n < b.length
      · have eb' : i < (b.length : Int) := by omega
        obtain ⟨R, hR, hll, hv, he⟩ := next (c + a.getD n 0 + b.getD n 0) (by omega) (by omega) (by omega) (by omega)
        refine ⟨_, hR, hll, by rw [val_drop_lt ea, val_drop_lt eb, val, hv]; omega, ?_⟩
        refine Ev.step (fun k => spec_plusDigits.l0.eq_2 ..) ?_
        simp only [if_pos ea']
        refine Ev.step (fun k => spec_plusDigits.j1.eq_2 ..) ?_
        simp only [if_true, if_pos ea', if_pos eb', if_pos k1, if_pos hlo]
        rw [rd_nat a n i hi, rd_nat b n i hi, w64 (x := c + a.getD n 0) (by omega) (by omega), w64 (x := c + a.getD n 0 + b.getD n 0) (by omega) (by omega), tmod10 (by omega), tdiv10 (by omega), w64 (x := i + 1) (by omega) (by omega), w64 (x := (c + a.getD n 0 + b.getD n 0) / 10) (by omega) (by omega)]
        exact he
      · have eb' : ¬ i < (b.length : Int) := by omega
        obtain ⟨R, hR, hll, hv, he⟩ := next (c + a.getD n 0) (by omega) (by omega) (by omega) (by omega)
        refine ⟨_, hR, hll, by rw [val_drop_lt ea, val_drop_ge (l := b) (n := n) (by omega), val, hv, val_drop_ge (l := b) (n := n + 1) (by omega)]; omega, ?_⟩
        refine Ev.step (fun k => spec_plusDigits.l0.eq_2 ..) ?_
        simp only [if_pos ea']
        refine Ev.step (fun k => spec_plusDigits.j1.eq_2 ..) ?_
        simp only [if_true, if_pos ea', if_neg eb', if_pos k1, if_pos hlo]
        rw [rd_nat a n i hi, w64 (x := c + a.getD n 0) (by omega) (by omega), tmod10 (by omega), tdiv10 (by omega), w64 (x := i + 1) (by omega) (by omega), w64 (x := (c + a.getD n 0) / 10) (by omega) (by omega)]
        exact he
    · have ea' : ¬ i < (a.length : Int) := by omega
      by_cases eb : n < b.length
      · have eb' : i < (b.length : Int) := by omega
        obtain ⟨R, hR, hll, hv, he⟩ := next (c + b.getD n 0) (by omega) (by omega) (by omega) (by omega)
        refine ⟨_, hR, hll, by rw [val_drop_lt eb, val_drop_ge (l := a) (n := n) (by omega), val, hv, val_drop_ge (l := a) (n := n + 1) (by omega)]; omega, ?_⟩
        refine Ev.step (fun k => spec_plusDigits.l0.eq_2 ..) ?_
        simp only [if_neg ea', if_pos eb']
        refine Ev.step (fun k => spec_plusDigits.j1.eq_2 ..) ?_
        simp only [if_true, if_neg ea', if_pos eb', if_pos k1, if_pos hlo]
        rw [rd_nat b n i hi, w64 (x := c + b.getD n 0) (by omega) (by omega), tmod10 (by omega), tdiv10 (by omega), w64 (x := i + 1) (by omega) (by omega), w64 (x := (c + b.getD n 0) / 10) (by omega) (by omega)]
        exact he
      · have eb' : ¬ i < (b.length : Int) := by omega
        by_cases ec : c > 0
        · obtain ⟨R, hR, hll, hv, he⟩ := next c (by omega) (by omega) (by omega) (by omega)
          refine ⟨_, hR, hll, by rw [val_drop_ge (l := a) (n := n) (by omega), val, hv, val_drop_ge (l := a) (n := n + 1) (by omega), val_drop_ge (l := b) (n := n + 1) (by omega), val_drop_ge (l := b) (n := n) (by omega)]; omega, ?_⟩
          refine Ev.step (fun k => spec_plusDigits.l0.eq_2 ..) ?_
          simp only [if_neg ea', if_neg eb']
          refine Ev.step (fun k => spec_plusDigits.j1.eq_2 ..) ?_
          have ec' : decide (c > 0) = true := by simpa using ec
          simp only [if_pos ec', if_neg ea', if_neg eb', if_pos hlo]
          rw [tmod10 (by omega), tdiv10 (by omega), w64 (x := i + 1) (by omega) (by omega), w64 (x := c / 10) (by omega) (by omega)]
          exact he
        · have hc0 : c = 0 := by omega
          subst hc0
          refine ⟨[], Dig.nil, by simp; omega, by rw [val_drop_ge (by omega), val_drop_ge (by omega)]; rfl, ?_⟩
          rw [List.append_nil]
          exact stop n i out hi ho hn (by omega) (by omega)

theorem impl_magAdd_l0 (a b : List Int) (ha : Dig a) (hb : Dig b) (M : Nat) (hla : a.length ≤ M) (hlb : b.length ≤ M) (hM : M ≤ 100000) :
    ∀ (d n : Nat) (i c : Int) (out : List Int), i = n → out.length = n → 0 ≤ c → c ≤ 1 → n ≤ M + 1 → (n = M + 1 → c = 0) → M + 1 - n ≤ d →
      ∃ R, Dig R ∧ R.length + n ≤ M + 1 ∧ val R = val (a.drop n) + val (b.drop n) + c ∧ Ev (fun k => impl_magAdd.l0 k a b out c i) ((out ++ R)) := by
  have stop : ∀ (n : Nat) (i : Int) (out : List Int), i = n → out.length = n → n ≤ M + 1 → a.length ≤ n → b.length ≤ n → Ev (fun k => impl_magAdd.l0 k a b out 0 i) out := by
    intro n i out hi ho hn hna hnb
    refine Ev.step (fun k => impl_magAdd.l0.eq_2 ..) ?_
    have e1 : ¬ i < (a.length : Int) := by omega
    have e2 : ¬ i < (b.length : Int) := by omega
    simp only [if_neg e1, if_neg e2]
    refine Ev.step (fun k => impl_magAdd.j1.eq_2 ..) ?_
    have e3 : ¬ decide ((0 : Int) > 0) = true := by decide
    simp only [if_neg e3]
    exact Ev.now _
  intro d
  induction d with
  | zero =>
    intro n i c out hi ho h0 h1 hn hc hd
    have hc0 : c = 0 := hc (by omega)
    subst hc0
    refine ⟨[], Dig.nil, by simp; omega, by rw [val_drop_ge (by omega), val_drop_ge (by omega)]; rfl, ?_⟩
    rw [List.append_nil]
    exact stop n i out hi ho hn (by omega) (by omega)
  | succ d ih =>
    intro n i c out hi ho h0 h1 hn hc hd
    have hlo : out.length < 17592186044416 := by omega
    have hga := ha.getD n
    have hgb := hb.getD n
    have k1 : 0 ≤ i := by omega
    have next : ∀ s : Int, 0 ≤ s → s ≤ 19 → n ≤ M → (n = M → s / 10 = 0) → ∃ R, Dig (s % 10 :: R) ∧ (s % 10 :: R).length + n ≤ M + 1 ∧ val R = val (a.drop (n + 1)) + val (b.drop (n + 1)) + s / 10 ∧ Ev (fun k => impl_magAdd.l0 k a b (out ++ [s % 10]) (s / 10) (i + 1)) ((out ++ (s % 10 :: R))) := by
      intro s s0 s19 hnM hnz
      obtain ⟨R, hR, hll, hv, he⟩ := ih (n + 1) (i + 1) (s / 10) (out ++ [s % 10]) (by omega) (by simp; omega) (by omega) (by omega) (by omega) (fun h => hnz (by omega)) (by omega)
      rw [List.append_assoc] at he
      exact ⟨R, Dig.cons (by omega) (by omega) hR, by simp; omega, hv, he⟩
    by_cases ea : n < a.length
    · have ea' : i < (a.length : Int) := by omega
      by_cases eb : n < b.length
      · have eb' : i < (b.length : Int) := by omega
        obtain ⟨R, hR, hll, hv, he⟩ := next (c + a.getD n 0 + b.getD n 0) (by omega) (by omega) (by omega) (by omega)
        refine ⟨_, hR, hll, by rw [val_drop_lt ea, val_drop_lt eb, val, hv]; omega, ?_⟩
        refine Ev.step (fun k => impl_magAdd.l0.eq_2 ..) ?_
        simp only [if_pos ea']
        refine Ev.step (fun k => impl_magAdd.j1.eq_2 ..) ?_
        simp only [if_true, if_pos ea', if_pos eb', if_pos k1, if_pos hlo]
        rw [rd_nat a n i hi, rd_nat b n i hi, w64 (x := c + a.getD n 0) (by omega) (by omega), w64 (x := c + a.getD n 0 + b.getD n 0) (by omega) (by omega), tmod10 (by omega), tdiv10 (by omega), w64 (x := i + 1) (by omega) (by omega), w64 (x := (c + a.getD n 0 + b.getD n 0) / 10) (by omega) (by omega)]
        exact he
      · have eb' : ¬ i < (b.length : Int) := by omega
        obtain ⟨R, hR, hll, hv, he⟩ := next (c + a.getD n 0) (by omega) (by omega) (by omega) (by omega)
        refine ⟨_, hR, hll, by rw [val_drop_lt ea, val_drop_ge (l := b) (n := n) (by omega), val, hv, val_drop_ge (l := b) (n := n + 1) (by omega)]; omega, ?_⟩
        refine Ev.step (fun k => impl_magAdd.l0.eq_2 ..) ?_
        simp only [if_pos ea']
        refine Ev.step (fun k => impl_magAdd.j1.eq_2 ..) ?_
        simp only [if_true, if_pos ea', if_neg eb', if_pos k1, if_pos hlo]
        rw [rd_nat a n i hi, w64 (x := c + a.getD n 0) (by omega) (by omega), tmod10 (by omega), tdiv10 (by omega), w64 (x := i + 1) (by omega) (by omega), w64 (x := (c + a.getD n 0) / 10) (by omega) (by omega)]
        exact he
    · have ea' : ¬ i < (a.length : Int) := by omega
      by_cases eb : n < b.length
      · have eb' : i < (b.length : Int) := by omega
        obtain ⟨R, hR, hll, hv, he⟩ := next (c + b.getD n 0) (by omega) (by omega) (by omega) (by omega)
        refine ⟨_, hR, hll, by rw [val_drop_lt eb, val_drop_ge (l := a) (n := n) (by omega), val, hv, val_drop_ge (l := a) (n := n + 1) (by omega)]; omega, ?_⟩
        refine Ev.step (fun k => impl_magAdd.l0.eq_2 ..) ?_
        simp only [if_neg ea', if_pos eb']
        refine Ev.step (fun k => impl_magAdd.j1.eq_2 ..) ?_
        simp only [if_true, if_neg ea', if_pos eb', if_pos k1, if_pos hlo]
        rw [rd_nat b n i hi, w64 (x := c + b.getD n 0) (by omega) (by omega), tmod10 (by omega), tdiv10 (by omega), w64 (x := i + 1) (by omega) (by omega), w64 (x := (c + b.getD n 0) / 10) (by omega) (by omega)]
        exact he
      · have eb' : ¬ i < (b.length : Int) := by omega
        by_cases ec : c > 0
        · obtain ⟨R, hR, hll, hv, he⟩ := next c (by omega) (by omega) (by omega) (by omega)
          refine ⟨_, hR, hll, by rw [val_drop_ge (l := a) (n := n) (by omega), val, hv, val_drop_ge (l := a) (n := n + 1) (by omega), val_drop_ge (l := b) (n := n + 1) (by omega), val_drop_ge (l := b) (n := n) (by omega)]; omega, ?_⟩
          refine Ev.step (fun k => impl_magAdd.l0.eq_2 ..) ?_
          simp only [if_neg ea', if_neg eb']
          refine Ev.step (fun k => impl_magAdd.j1.eq_2 ..) ?_
          have ec' : decide (c > 0) = true := by simpa using ec
          simp only [if_pos ec', if_neg ea', if_neg eb', if_pos hlo]
          rw [tmod10 (by omega), tdiv10 (by omega), w64 (x := i + 1) (by omega) (by omega), w64 (x := c / 10) (by omega) (by omega)]
          exact he
        · have hc0 : c = 0 := by omega
          subst hc0
          refine ⟨[], Dig.nil, by simp; omega, by rw [val_drop_ge (by omega), val_drop_ge (by omega)]; rfl, ?_⟩
          rw [List.append_nil]
          exact stop n i out hi ho hn (by omega) (by omega)

theorem spec_less_l0 (a b : List Int) (ha : Dig a) (hb : Dig b) (hM : a.length ≤ 100000) :
    ∀ (d n : Nat) (i c : Int) (out : List Int), i = n → out.length = n → 0 ≤ c → c ≤ 1 → n ≤ a.length → val (b.drop n) + c ≤ val (a.drop n) → a.length - n ≤ d →
      ∃ R, Dig R ∧ val R = val (a.drop n) - val (b.drop n) - c ∧ Ev (fun k => spec_lessDigits.l0 k a b out c i) (trim (out ++ R)) := by
  intro d
  induction d with
  | zero =>
    intro n i c out hi ho h0 h1 hn hle hd
    have hb0 := (hb.drop n).nonneg
    rw [val_drop_ge (l := a) (n := n) (by omega)] at *
    refine ⟨[], Dig.nil, by simp only [val]; omega, ?_⟩
    refine Ev.step (fun k => spec_lessDigits.l0.eq_2 ..) ?_
    have e1 : ¬ i < (a.length : Int) := by omega
    simp only [if_neg e1]
    rw [List.append_nil]
    exact Ev.bind (spec_trimmed_ev out (by omega)) (Ev.now _)
  | succ d ih =>
    intro n i c out hi ho h0 h1 hn hle hd
    have hlo : out.length < 17592186044416 := by omega
    have hga := ha.getD n
    have hgb := hb.getD n
    have k1 : 0 ≤ i := by omega
    by_cases ea : n < a.length
    · have ea' : i < (a.length : Int) := by omega
      have hda := val_drop_lt ea
      have next : ∀ s c' : Int, 0 ≤ s → s ≤ 9 → 0 ≤ c' → c' ≤ 1 → val (b.drop (n + 1)) + c' ≤ val (a.drop (n + 1)) → ∃ R, Dig (s :: R) ∧ val R = val (a.drop (n + 1)) - val (b.drop (n + 1)) - c' ∧ Ev (fun k => spec_lessDigits.l0 k a b (out ++ [s]) c' (i + 1)) (trim (out ++ (s :: R))) := by
        intro s c' s0 s9 c0 c1 hle'
        obtain ⟨R, hR, hv, he⟩ := ih (n + 1) (i + 1) c' (out ++ [s]) (by omega) (by simp; omega) c0 c1 (by omega) hle' (by omega)
        rw [List.append_assoc] at he
        exact ⟨R, Dig.cons s0 s9 hR, hv, he⟩
      by_cases eb : n < b.length
      · have eb' : i < (b.length : Int) := by omega
        have hdb := val_drop_lt eb
        by_cases es : a.getD n 0 - c - b.getD n 0 < 0
        · obtain ⟨R, hR, hv, he⟩ := next (a.getD n 0 - c - b.getD n 0 + 10) 1 (by omega) (by omega) (by omega) (by omega) (by omega)
          refine ⟨_, hR, by rw [val, hv]; omega, ?_⟩
          refine Ev.step (fun k => spec_lessDigits.l0.eq_2 ..) ?_
          rw [rd_nat a n i hi, rd_nat b n i hi, w64 (x := a.getD n 0 - c) (by omega) (by omega), w64 (x := a.getD n 0 - c - b.getD n 0) (by omega) (by omega), w64 (x := a.getD n 0 - c - b.getD n 0 + 10) (by omega) (by omega), w64 (x := i + 1) (by omega) (by omega)]
          simp only [if_pos ea', if_pos eb', if_pos k1, if_pos hlo, if_pos es]
          exact he
        · obtain ⟨R, hR, hv, he⟩ := next (a.getD n 0 - c - b.getD n 0) 0 (by omega) (by omega) (by omega) (by omega) (by omega)
          refine ⟨_, hR, by rw [val, hv]; omega, ?_⟩
          refine Ev.step (fun k => spec_lessDigits.l0.eq_2 ..) ?_
          rw [rd_nat a n i hi, rd_nat b n i hi, w64 (x := a.getD n 0 - c) (by omega) (by omega), w64 (x := a.getD n 0 - c - b.getD n 0) (by omega) (by omega), w64 (x := i + 1) (by omega) (by omega)]
          simp only [if_pos ea', if_pos eb', if_pos k1, if_pos hlo, if_neg es]
          exact he
      · have eb' : ¬ i < (b.length : Int) := by omega
        have hdb := val_drop_ge (l := b) (n := n) (by omega)
        have hdb' := val_drop_ge (l := b) (n := n + 1) (by omega)
        by_cases es : a.getD n 0 - c < 0
        · obtain ⟨R, hR, hv, he⟩ := next (a.getD n 0 - c + 10) 1 (by omega) (by omega) (by omega) (by omega) (by omega)
          refine ⟨_, hR, by rw [val, hv]; omega, ?_⟩
          refine Ev.step (fun k => spec_lessDigits.l0.eq_2 ..) ?_
          rw [rd_nat a n i hi, w64 (x := a.getD n 0 - c) (by omega) (by omega), w64 (x := a.getD n 0 - c + 10) (by omega) (by omega), w64 (x := i + 1) (by omega) (by omega)]
          simp only [if_pos ea', if_neg eb', if_pos k1, if_pos hlo, if_pos es]
          exact he
        · obtain ⟨R, hR, hv, he⟩ := next (a.getD n 0 - c) 0 (by omega) (by omega) (by omega) (by omega) (by omega)
          refine ⟨_, hR, by rw [val, hv]; omega, ?_⟩
          refine Ev.step (fun k => spec_lessDigits.l0.eq_2 ..) ?_
          rw [rd_nat a n i hi, w64 (x := a.getD n 0 - c) (by omega) (by omega), w64 (x := i + 1) (by omega) (by omega)]
          simp only [if_pos ea', if_neg eb', if_pos k1, if_pos hlo, if_neg es]
          exact he
    · have hb0 := (hb.drop n).nonneg
      rw [val_drop_ge (l := a) (n := n) (by omega)] at *
      refine ⟨[], Dig.nil, by simp only [val]; omega, ?_⟩
      refine Ev.step (fun k => spec_lessDigits.l0.eq_2 ..) ?_
      have e1 : ¬ i < (a.length : Int) := by omega
      simp only [if_neg e1]
      rw [List.append_nil]
      exact Ev.bind (spec_trimmed_ev out (by omega)) (Ev.now _)

/-- The program's: in place; S what is left, its first cell perhaps borrowed from. -/
theorem impl_magSub_l0 (b : List Int) (hb : Dig b) (L : Nat) (hL : L ≤ 100000) :
    ∀ (S P : List Int) (i m : Int), i = P.length → m = L → P.length + S.length = L → -1 ≤ S.headD 0 → S.headD 0 ≤ 9 → Dig S.tail → val (b.drop P.length) ≤ val S →
      ∃ R, Dig R ∧ val R = val S - val (b.drop P.length) ∧ Ev (fun k => impl_magSub.l0 k b (P ++ S) m i) (trim (P ++ R)) := by
  intro S
  induction hS : S.length generalizing S with
  | zero =>
    intro P i m hi hm hl hs0 hs9 hd hle
    obtain rfl := List.length_eq_zero_iff.1 hS
    have hb0 := (hb.drop P.length).nonneg
    simp only [val] at hle
    refine ⟨[], Dig.nil, by simp only [val]; omega, ?_⟩
    refine Ev.step (fun k => impl_magSub.l0.eq_2 ..) ?_
    have e1 : ¬ i < m := by simp at hl; omega
    simp only [if_neg e1]
    refine Ev.bind (impl_trimmed_ev _ (by simp; simp at hl; omega)) (Ev.now _)
  | succ j ih =>
    intro P i m hi hm hl hs0 hs9 hd hle
    obtain ⟨s, T, rfl⟩ : ∃ s T, S = s :: T := by cases S with | nil => simp at hS | cons s T => exact ⟨s, T, rfl⟩
    simp only [List.headD_cons, List.tail_cons] at hs0 hs9 hd
    simp only [List.length_cons] at hl hS
    have hgb := hb.getD P.length
    have k1 : 0 ≤ i := by omega
    have k2 : i < m := by omega
    have k3 : i < ((P ++ s :: T).length : Int) := by simp; omega
    have hrd' : ∀ x (T' : List Int), rd (P ++ x :: T') i = x := by intro x T'; rw [rd_nat _ P.length i hi, getD_append_len]
    have hrd : rd (P ++ s :: T) i = s := hrd' s T
    have hset : ∀ y, (P ++ s :: T).set i.toNat y = P ++ y :: T := by intro y; rw [show i.toNat = P.length by omega, set_append_len]
    have keep : ∀ t : Int, 0 ≤ t → t ≤ 9 → val (b.drop (P.length + 1)) ≤ val T → ∃ R, Dig (t :: R) ∧ val R = val T - val (b.drop (P.length + 1)) ∧ Ev (fun k => impl_magSub.l0 k b (P ++ t :: T) m (i + 1)) (trim (P ++ (t :: R))) := by
      intro t t0 t9 hle'
      have hh : -1 ≤ T.headD 0 ∧ T.headD 0 ≤ 9 ∧ Dig T.tail := by
        cases T with
        | nil => simp; exact Dig.nil
        | cons x xs => simp; exact ⟨by have := hd.head; omega, hd.head.2, hd.tail⟩
      obtain ⟨R, hR, hv, he⟩ := ih T (by omega) (P ++ [t]) (i + 1) m (by simp; omega) hm (by simp; omega) hh.1 hh.2.1 hh.2.2 (by simpa using hle')
      rw [List.append_assoc, List.append_assoc] at he
      rw [List.length_append, List.length_singleton] at hv
      exact ⟨R, Dig.cons t0 t9 hR, hv, he⟩
    have borrow : ∀ t : Int, 0 ≤ t → t ≤ 9 → val (b.drop (P.length + 1)) + 1 ≤ val T → ∃ y U, T = y :: U ∧ ∃ R, Dig (t :: R) ∧ val R = val T - 1 - val (b.drop (P.length + 1)) ∧ Ev (fun k => impl_magSub.l0 k b (P ++ t :: (y - 1) :: U) m (i + 1)) (trim (P ++ (t :: R))) := by
      intro t t0 t9 hle'
      have hb1 := (hb.drop (P.length + 1)).nonneg
      cases T with
      | nil => simp only [val] at hle'; omega
      | cons y U =>
        have hy := hd.head
        simp only [val] at hle'
        obtain ⟨R, hR, hv, he⟩ := ih ((y - 1) :: U) (by simpa using hS) (P ++ [t]) (i + 1) m (by simp; omega) hm (by simp at hl ⊢; omega) (by simp; omega) (by simp; omega) (by simpa using hd.tail) (by simp only [val, List.length_append, List.length_singleton]; omega)
        rw [List.append_assoc, List.append_assoc] at he
        rw [List.length_append, List.length_singleton] at hv
        simp only [val] at hv ⊢
        exact ⟨y, U, rfl, R, Dig.cons t0 t9 hR, by omega, he⟩
    by_cases eb : P.length < b.length
    · have eb' : i < (b.length : Int) := by omega
      have hdb := val_drop_lt eb
      simp only [val] at hle ⊢
      have hrb : rd b i = b.getD P.length 0 := rd_nat b P.length i hi
      by_cases es : s - b.getD P.length 0 < 0
      · obtain ⟨y, U, rfl, R, hR, hv, he⟩ := borrow (s - b.getD P.length 0 + 10) (by omega) (by omega) (by omega)
        refine ⟨_, hR, by rw [val, hv]; omega, ?_⟩
        refine Ev.step (fun k => impl_magSub.l0.eq_2 ..) ?_
        have k4 : i + 1 < ((P ++ s :: y :: U).length : Int) := by simp only [List.length_append, List.length_cons] at hl ⊢; omega
        have k5 : 0 ≤ i + 1 := by omega
        rw [hrd, hrb, w64 (x := s - b.getD P.length 0) (by omega) (by omega), w64 (x := i + 1) (by omega) (by omega)]
        simp only [if_pos k1, if_pos k2, if_pos k3, if_pos eb', Option.bind_some, hset, hrd']
        rw [w64 (x := s - b.getD P.length 0 + 10) (by omega) (by omega)]
        simp only [if_pos es, if_pos k4, if_pos k5]
        have hset2 : ∀ x z, (P ++ x :: y :: U).set i.toNat z = P ++ z :: y :: U := by intro x z; rw [show i.toNat = P.length by omega, set_append_len]
        have hset3 : ∀ x z, (P ++ x :: y :: U).set (i + 1).toNat z = P ++ x :: z :: U := by intro x z; rw [show (i + 1).toNat = P.length + 1 by omega, set_append_len1]
        have hrd3 : ∀ x, rd (P ++ x :: y :: U) (i + 1) = y := by intro x; rw [rd_nat _ (P.length + 1) (i + 1) (by omega), getD_append_len1]
        have hy := hd.head
        simp only [hset2, hrd3, hset3]
        rw [w64 (x := y - 1) (by omega) (by omega)]
        exact he
      · obtain ⟨R, hR, hv, he⟩ := keep (s - b.getD P.length 0) (by omega) (by omega) (by omega)
        refine ⟨_, hR, by rw [val, hv]; omega, ?_⟩
        refine Ev.step (fun k => impl_magSub.l0.eq_2 ..) ?_
        rw [hrd, hrb, w64 (x := s - b.getD P.length 0) (by omega) (by omega), w64 (x := i + 1) (by omega) (by omega)]
        simp only [if_pos k1, if_pos k2, if_pos k3, if_pos eb', Option.bind_some, hset, hrd', if_neg es]
        exact he
    · have eb' : ¬ i < (b.length : Int) := by omega
      have hdb := val_drop_ge (l := b) (n := P.length) (by omega)
      have hdb' := val_drop_ge (l := b) (n := P.length + 1) (by omega)
      simp only [val] at hle ⊢
      by_cases es : s < 0
      · obtain ⟨y, U, rfl, R, hR, hv, he⟩ := borrow (s + 10) (by omega) (by omega) (by omega)
        refine ⟨_, hR, by rw [val, hv]; omega, ?_⟩
        refine Ev.step (fun k => impl_magSub.l0.eq_2 ..) ?_
        have k4 : i + 1 < ((P ++ s :: y :: U).length : Int) := by simp only [List.length_append, List.length_cons] at hl ⊢; omega
        have k5 : 0 ≤ i + 1 := by omega
        rw [hrd, w64 (x := s + 10) (by omega) (by omega), w64 (x := i + 1) (by omega) (by omega)]
        simp only [if_pos k1, if_pos k2, if_pos k3, if_neg eb', Option.bind_some, if_pos es, if_pos k4, if_pos k5, hset]
        have hset3 : ∀ x z, (P ++ x :: y :: U).set (i + 1).toNat z = P ++ x :: z :: U := by intro x z; rw [show (i + 1).toNat = P.length + 1 by omega, set_append_len1]
        have hrd3 : ∀ x, rd (P ++ x :: y :: U) (i + 1) = y := by intro x; rw [rd_nat _ (P.length + 1) (i + 1) (by omega), getD_append_len1]
        have hy := hd.head
        simp only [hrd3, hset3]
        rw [w64 (x := y - 1) (by omega) (by omega)]
        exact he
      · obtain ⟨R, hR, hv, he⟩ := keep s (by omega) (by omega) (by omega)
        refine ⟨_, hR, by rw [val, hv]; omega, ?_⟩
        refine Ev.step (fun k => impl_magSub.l0.eq_2 ..) ?_
        rw [hrd, w64 (x := i + 1) (by omega) (by omega)]
        simp only [if_pos k1, if_pos k2, if_pos k3, if_neg eb', if_neg es]
        exact he

theorem spec_plus_ev (a b : Nat) (ha : (dig a).length ≤ 50000) (hb : (dig b).length ≤ 50000) : Ev (fun k => spec_plusDigits.f k (dig a) (dig b)) (dig (a + b)) := by
  obtain ⟨R, hR, _, hv, he⟩ := spec_plusDigits_l0 (dig a) (dig b) (dig_Dig a) (dig_Dig b) (max (dig a).length (dig b).length) (Nat.le_max_left _ _) (Nat.le_max_right _ _) (by omega) _ 0 0 0 [] rfl rfl (by omega) (by omega) (by omega) (by omega) (Nat.le_refl _)
  rw [List.nil_append, trim_eq hR, hv] at he
  simp only [List.drop_zero, val_dig, Int.add_zero] at he
  rw [show ((a : Int) + b).toNat = a + b by omega] at he
  exact Ev.congr (fun k => by simp only [spec_plusDigits.f]) he
theorem impl_add_ev (a b : Nat) (ha : (dig a).length ≤ 50000) (hb : (dig b).length ≤ 50000) : ∃ R, Dig R ∧ R.length ≤ 60000 ∧ val R = a + b ∧ Ev (fun k => impl_magAdd.f k (dig a) (dig b)) R := by
  obtain ⟨R, hR, hll, hv, he⟩ := impl_magAdd_l0 (dig a) (dig b) (dig_Dig a) (dig_Dig b) (max (dig a).length (dig b).length) (Nat.le_max_left _ _) (Nat.le_max_right _ _) (by omega) _ 0 0 0 [] rfl rfl (by omega) (by omega) (by omega) (by omega) (Nat.le_refl _)
  simp only [List.drop_zero, val_dig, Int.add_zero] at hv
  exact ⟨R, hR, by omega, hv, Ev.congr (fun k => by simp only [impl_magAdd.f]) he⟩
theorem spec_less_ev (a b : Nat) (h : b ≤ a) (ha : (dig a).length ≤ 50000) : Ev (fun k => spec_lessDigits.f k (dig a) (dig b)) (dig (a - b)) := by
  obtain ⟨R, hR, hv, he⟩ := spec_less_l0 (dig a) (dig b) (dig_Dig a) (dig_Dig b) (by omega) _ 0 0 0 [] rfl rfl (by omega) (by omega) (by omega) (by simp only [List.drop_zero, val_dig]; omega) (Nat.le_refl _)
  rw [List.nil_append, trim_eq hR, hv] at he
  simp only [List.drop_zero, val_dig, Int.sub_zero] at he
  rw [show ((a : Int) - b).toNat = a - b by omega] at he
  exact Ev.congr (fun k => by simp only [spec_lessDigits.f]) he
theorem impl_sub_ev (a b : Nat) (h : b ≤ a) (ha : (dig a).length ≤ 50000) : Ev (fun k => impl_magSub.f k (dig a) (dig b)) (dig (a - b)) := by
  have hd := dig_Dig a
  have hh : -1 ≤ (dig a).headD 0 ∧ (dig a).headD 0 ≤ 9 ∧ Dig (dig a).tail := by
    generalize dig a = l at hd
    cases l with
    | nil => simp; exact Dig.nil
    | cons x xs => simp; exact ⟨by have := hd.head; omega, hd.head.2, hd.tail⟩
  obtain ⟨R, hR, hv, he⟩ := impl_magSub_l0 (dig b) (dig_Dig b) (dig a).length (by omega) (dig a) [] 0 _ rfl rfl (by simp) hh.1 hh.2.1 hh.2.2 (by simp only [List.length_nil, List.drop_zero, val_dig]; omega)
  rw [List.nil_append, List.nil_append, trim_eq hR, hv] at he
  simp only [List.length_nil, List.drop_zero, val_dig] at he
  rw [show ((a : Int) - b).toNat = a - b by omega] at he
  refine Ev.congr (fun k => ?_) he
  simp only [impl_magSub.f]
  rw [if_pos (by simp; omega)]
  simp only [List.nil_append, Option.bind_some]
end Go.Proofs.Ytccdaiagameobaa.IE
