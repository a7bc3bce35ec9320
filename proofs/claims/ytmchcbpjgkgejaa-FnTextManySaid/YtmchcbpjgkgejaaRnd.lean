/- The reference's drawing of cases from bytes: it always answers, within small bounds. -/
import Derived.Laws.BitsAllLaws
import Derived.Test.YtmchcbpjgkgejaaQ1
set_option linter.unusedSimpArgs false
set_option linter.unusedVariables false
namespace Go.Proofs.Ytmchcbpjgkgejaa.RD
open Go.RowKit Go.Proofs.Ytmchcbpjgkgejaa.Q Go.Proofs.YtmchcbpjgkgejaaW.PrintWords

/-- Bytes, as the reference draws from. -/
def Bytes (d : List Int) : Prop := d.length ≤ 100000000 ∧ ∀ x ∈ d, 0 ≤ x ∧ x ≤ 255
theorem Bytes.take {d : List Int} (h : Bytes d) (n : Nat) : Bytes (d.take n) := ⟨by rw [List.length_take]; have := h.1; omega, fun x hx => h.2 x (List.mem_of_mem_take hx)⟩
theorem Bytes.drop {d : List Int} (h : Bytes d) (n : Nat) : Bytes (d.drop n) := ⟨by rw [List.length_drop]; have := h.1; omega, fun x hx => h.2 x (List.mem_of_mem_drop hx)⟩
theorem Bytes.of {d : List Int} (hl : ¬ (d.length : Int) > 1048576) (h : ∀ x ∈ d, (Lit.int .u8 x).wf = true) : Bytes d := by
  refine ⟨by omega, fun x hx => ?_⟩
  have := h x hx
  simp [Lit.wf, IntKind.min, IntKind.max, IntKind.bits, IntKind.signed] at this
  omega
theorem Bytes.rdB {d : List Int} (h : Bytes d) (i : Int) : 0 ≤ rd d i ∧ rd d i ≤ 255 := by
  unfold rd
  rw [List.getD_eq_getElem?_getD]
  cases e : d[i.toNat]? with
  | none => simp
  | some x => exact h.2 x (List.mem_of_getElem? e)
theorem wr {x : Int} (h0 : -1000000000000000000 ≤ x) (h1 : x ≤ 1000000000000000000) : wrap64 x = x := by unfold wrap64; omega

theorem xor_range {a b : Int} (ha0 : 0 ≤ a) (ha : a < 4611686018427387904) (hb0 : 0 ≤ b) (hb : b < 4611686018427387904) : 0 ≤ bits .xor .i64 a b ∧ bits .xor .i64 a b < 4611686018427387904 := by
  obtain ⟨m, rfl⟩ := Int.eq_ofNat_of_zero_le ha0
  obtain ⟨n, rfl⟩ := Int.eq_ofNat_of_zero_le hb0
  have h := Nat.xor_lt_two_pow (x := m) (y := n) (n := 62) (by omega) (by omega)
  have e : bits .xor .i64 (m : Int) (n : Int) = IntKind.i64.wrap ((BitVec.ofInt 64 (m : Int) ^^^ BitVec.ofInt 64 (n : Int)).toNat : Int) := rfl
  rw [e, BitVec.toNat_xor, ofInt_u64 m (by omega), ofInt_u64 n (by omega)]
  generalize m ^^^ n = z at h
  simp [IntKind.wrap, IntKind.bits, IntKind.signed]
  omega
theorem hash_range {p q c t n : Int} (hp : 0 ≤ p ∧ p ≤ 255) (hq : 0 ≤ q ∧ q ≤ 255) (hc : 0 ≤ c ∧ c ≤ 1000000000000000) (ht : 0 ≤ t ∧ t ≤ 1000000000000000) (hn : 2 ≤ n) :
    0 ≤ Int.tmod (bits .xor .i64 (wrap64 ((wrap64 ((wrap64 ((wrap64 ((wrap64 p) * 131)) + (wrap64 ((wrap64 q) * 1117)))) + (wrap64 (c * 29)))) + (wrap64 ((wrap64 t) * 53)))) (wrap64 (Int.tdiv (wrap64 ((wrap64 ((wrap64 ((wrap64 ((wrap64 p) * 131)) + (wrap64 ((wrap64 q) * 1117)))) + (wrap64 (c * 29)))) + (wrap64 ((wrap64 t) * 53)))) 64))) n ∧
    Int.tmod (bits .xor .i64 (wrap64 ((wrap64 ((wrap64 ((wrap64 ((wrap64 p) * 131)) + (wrap64 ((wrap64 q) * 1117)))) + (wrap64 (c * 29)))) + (wrap64 ((wrap64 t) * 53)))) (wrap64 (Int.tdiv (wrap64 ((wrap64 ((wrap64 ((wrap64 ((wrap64 p) * 131)) + (wrap64 ((wrap64 q) * 1117)))) + (wrap64 (c * 29)))) + (wrap64 ((wrap64 t) * 53)))) 64))) n < n := by
  rw [wr (x := p) (by omega) (by omega), wr (x := q) (by omega) (by omega), wr (x := t) (by omega) (by omega), wr (x := p * 131) (by omega) (by omega), wr (x := q * 1117) (by omega) (by omega), wr (x := c * 29) (by omega) (by omega), wr (x := t * 53) (by omega) (by omega), wr (x := p * 131 + q * 1117) (by omega) (by omega), wr (x := p * 131 + q * 1117 + c * 29) (by omega) (by omega), wr (x := p * 131 + q * 1117 + c * 29 + t * 53) (by omega) (by omega)]
  have h1 : 0 ≤ p * 131 + q * 1117 + c * 29 + t * 53 := by omega
  have h2 : p * 131 + q * 1117 + c * 29 + t * 53 ≤ 1000000000000000000 := by omega
  generalize p * 131 + q * 1117 + c * 29 + t * 53 = X at h1 h2
  rw [Int.tdiv_eq_ediv_of_nonneg h1, wr (x := X / 64) (by omega) (by omega)]
  have h3 := xor_range (a := X) (b := X / 64) h1 (by omega) (by omega) (by omega)
  exact ⟨Int.tmod_nonneg _ h3.1, Int.tmod_lt_of_pos _ (by omega)⟩

/-- One pick: it answers, below the bound, and takes at most one more byte. -/
theorem pick_ok {d : List Int} (hd : Bytes d) {c n : Int} (h0 : 0 ≤ c) (h1 : c ≤ 100000000000000) :
    ∃ v c', spec_rnd_pick.f d c n = some (v, c') ∧ 0 ≤ v ∧ (1 ≤ n → v < n) ∧ c ≤ c' ∧ c' ≤ c + 1 := by
  unfold spec_rnd_pick.f
  by_cases e1 : n < 2
  · rw [if_pos e1]
    exact ⟨0, c, rfl, by omega, by omega, by omega, by omega⟩
  · rw [if_neg e1, wr (x := c + 1) (by omega) (by omega)]
    by_cases e2 : (d.length : Int) > 0
    · have hl := hd.1
      rw [if_pos e2, if_neg (show ¬ (d.length : Int) = 0 by omega), if_pos (Int.tmod_nonneg _ h0), if_pos (Int.tmod_lt_of_pos _ e2), wr (x := c * 7) (by omega) (by omega), wr (x := c * 7 + 3) (by omega) (by omega), if_pos (Int.tmod_nonneg _ (show 0 ≤ c * 7 + 3 by omega)), if_pos (Int.tmod_lt_of_pos _ e2), if_neg (show ¬ n = 0 by omega)]
      have ht : 0 ≤ Int.tdiv c (d.length : Int) ∧ Int.tdiv c (d.length : Int) ≤ 1000000000000000 := by
        rw [Int.tdiv_eq_ediv_of_nonneg h0]
        have := Int.ediv_le_self (d.length : Int) h0
        exact ⟨Int.ediv_nonneg h0 (by omega), by omega⟩
      have hh := hash_range (hd.rdB (Int.tmod c (d.length : Int))) (hd.rdB (Int.tmod (c * 7 + 3) (d.length : Int))) ⟨h0, by omega⟩ ht (show 2 ≤ n by omega)
      by_cases e3 : n > 256
      · rw [if_pos e3]
        exact ⟨_, _, rfl, hh.1, fun _ => hh.2, by omega, by omega⟩
      · rw [if_neg e3]
        by_cases e4 : c ≥ (d.length : Int)
        · rw [if_pos e4]
          exact ⟨_, _, rfl, hh.1, fun _ => hh.2, by omega, by omega⟩
        · rw [if_neg e4]
          have hb := hd.rdB (Int.tmod c (d.length : Int))
          rw [wr (x := rd d (Int.tmod c (d.length : Int))) (by omega) (by omega), if_neg (show ¬ n = 0 by omega)]
          exact ⟨_, _, rfl, Int.tmod_nonneg _ hb.1, fun _ => Int.tmod_lt_of_pos _ (by omega), by omega, by omega⟩
    · rw [if_neg e2, if_neg (show ¬ n = 0 by omega)]
      exact ⟨_, _, rfl, by simp, fun h => by simp; omega, by omega, by omega⟩
theorem newRnd_ok {l : List Int} (h : Bytes l) : ∃ d, spec_newRnd.f l = some (d, 0) ∧ Bytes d ∧ d.length ≤ 4000 := by
  unfold spec_newRnd.f
  have h1 : mn (l.length : Int) 4000 ≤ (l.length : Int) := by unfold mn; split <;> omega
  have h2 : 0 ≤ mn (l.length : Int) 4000 := by unfold mn; split <;> omega
  have h3 : mn (l.length : Int) 4000 ≤ 4000 := by unfold mn; split <;> omega
  rw [if_pos h2, if_pos h1]
  exact ⟨_, rfl, h.take _, by rw [List.length_take]; omega⟩
end Go.Proofs.Ytmchcbpjgkgejaa.RD
