-- Printed by a program of this project's own, for this seat.
import Derived.Test.YtccdaiagameobaaQ0
import Derived.Test.YtccdaiagameobaaQ1
namespace Go.Proofs.Ytccdaiagameobaa.Q
open Go.RowKit Go.Proofs.YtccdaiagameobaaW.PrintWords Go.Proofs.YtccdaiagameobaaW.PrintLast Go.Proofs.YtccdaiagameobaaW.PrintMore
attribute [local go_sem] max2_int min2_int max_two min_two max_three min_three max_four min_four   -- for this text's walks alone
set_option linter.unusedVariables false
set_option linter.unusedSimpArgs false

/-! ### impl_number_text: function 42 -/
def bld_chr (d : Int) : UInt8 := UInt8.ofNat (48 + d).toNat
def impl_number_text.f (a0_0 : Bool) (l0_1 : List Int) : Option (ByteArray × Bool) :=
  if l0_1.length > 40 then some (⟨#[]⟩, false) else if l0_1.length = 0 then some (⟨#[48]⟩, true) else
  if (l0_1.all fun d => decide (0 ≤ d) && decide (d ≤ 9)) = true then some (⟨((if a0_0 then [45] else []) ++ l0_1.reverse.map bld_chr).toArray⟩, true) else none
theorem tx_next {B : Nat} {pre : List UInt8} {l : List Int} {m : Nat} {w1 : World} {dd : Int} (hb : Lib.BuilderAt 68 5 B B (.pointer (some ⟨B, 0, none⟩)) (Lib.byteCells (pre ++ (l.drop (m + 1)).reverse.map bld_chr) ++ [.int .u8 (48 + dd)]) w1) (hn : m + 1 ≤ l.length) (hdd : rd l (m : Int) = dd) (h0 : 0 ≤ dd) (h9 : dd ≤ 9) :
    Lib.IsBuilder 68 5 B B (Lib.byteCells (pre ++ (l.drop m).reverse.map bld_chr)) w1 := by
  refine Or.inr ?_
  have h1 : l.drop m = dd :: l.drop (m + 1) := by
    rw [List.drop_eq_getElem_cons (by omega), ← hdd]
    unfold rd
    simp [List.getD_eq_getElem?_getD, (by omega : m < l.length)]
  have h2 : Lib.byteCells (pre ++ (l.drop m).reverse.map bld_chr) = Lib.byteCells (pre ++ (l.drop (m + 1)).reverse.map bld_chr) ++ [.int .u8 (48 + dd)] := by
    have h3 : ((bld_chr dd).toNat : Int) = 48 + dd := by
      unfold bld_chr
      rw [UInt8.toNat_ofNat']
      omega
    rw [h1]
    simp [Lib.byteCells, h3]
  rw [h2]
  exact hb
theorem tx_box {w w1 : World} {x y : Value} {o : Obj} (h : Below (w.heap.size + 1) ((w.alloc (.cells #[x, y] 39)).alloc o) w1) : Aside0 (w1.heap[w.heap.size]? = some (.cells #[x, y] 39 (0, 0))) :=
  ⟨(h.block _ (Nat.lt_succ_self _)).trans (blk_alloc (blk_new w _) _)⟩
theorem tx_box1 {w1 : World} {g : Nat} {x y : Value} (h : w1.heap[g]? = some (.cells #[x, y] 39 (0, 0))) : w1.cell? ⟨g, 1, none⟩ = some y := (blk_cell h 1).trans rfl
set_option maxHeartbeats 4000000 in
set_option maxRecDepth 100000 in
theorem impl_number_text.calls (a0_0 : Bool) (A0_1 : Option Addr) (c0_1 : Nat) (l0_1 : List Int) (r1 : ByteArray) (r2 : Bool) (w : World) (hr0_1 : Kd.C (Kd.int .i64) w A0_1 l0_1.length l0_1) (hc0_1 : l0_1.length ≤ c0_1) (h : impl_number_text.f a0_0 l0_1 = some (r1, r2)) :
    Calls Try.prog 42 #[.agg #[.bool a0_0, .slice A0_1 l0_1.length c0_1]] w fun e w' => e = .returned (.tuple #[.string r1, .bool r2]) ∧ Below w.heap.size w w' := by
  have hu39 := Try.underlying39
  have hu68 := Try.underlying68
  unfold impl_number_text.f at h
  by_cases h40 : l0_1.length > 40
  · rw [if_pos h40] at h
    cases h
    have hd : decide (40 < (l0_1.length : Int)) = true := by simp; omega
    have hd2 : decide (40 < l0_1.length) = true := by simp; omega
    clear h40 hc0_1 hr0_1
    go_enter Try.func42, Try.ntmps42
    go_wp2
    go_ret2
    exact ⟨rfl, (Below.refl _ _).alloc (Nat.le_refl _) _⟩
  · rw [if_neg h40] at h
    by_cases h0 : l0_1.length = 0
    · rw [if_pos h0] at h
      cases h
      obtain rfl := List.length_eq_zero_iff.1 h0
      clear h40 h0 hc0_1 hr0_1
      go_enter Try.func42, Try.ntmps42
      go_wp2
      go_ret2
      exact ⟨rfl, (Below.refl _ _).alloc (Nat.le_refl _) _⟩
    · rw [if_neg h0] at h
      by_cases ha : (l0_1.all fun d => decide (0 ≤ d) && decide (d ≤ 9)) = true
      · rw [if_pos ha] at h
        injection h with h
        injection h with h1 h2
        subst h1 h2
        have hd : decide (40 < (l0_1.length : Int)) = false := by simp; omega
        have hd2 : decide (40 < l0_1.length) = false := by simp; omega
        have hz : ((l0_1.length : Int) == 0) = false := by simp; simpa using h0
        have hz2 : (l0_1.length == 0) = false := by simpa using h0
        have HL := Aside0.mk h40
        have HZ := Aside0.mk h0
        have HA := Aside0.mk ha
        have HR := Aside0.mk hr0_1
        clear h40 h0 ha hr0_1 hc0_1
        have hlen : l0_1.length ≤ 40 := by have := HL.out; omega
        have hdig : ∀ i : Nat, i < l0_1.length → 0 ≤ rd l0_1 i ∧ rd l0_1 i ≤ 9 := by
          intro i hi
          have h1 := List.all_eq_true.1 HA.out (l0_1[i]) (List.getElem_mem hi)
          have h2 : rd l0_1 i = l0_1[i] := by unfold rd; simp [List.getD_eq_getElem?_getD, hi]
          rw [h2]
          simpa using h1
        have HD := Aside0.mk hdig
        have HLEN := Aside0.mk hlen
        clear hdig hlen HL HA
        cases a0_0 with
        | true =>
          go_enter Try.func42, Try.ntmps42
          have hbl := (Lib.fresh_isBuilder 68 5 (w.alloc (.cells #[.bool true, .slice A0_1 l0_1.length c0_1] 39)))
          have hs1 : (w.alloc (.cells #[.bool true, .slice A0_1 l0_1.length c0_1] 39)).heap.size = w.heap.size + 1 := by simp
          rw [hs1] at hbl
          have HBL := Aside0.mk hbl
          clear hbl hs1
          go_wp2_with (go_at_call 73; refine (bld_writeByte (w.heap.size + 1) (w.heap.size + 1) [] 45 _ HBL.out (by simp) (by simp)).mono ?_; rintro e w1 ⟨rfl, hb, hbel⟩; have HX := tx_box hbel; have hbx1 := tx_box1 HX.out; have HB := Aside0.mk (show Lib.IsBuilder 68 5 (w.heap.size + 1) (w.heap.size + 1) (Lib.byteCells [45]) w1 from Or.inr hb); have HBE := Aside0.mk (show Below w.heap.size w w1 from (((Below.refl _ _).alloc (Nat.le_refl _) _).alloc (by simp) _).trans (hbel.mono (Nat.le_succ _))); clear hb hbel HBL)
          clear hbx1
          go_loopw [5] (fun v5 wr => ∃ n : Nat, n ≤ l0_1.length ∧ v5 = .int .i64 ((n : Int) - 1) ∧ Aside0 (wr.heap[w.heap.size]? = some (.cells #[.bool true, .slice A0_1 l0_1.length c0_1] 39 (0, 0))) ∧ Aside0 (Lib.IsBuilder 68 5 (w.heap.size + 1) (w.heap.size + 1) (Lib.byteCells ([45] ++ (l0_1.drop n).reverse.map bld_chr)) wr) ∧ Aside0 (Below w.heap.size w wr)) (fun v5 _ => (intOf v5 + 1).toNat)
          case atStart => exact ⟨l0_1.length, Nat.le_refl _, by rw [show wrap64 ((l0_1.length : Int) - 1) = (l0_1.length : Int) - 1 by have := HLEN.out; unfold wrap64; omega], ⟨HX.out⟩, ⟨by rw [List.drop_length]; simpa using HB.out⟩, ⟨HBE.out⟩⟩
          case round =>
            clear HX HB HBE
            obtain ⟨n, hn, rfl, HX, HB, HBE⟩ := hrel
            have hbx1 := tx_box1 HX.out
            have hlen := HLEN.out
            rcases Nat.eq_zero_or_pos n with hn0 | hn0
            · subst hn0
              have hc : decide (0 ≤ ((0 : Nat) : Int) - 1) = false := by decide
              have hsz : w.heap.size + 1 ≤ wr.heap.size := by
                have := HB.out
                rcases this with h | h <;> exact Nat.le_of_lt h.lt
              go_wp2_with (go_at_call 74; refine (bld_string (w.heap.size + 1) (w.heap.size + 1) ([45] ++ (l0_1.drop 0).reverse.map bld_chr) _ HB.out hsz).mono ?_; rintro e w1 ⟨rfl, hb1⟩)
              go_ret2
              refine ⟨by simp, HBE.out.trans (hb1.mono (Nat.le_succ _))⟩
            · obtain ⟨m, rfl⟩ : ∃ m, n = m + 1 := ⟨n - 1, by omega⟩
              have hR := Kd.C_below HR.out HBE.out
              obtain ⟨ad, he, hcell⟩ := Kd.at_int hR (m : Int) (by omega) (by omega)
              subst he
              have hdg := HD.out m (by omega)
              have hi1 : (((m + 1 : Nat) : Int) - 1) = (m : Int) := by omega
              rw [hi1]
              rw [Int.toNat_natCast] at hcell
              have hc : decide (0 ≤ (m : Int)) = true := by simp
              have hlt : decide ((m : Int) < (l0_1.length : Int)) = true := by simp; omega
              have hsz : w.heap.size + 1 ≤ wr.heap.size := by
                rcases HB.out with h | h <;> exact Nat.le_of_lt h.lt
              generalize hdd : rd l0_1 (m : Int) = dd at *
              have hd0 := hdg.1
              have hd9 := hdg.2
              go_wp2_with (go_at_call 73; refine (bld_writeByte (w.heap.size + 1) (w.heap.size + 1) _ _ _ HB.out (by simp [Lib.byteCells]; omega) hsz).mono ?_; rintro e w1 ⟨rfl, hb, hbel⟩)
              go_roundw
              case rel => exact ⟨m, by omega, rfl, ⟨(hbel.block _ (Nat.lt_succ_self _)).trans HX.out⟩, ⟨tx_next hb hn hdd hd0 hd9⟩, ⟨HBE.out.trans (hbel.mono (Nat.le_succ _))⟩⟩
              case measure => simp [intOf]
        | false =>
          go_enter Try.func42, Try.ntmps42
          have hbl := (Lib.fresh_isBuilder 68 5 (w.alloc (.cells #[.bool false, .slice A0_1 l0_1.length c0_1] 39)))
          have hs1 : (w.alloc (.cells #[.bool false, .slice A0_1 l0_1.length c0_1] 39)).heap.size = w.heap.size + 1 := by simp
          rw [hs1] at hbl
          have HB := Aside0.mk (show Lib.IsBuilder 68 5 (w.heap.size + 1) (w.heap.size + 1) (Lib.byteCells []) _ from hbl)
          have HX := tx_box (w := w) (x := .bool false) (y := .slice A0_1 l0_1.length c0_1) (o := .cells #[.pointer none, .slice none 0 0] 68) (Below.refl _ _)
          have HBE := Aside0.mk (show Below w.heap.size w ((w.alloc (.cells #[.bool false, .slice A0_1 l0_1.length c0_1] 39)).alloc (.cells #[.pointer none, .slice none 0 0] 68)) from (((Below.refl _ _).alloc (Nat.le_refl _) _).alloc (by simp) _))
          clear hbl hs1
          go_wp2
          go_loopw [5] (fun v5 wr => ∃ n : Nat, n ≤ l0_1.length ∧ v5 = .int .i64 ((n : Int) - 1) ∧ Aside0 (wr.heap[w.heap.size]? = some (.cells #[.bool false, .slice A0_1 l0_1.length c0_1] 39 (0, 0))) ∧ Aside0 (Lib.IsBuilder 68 5 (w.heap.size + 1) (w.heap.size + 1) (Lib.byteCells ([] ++ (l0_1.drop n).reverse.map bld_chr)) wr) ∧ Aside0 (Below w.heap.size w wr)) (fun v5 _ => (intOf v5 + 1).toNat)
          case atStart => exact ⟨l0_1.length, Nat.le_refl _, by rw [show wrap64 ((l0_1.length : Int) - 1) = (l0_1.length : Int) - 1 by have := HLEN.out; unfold wrap64; omega], ⟨HX.out⟩, ⟨by rw [List.drop_length]; simpa using HB.out⟩, ⟨HBE.out⟩⟩
          case round =>
            clear HX HB HBE
            obtain ⟨n, hn, rfl, HX, HB, HBE⟩ := hrel
            have hbx1 := tx_box1 HX.out
            have hlen := HLEN.out
            rcases Nat.eq_zero_or_pos n with hn0 | hn0
            · subst hn0
              have hc : decide (0 ≤ ((0 : Nat) : Int) - 1) = false := by decide
              have hsz : w.heap.size + 1 ≤ wr.heap.size := by
                have := HB.out
                rcases this with h | h <;> exact Nat.le_of_lt h.lt
              go_wp2_with (go_at_call 74; refine (bld_string (w.heap.size + 1) (w.heap.size + 1) ([] ++ (l0_1.drop 0).reverse.map bld_chr) _ HB.out hsz).mono ?_; rintro e w1 ⟨rfl, hb1⟩)
              go_ret2
              refine ⟨by simp, HBE.out.trans (hb1.mono (Nat.le_succ _))⟩
            · obtain ⟨m, rfl⟩ : ∃ m, n = m + 1 := ⟨n - 1, by omega⟩
              have hR := Kd.C_below HR.out HBE.out
              obtain ⟨ad, he, hcell⟩ := Kd.at_int hR (m : Int) (by omega) (by omega)
              subst he
              have hdg := HD.out m (by omega)
              have hi1 : (((m + 1 : Nat) : Int) - 1) = (m : Int) := by omega
              rw [hi1]
              rw [Int.toNat_natCast] at hcell
              have hc : decide (0 ≤ (m : Int)) = true := by simp
              have hlt : decide ((m : Int) < (l0_1.length : Int)) = true := by simp; omega
              have hsz : w.heap.size + 1 ≤ wr.heap.size := by
                rcases HB.out with h | h <;> exact Nat.le_of_lt h.lt
              generalize hdd : rd l0_1 (m : Int) = dd at *
              have hd0 := hdg.1
              have hd9 := hdg.2
              go_wp2_with (go_at_call 73; refine (bld_writeByte (w.heap.size + 1) (w.heap.size + 1) _ _ _ HB.out (by simp [Lib.byteCells]; omega) hsz).mono ?_; rintro e w1 ⟨rfl, hb, hbel⟩)
              go_roundw
              case rel => exact ⟨m, by omega, rfl, ⟨(hbel.block _ (Nat.lt_succ_self _)).trans HX.out⟩, ⟨tx_next hb hn hdd hd0 hd9⟩, ⟨HBE.out.trans (hbel.mono (Nat.le_succ _))⟩⟩
              case measure => simp [intOf]
      · rw [if_neg ha] at h
        cases h

/-- A state of type 75 at block g of W; what its slices lead to came in by w0. -/
def IsS75 (w0 W : World) (g : Nat) (f0 : List Int) (f1 : Int) : Prop := ∃ A0 c0, W.heap[g]? = some (.cells #[.slice A0 f0.length c0, .int .i64 f1] 75 (0, 0)) ∧ w0.heap.size ≤ g ∧ Kd.C (Kd.int .u8) w0 A0 f0.length f0
theorem IsS75.grown {w0 W : World} {g : Nat} {f0 : List Int} {f1 : Int} {W1 : World} {row : Option Nat} (h : IsS75 w0 W g f0 f1) (hw : W.grownBy W1 row) (hne : some g ≠ row) : IsS75 w0 W1 g f0 f1 := by
  obtain ⟨A0, c0, hb, hg, hr0⟩ := h
  exact ⟨A0, c0, blk_grown hb hw hne, hg, hr0⟩
theorem IsS75.own_neN {w0 W : World} {g : Nat} {f0 : List Int} {f1 : Int} {α : Type} {d : Kd α} {e : Nat} {base : Nat} {ok : Nat → Prop} {v : Value} {xs : List α} (h : IsS75 w0 W g f0 f1) (ho : Kd.N d e W base ok v xs) (ht : e ≠ 75) : some g ≠ v.ownBlock := by
  obtain ⟨A0, c0, hb, hg, hr0⟩ := h
  exact Kd.N_ne ho hb ht
theorem IsS75.fresh {w0 W : World} {g : Nat} {f0 : List Int} {f1 : Int} (h : IsS75 w0 W g f0 f1) : ∀ k, W.heap.size ≤ k → k ≠ g := by
  obtain ⟨A0, c0, hb, hg, hr0⟩ := h
  exact Kd.freshB hb
theorem IsS75.kept {w0 W : World} {g : Nat} {f0 : List Int} {f1 : Int} {W1 : World} {S : Nat → Prop} (h : IsS75 w0 W g f0 f1) (hk : Kept W W1 S) (hne : ¬ S g) : IsS75 w0 W1 g f0 f1 := by
  obtain ⟨A0, c0, hb, hg, hr0⟩ := h
  exact ⟨A0, c0, blk_kept hb hk hne, hg, hr0⟩
theorem IsS75.below {w0 W : World} {g : Nat} {f0 : List Int} {f1 : Int} {W1 : World} (h : IsS75 w0 W g f0 f1) (hw : Below W.heap.size W W1) : IsS75 w0 W1 g f0 f1 := h.grown (grown_of_below hw none) (by simp)
theorem IsS75.alloc {w0 W : World} {g : Nat} {f0 : List Int} {f1 : Int} (h : IsS75 w0 W g f0 f1) (o : Obj) : IsS75 w0 (W.alloc o) g f0 f1 := h.below (below_alloc (Below.refl _ _) o)
theorem IsS75.drewN {w0 W : World} {g : Nat} {f0 : List Int} {f1 : Int} (h : IsS75 w0 W g f0 f1) (m : Nat) : IsS75 w0 (W.drewN m) g f0 f1 := h
theorem IsS75.drew {w0 W : World} {g : Nat} {f0 : List Int} {f1 : Int} (h : IsS75 w0 W g f0 f1) : IsS75 w0 W.drew g f0 f1 := h
theorem IsS75.at_ {w0 W : World} {g : Nat} {f0 : List Int} {f1 : Int} {w' : World} {m : Nat} (hq : W.drewN m = w') (h : IsS75 w0 W g f0 f1) : IsS75 w0 w' g f0 f1 := by subst hq; exact IsS75.drewN h m
theorem IsS75.apart {w0 W : World} {g : Nat} {f0 : List Int} {f1 : Int} {α : Type} {d : Kd α} {e : Nat} {base : Nat} {ok : Nat → Prop} {v : Value} {xs : List α} (h : IsS75 w0 W g f0 f1) (ho : d.R e W base ok v xs) (ht : ∀ q, q ∈ e :: d.E → q ≠ 75) : d.R e W base (fun k => ok k ∧ k ≠ g) v xs := by
  obtain ⟨A0, c0, hb, hg, hr0⟩ := h
  exact Kd.R_types ho hb ht
theorem IsS75.own_ne {w0 W : World} {g : Nat} {f0 : List Int} {f1 : Int} {α : Type} {d : Kd α} {e : Nat} {base : Nat} {ok : Nat → Prop} {v : Value} {xs : List α} (h : IsS75 w0 W g f0 f1) (ho : d.R e W base ok v xs) (ht : e ≠ 75) : some g ≠ v.ownBlock := by
  obtain ⟨A0, c0, hb, hg, hr0⟩ := h
  exact Kd.R_ne ho hb ht
theorem IsS75.apartQ {w0 W : World} {g : Nat} {f0 : List Int} {f1 : Int} {α : Type} {d : Kd α} {e : Nat} {base : Nat} {ok : Nat → Prop} {v : Value} {xs : List α} (h : IsS75 w0 W g f0 f1) (ho : d.Q e W base ok v xs) (ht : ∀ q, q ∈ e :: d.E → q ≠ 75) : d.Q e W base (fun k => ok k ∧ k ≠ g) v xs := by
  obtain ⟨A0, c0, hb, hg, hr0⟩ := h
  exact Kd.Q_types ho hb ht
theorem IsS75.own_neQ {w0 W : World} {g : Nat} {f0 : List Int} {f1 : Int} {α : Type} {d : Kd α} {e : Nat} {base : Nat} {ok : Nat → Prop} {v : Value} {xs : List α} (h : IsS75 w0 W g f0 f1) (ho : d.Q e W base ok v xs) (ht : e ≠ 75) : some g ≠ v.ownBlock := by
  obtain ⟨A0, c0, hb, hg, hr0⟩ := h
  exact Kd.Q_ne ho hb ht
theorem IsS75.apartS {w0 W : World} {g : Nat} {f0 : List Int} {f1 : Int} {α : Type} {d : Kd α} {e : Nat} {base : Nat} {ok : Nat → Prop} {v : Value} {xs : List α} (h : IsS75 w0 W g f0 f1) (ho : d.S e W base ok v xs) (ht : ∀ q, q ∈ e :: d.E → q ≠ 75) : d.S e W base (fun k => ok k ∧ k ≠ g) v xs := by
  obtain ⟨A0, c0, hb, hg, hr0⟩ := h
  exact Kd.S_types ho hb ht
theorem IsS75.own_neS {w0 W : World} {g : Nat} {f0 : List Int} {f1 : Int} {α : Type} {d : Kd α} {e : Nat} {base : Nat} {ok : Nat → Prop} {v : Value} {xs : List α} (h : IsS75 w0 W g f0 f1) (ho : d.S e W base ok v xs) (ht : e ≠ 75) : some g ≠ v.ownBlock := by
  obtain ⟨A0, c0, hb, hg, hr0⟩ := h
  exact Kd.S_ne ho hb ht
theorem IsS75.lt {w0 W : World} {g : Nat} {f0 : List Int} {f1 : Int} (h : IsS75 w0 W g f0 f1) : g < W.heap.size := by
  obtain ⟨A0, c0, hb, hg, hr0⟩ := h
  exact blk_lt hb
theorem IsS75.ge {w0 W : World} {g : Nat} {f0 : List Int} {f1 : Int} (h : IsS75 w0 W g f0 f1) : w0.heap.size ≤ g := by
  obtain ⟨A0, c0, hb, hg, hr0⟩ := h
  exact hg
theorem IsS75.ne_blk {w0 W : World} {g : Nat} {f0 : List Int} {f1 : Int} {a : Nat} {cs : Array Value} {t : TypeId} {fr : Nat × Nat} (h : IsS75 w0 W g f0 f1) (hb2 : W.heap[a]? = some (.cells cs t fr)) (ht : t ≠ 75) : g ≠ a := by
  obtain ⟨A0, c0, hb, hg, hr0⟩ := h
  rintro rfl
  rw [hb] at hb2
  injection hb2 with hb2
  injection hb2 with _ ht2
  exact ht ht2.symm
theorem IsS75.far {w0 W : World} {g : Nat} {f0 : List Int} {f1 : Int} {p : Addr} (h : IsS75 w0 W g f0 f1) (hne : g ≠ p.block) (u : Value) : IsS75 w0 (W.setCell p u) g f0 f1 := by
  obtain ⟨A0, c0, hb, hg, hr0⟩ := h
  exact ⟨A0, c0, blk_far hb hne u, hg, hr0⟩
theorem cellS75_0 {W : World} {g : Nat} {A0 : Option Addr} {c0 : Nat} {f0 : List Int} {f1 : Int} (h : W.heap[g]? = some (.cells #[.slice A0 f0.length c0, .int .i64 f1] 75 (0, 0))) : W.cell? ⟨g, 0, none⟩ = some (.slice A0 f0.length c0) := (blk_cell h 0).trans rfl
theorem cellS75_1 {W : World} {g : Nat} {A0 : Option Addr} {c0 : Nat} {f0 : List Int} {f1 : Int} (h : W.heap[g]? = some (.cells #[.slice A0 f0.length c0, .int .i64 f1] 75 (0, 0))) : W.cell? ⟨g, 1, none⟩ = some (.int .i64 f1) := (blk_cell h 1).trans rfl
theorem IsS75.set_1 {w0 W : World} {g : Nat} {f0 : List Int} {f1 : Int} (h : IsS75 w0 W g f0 f1) (x : Int) : IsS75 w0 (W.setCell ⟨g, 1, none⟩ (.int .i64 x)) g f0 x := by
  obtain ⟨A0, c0, hb, hg, hr0⟩ := h
  exact ⟨A0, c0, by simpa using blk_set hb 1 (.int .i64 x), hg, hr0⟩
theorem IsS75.new (w0 W : World) (A0 : Option Addr) (c0 : Nat) (f0 : List Int) (f1 : Int) (hB : Below w0.heap.size w0 W) (hr0 : Kd.C (Kd.int .u8) w0 A0 f0.length f0) : IsS75 w0 (W.alloc (.cells #[.slice A0 f0.length c0, .int .i64 f1] 75)) W.heap.size f0 f1 := ⟨A0, c0, by simpa using heap_alloc_new W _, hB.size, hr0⟩


end Go.Proofs.Ytccdaiagameobaa.Q
