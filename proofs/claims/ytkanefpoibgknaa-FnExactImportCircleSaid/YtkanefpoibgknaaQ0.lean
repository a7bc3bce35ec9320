-- Printed by a program of this project's own, for this seat.
import Derived.Test.YtkanefpoibgknaaProg
import Derived.Below
import Derived.Deep.Draws
import Derived.Deep.AppendLies
import Derived.Maps.AppendAt
import Derived.OwnWalk
import Derived.Laws.BytesArg
import Derived.Laws.MakeOwn
import Derived.Laws.OwnMore
import Derived.Deep.OwnRows
import Derived.Tactics
import Derived.Lib.ConvBytes
import Derived.Laws.Slices
import Derived.WalkKit
import Derived.KernelRfl
import Derived.RowKit3
import Derived.Deep.LoopGhost
import Derived.Deep.QuietTactic
import Derived.BigQuiet
import Derived.WideLaws
import Derived.Deep.DeepCutAuto
import Derived.Deep.CutBlock
import Derived.Deep.RegionHeld3
import Derived.Laws.Rows
import Derived.Lib.AppendStr
import Derived.ArgAppend
import Derived.Laws.IdiomCopy
import Derived.OrdersHeld
import Derived.Laws.BitsLemmas
import Derived.RowKit
import Derived.Lib.LazyBuf
import Derived.Test.YtkanefpoibgknaaV
namespace Go.Proofs.Ytkanefpoibgknaa.Q
open Go.RowKit Go.Proofs.YtkanefpoibgknaaW.PrintWords Go.Proofs.YtkanefpoibgknaaW.PrintLast Go.Proofs.YtkanefpoibgknaaW.PrintMore
attribute [local go_sem] max2_int min2_int max_two min_two max_three min_three max_four min_four   -- for this text's walks alone
set_option linter.unusedVariables false
set_option linter.unusedSimpArgs false

theorem px_w256 (n : Int) : wrap64 (n % 256) = n % 256 := by unfold wrap64; omega
theorem px_self {w : World} {p q : Addr} {v u : Value} (hp : w.cell? p = some v) (hq : w.cell? q = some u) : (w.setCell p v).cell? q = some u := by
  by_cases e : p = q
  · subst e; rw [World.cell?_setCell_same (h := hp)]; exact hp.symm.trans hq
  · rw [World.cell?_setCell_other (h := e)]; exact hq
theorem px_make0 {P : Program} {ops : Array Oper} {rest : List Oper} {o : Oper} {a : Act} {Q : Exit → Act → World → Prop} {α : Type} (d : Kd α) {w0 W : World} (base e : Nat) (hgd : o.guard = none) {N : Tmp} (hd : o.dst = some N) (t : TypeId) (x y : Operand) (ho : o.op = .makeSlice t x y) (n : Int) (hx : a.eval x = .int .i64 0) (hy : a.eval y = .int .i64 n)
    (ht : P.underlying t = some (.slice e)) (z : Value) (bytes : Nat) (hinfo : (P.info? e).map (fun i => (i.zero, i.size, i.bytes)) = some (some z, d.sz, bytes)) {ok : Nat → Prop} (hfresh : ok W.heap.size) (h0 : 0 ≤ n) (hl : n.toNat * bytes ≤ 281474976710656) (hb0 : 0 < bytes) (HB : Below base w0 W) (hbase : base ≤ W.heap.size)
    (h : ∀ v1 w1, d.R e w1 base ok v1 [] → Below base w0 w1 → W.grownBy w1 none → (∃ b, v1.ownBlock = some b ∧ W.heap.size ≤ b) → wpList P ops Q rest (a.put o.dst v1) w1) : wpList P ops Q (o :: rest) a W := by
  obtain ⟨m, rfl⟩ := Int.eq_ofNat_of_zero_le h0
  simp only [Int.toNat_natCast] at hl
  obtain ⟨i0, hi, hzz⟩ := Option.map_eq_some_iff.1 hinfo
  simp only [Prod.mk.injEq] at hzz
  obtain ⟨hz0, hz1, hz2⟩ := hzz
  have hm : m ≤ 281474976710656 := Nat.le_trans (Nat.le_mul_of_pos_right _ hb0) hl
  obtain ⟨w', hr, hown, hg⟩ := run_make_own (P := P) W base t e i0 z d.sz ht hi hz0 hz1 .i64 .i64 m (by rw [hz2, Nat.mul_comm]; exact hl) (by unfold maxLen; omega) hbase
  refine Kd.event_run hgd (by simp [execOp, ho, hx, hy, hr]) (h _ _ ⟨fun k hk => ?_, [], hown, Reps.none _ _⟩ (HB.grown hg hbase (fun k hk => by cases hk)) hg ⟨W.heap.size, rfl, Nat.le_refl _⟩)
  have : W.heap.size = k := by simpa [Value.ownBlock] using hk
  subst this
  exact hfresh
theorem px_emp {α : Type} [BEq α] (l : List α) : Value.bool (!l.isEmpty) = Value.bool (l != []) := by cases l <;> rfl
/-- The operations that have run, and those that have not: a short form for the listings of long texts. -/
abbrev px_l (a b : Nat) : Array Bool := ⟨List.replicate a true ++ List.replicate b false⟩
theorem px_a {α : Type} (l : List α) (i : Nat) (x : α) : l.toArray.setIfInBounds i x = (l.set i x).toArray := List.setIfInBounds_toArray l i x
theorem px_b {α : Type} (a : α) (l : List α) (x : α) : (a :: l).set 0 x = x :: l := rfl
theorem px_c {α : Type} (a : α) (l : List α) (n : Nat) (x : α) : (a :: l).set (n + 1) x = a :: l.set n x := rfl


def errW : Option Int → Value
  | none => .nilIface
  | some c => .iface 0 (.int .i64 c)
theorem errW_none : errW none = .nilIface := rfl
theorem errW_some (c : Int) : errW (some c) = .iface 0 (.int .i64 c) := rfl

theorem info3 : (Try.prog.info? 3).map (fun i => (i.zero, i.size, i.bytes)) = some (some (.int .i64 0), 1, 8) := by kernel_rfl
theorem info4 : (Try.prog.info? 4).map (fun i => (i.zero, i.size, i.bytes)) = some (some (.bool false), 1, 1) := by kernel_rfl
theorem info5 : (Try.prog.info? 5).map (fun i => (i.zero, i.size, i.bytes)) = some (some (.int .u8 0), 1, 1) := by kernel_rfl
theorem info9 : (Try.prog.info? 9).map (fun i => (i.zero, i.size, i.bytes)) = some (some (.string ⟨#[]⟩), 1, 16) := by kernel_rfl
theorem info31 : (Try.prog.info? 31).map (fun i => (i.zero, i.size, i.bytes)) = some (some (.slice none 0 0), 1, 24) := by kernel_rfl
theorem info51 : (Try.prog.info? 51).map (fun i => (i.zero, i.size, i.bytes)) = some (some (.agg #[(.slice none 0 0)]), 1, 24) := by kernel_rfl
theorem info54 : (Try.prog.info? 54).map (fun i => (i.zero, i.size, i.bytes)) = some (some (.agg #[(.int .i64 0), (.int .i64 0), (.string ⟨#[]⟩)]), 3, 32) := by kernel_rfl
-- the values' own types
/-! #### struct type 86 -/
structure S86 where
  f0 : Int
  f1 : Int
  f2 : ByteArray
def z86 : S86 := ⟨(0 : Int), (0 : Int), (⟨#[]⟩ : ByteArray)⟩
def k86 : Kd S86 := Kd.iso (Kd.pair (Kd.int .i64) (Kd.pair (Kd.int .i64) Kd.string)) (fun x : S86 => (x.f0, x.f1, x.f2))
theorem k86_open {w : World} {x : S86} {cs : List Value} (h : k86.K w x cs) : cs = [.int .i64 x.f0, .int .i64 x.f1, .string x.f2] := by
  obtain ⟨_, _, rfl, rfl, ⟨_, _, rfl, rfl, rfl⟩⟩ := h
  exact rfl
theorem k86_openM {w : World} {base : Nat} {ok : Nat → Prop} {x : S86} {cs : List Value} (h : k86.M w base ok x cs) : cs = [.int .i64 x.f0, .int .i64 x.f1, .string x.f2] := by
  obtain ⟨_, _, rfl, rfl, ⟨_, _, rfl, rfl, rfl⟩⟩ := h
  exact rfl
theorem k86_mk (w : World) (x : S86)  : k86.K w x [.int .i64 x.f0, .int .i64 x.f1, .string x.f2] := ⟨[.int .i64 x.f0], [.int .i64 x.f1, .string x.f2], rfl, rfl, ⟨[.int .i64 x.f1], [.string x.f2], rfl, rfl, rfl⟩⟩
theorem k86_mkM (w : World) (base : Nat) (ok : Nat → Prop) (x : S86)  : k86.M w base ok x [.int .i64 x.f0, .int .i64 x.f1, .string x.f2] := ⟨[.int .i64 x.f0], [.int .i64 x.f1, .string x.f2], rfl, rfl, ⟨[.int .i64 x.f1], [.string x.f2], rfl, rfl, rfl⟩⟩
def rd_T86 (xs : List S86) (i : Int) : S86 := xs.getD i.toNat z86
theorem at_T86 {w : World} {A : Option Addr} {n : Nat} {xs : List S86} (h : Kd.C k86 w A n xs) (i : Int) (h0 : 0 ≤ i) (h1 : i < n) : ∃ ad , A = some ad ∧ w.cell? (ad.add (i.toNat * 3)) = some (.int .i64 (rd_T86 xs i).f0) ∧ w.cell? ⟨(ad.add (i.toNat * 3)).block, (ad.add (i.toNat * 3)).off + 1, none⟩ = some (.int .i64 (rd_T86 xs i).f1) ∧ w.cell? ⟨(ad.add (i.toNat * 3)).block, (ad.add (i.toNat * 3)).off + 2, none⟩ = some (.string (rd_T86 xs i).f2) := by
  obtain ⟨ad, c, e, _, hK, hc0⟩ := Kd.C_get h z86 i h0 h1
  have hc : ∀ j u, c[j]? = some u → w.cell? (ad.add (i.toNat * 3 + j)) = some u := hc0
  obtain rfl := k86_open hK
  exact ⟨ad, e, hc 0 _ rfl, by rw [← add_field _ _ 1 (by omega)]; exact hc 1 _ rfl, by rw [← add_field _ _ 2 (by omega)]; exact hc 2 _ rfl⟩

def rd_L3 (xs : List (List S86)) (i : Int) : (List S86) := xs.getD i.toNat ([] : List S86)
theorem at_L3 {w : World} {A : Option Addr} {n : Nat} {xs : List (List S86)} (h : Kd.C (Kd.slice 86 k86) w A n xs) (i : Int) (h0 : 0 ≤ i) (h1 : i < n) : ∃ ad A0 c0, A = some ad ∧ w.cell? (ad.add i.toNat) = some (.slice A0 (rd_L3 xs i).length c0) ∧ (rd_L3 xs i).length ≤ c0 ∧ k86.C w A0 (rd_L3 xs i).length (rd_L3 xs i) := by
  obtain ⟨ad, c, e, _, hK, hc0⟩ := Kd.C_get h ([] : List S86) i h0 h1
  have hc : ∀ j u, c[j]? = some u → w.cell? (ad.add (i.toNat * 1 + j)) = some u := hc0
  obtain ⟨A0, c0, rfl, l0, g0⟩ := hK
  exact ⟨ad, A0, c0, e, by have hq := hc 0 _ rfl; rwa [Nat.mul_one, Nat.add_zero] at hq, l0, g0⟩
theorem at_L3_kept {w : World} {S : Nat → Prop} {A : Option Addr} {n : Nat} {xs : List (List S86)} (h : ∀ W', Kept w W' S → Kd.C (Kd.slice 86 k86) W' A n xs) (i : Int) (h0 : 0 ≤ i) (h1 : i < n) : ∃ ad A0 c0, A = some ad ∧ (∀ W', Kept w W' S → W'.cell? (ad.add i.toNat) = some (.slice A0 (rd_L3 xs i).length c0)) ∧ (rd_L3 xs i).length ≤ c0 ∧ (∀ W', Kept w W' S → k86.C W' A0 (rd_L3 xs i).length (rd_L3 xs i)) := by
  obtain ⟨ad, A0, c0, e, hx0, hl0, hi0⟩ := at_L3 (h w (Kept.refl _ _)) i h0 h1
  have hb : ¬ S (ad.add i.toNat).block := by
    intro hs
    obtain ⟨ad', A0', c0', e', hy0, _⟩ := at_L3 (h _ ((Kept.refl w S).setCell (p := (ad.add i.toNat)) (.inl hs) (.pointer none))) i h0 h1
    obtain rfl := Option.some.inj (e.symm.trans e')
    have hz := hy0.symm.trans (World.cell?_setCell_same w (ad.add i.toNat) _ hx0)
    cases hz
  refine ⟨ad, A0, c0, e, fun W' hk => cell_kept hx0 hk hb, hl0, fun W' hk => ?_⟩
  · obtain ⟨ad', A0', c0', e', hy0, hm0, hj0⟩ := at_L3 (h W' hk) i h0 h1
    obtain rfl := Option.some.inj (e.symm.trans e')
    have hz := Option.some.inj (hy0.symm.trans (cell_kept hx0 hk hb))
    injection hz with hz1 hz2 hz3
    rw [hz1] at hj0
    exact hj0


/-! #### struct type 48 -/
structure S48 where
  f0 : (List S86)
def z48 : S48 := ⟨([] : List S86)⟩
def k48 : Kd S48 := Kd.iso (Kd.slice 86 k86) (fun x : S48 => x.f0)
theorem k48_open {w : World} {x : S48} {cs : List Value} (h : k48.K w x cs) : ∃ A0 c0, cs = [.slice A0 x.f0.length c0] ∧ x.f0.length ≤ c0 ∧ k86.C w A0 x.f0.length x.f0 := by
  obtain ⟨A0, c0, rfl, l0, g0⟩ := h
  exact ⟨A0, c0, rfl, l0, g0⟩
theorem k48_openM {w : World} {base : Nat} {ok : Nat → Prop} {x : S48} {cs : List Value} (h : k48.M w base ok x cs) : ∃ v0, cs = [v0] ∧ k86.R 86 w base ok v0 x.f0 := by
  obtain ⟨v0, rfl, g0⟩ := h
  exact ⟨v0, rfl, g0⟩
theorem k48_mk (w : World) (x : S48) {A0 : Option Addr} {c0 : Nat} (l0 : x.f0.length ≤ c0) (g0 : k86.C w A0 x.f0.length x.f0) : k48.K w x [.slice A0 x.f0.length c0] := ⟨A0, c0, rfl, l0, g0⟩
theorem k48_mkM (w : World) (base : Nat) (ok : Nat → Prop) (x : S48) {v0 : Value} (g0 : k86.R 86 w base ok v0 x.f0) : k48.M w base ok x [v0] := ⟨v0, rfl, g0⟩
def rd_T48 (xs : List S48) (i : Int) : S48 := xs.getD i.toNat z48
theorem at_T48 {w : World} {A : Option Addr} {n : Nat} {xs : List S48} (h : Kd.C k48 w A n xs) (i : Int) (h0 : 0 ≤ i) (h1 : i < n) : ∃ ad A0 c0, A = some ad ∧ w.cell? (ad.add i.toNat) = some (.slice A0 (rd_T48 xs i).f0.length c0) ∧ (rd_T48 xs i).f0.length ≤ c0 ∧ k86.C w A0 (rd_T48 xs i).f0.length (rd_T48 xs i).f0 := by
  obtain ⟨ad, c, e, _, hK, hc0⟩ := Kd.C_get h z48 i h0 h1
  have hc : ∀ j u, c[j]? = some u → w.cell? (ad.add (i.toNat * 1 + j)) = some u := hc0
  obtain ⟨A0, c0, rfl, l0, g0⟩ := k48_open hK
  exact ⟨ad, A0, c0, e, by have hq := hc 0 _ rfl; rwa [Nat.mul_one, Nat.add_zero] at hq, l0, g0⟩
theorem at_T48_kept {w : World} {S : Nat → Prop} {A : Option Addr} {n : Nat} {xs : List S48} (h : ∀ W', Kept w W' S → Kd.C k48 W' A n xs) (i : Int) (h0 : 0 ≤ i) (h1 : i < n) : ∃ ad A0 c0, A = some ad ∧ (∀ W', Kept w W' S → W'.cell? (ad.add i.toNat) = some (.slice A0 (rd_T48 xs i).f0.length c0)) ∧ (rd_T48 xs i).f0.length ≤ c0 ∧ (∀ W', Kept w W' S → k86.C W' A0 (rd_T48 xs i).f0.length (rd_T48 xs i).f0) := by
  obtain ⟨ad, A0, c0, e, hx0, hl0, hi0⟩ := at_T48 (h w (Kept.refl _ _)) i h0 h1
  have hb : ¬ S (ad.add i.toNat).block := by
    intro hs
    obtain ⟨ad', A0', c0', e', hy0, _⟩ := at_T48 (h _ ((Kept.refl w S).setCell (p := (ad.add i.toNat)) (.inl hs) (.pointer none))) i h0 h1
    obtain rfl := Option.some.inj (e.symm.trans e')
    have hz := hy0.symm.trans (World.cell?_setCell_same w (ad.add i.toNat) _ hx0)
    cases hz
  refine ⟨ad, A0, c0, e, fun W' hk => cell_kept hx0 hk hb, hl0, fun W' hk => ?_⟩
  · obtain ⟨ad', A0', c0', e', hy0, hm0, hj0⟩ := at_T48 (h W' hk) i h0 h1
    obtain rfl := Option.some.inj (e.symm.trans e')
    have hz := Option.some.inj (hy0.symm.trans (cell_kept hx0 hk hb))
    injection hz with hz1 hz2 hz3
    rw [hz1] at hj0
    exact hj0


/-! #### struct type 54 -/
structure S54 where
  f0 : Int
  f1 : Int
  f2 : ByteArray
def z54 : S54 := ⟨(0 : Int), (0 : Int), (⟨#[]⟩ : ByteArray)⟩
def k54 : Kd S54 := Kd.iso (Kd.pair (Kd.int .i64) (Kd.pair (Kd.int .i64) Kd.string)) (fun x : S54 => (x.f0, x.f1, x.f2))
theorem k54_open {w : World} {x : S54} {cs : List Value} (h : k54.K w x cs) : cs = [.int .i64 x.f0, .int .i64 x.f1, .string x.f2] := by
  obtain ⟨_, _, rfl, rfl, ⟨_, _, rfl, rfl, rfl⟩⟩ := h
  exact rfl
theorem k54_openM {w : World} {base : Nat} {ok : Nat → Prop} {x : S54} {cs : List Value} (h : k54.M w base ok x cs) : cs = [.int .i64 x.f0, .int .i64 x.f1, .string x.f2] := by
  obtain ⟨_, _, rfl, rfl, ⟨_, _, rfl, rfl, rfl⟩⟩ := h
  exact rfl
theorem k54_mk (w : World) (x : S54)  : k54.K w x [.int .i64 x.f0, .int .i64 x.f1, .string x.f2] := ⟨[.int .i64 x.f0], [.int .i64 x.f1, .string x.f2], rfl, rfl, ⟨[.int .i64 x.f1], [.string x.f2], rfl, rfl, rfl⟩⟩
theorem k54_mkM (w : World) (base : Nat) (ok : Nat → Prop) (x : S54)  : k54.M w base ok x [.int .i64 x.f0, .int .i64 x.f1, .string x.f2] := ⟨[.int .i64 x.f0], [.int .i64 x.f1, .string x.f2], rfl, rfl, ⟨[.int .i64 x.f1], [.string x.f2], rfl, rfl, rfl⟩⟩
def rd_T54 (xs : List S54) (i : Int) : S54 := xs.getD i.toNat z54
theorem at_T54 {w : World} {A : Option Addr} {n : Nat} {xs : List S54} (h : Kd.C k54 w A n xs) (i : Int) (h0 : 0 ≤ i) (h1 : i < n) : ∃ ad , A = some ad ∧ w.cell? (ad.add (i.toNat * 3)) = some (.int .i64 (rd_T54 xs i).f0) ∧ w.cell? ⟨(ad.add (i.toNat * 3)).block, (ad.add (i.toNat * 3)).off + 1, none⟩ = some (.int .i64 (rd_T54 xs i).f1) ∧ w.cell? ⟨(ad.add (i.toNat * 3)).block, (ad.add (i.toNat * 3)).off + 2, none⟩ = some (.string (rd_T54 xs i).f2) := by
  obtain ⟨ad, c, e, _, hK, hc0⟩ := Kd.C_get h z54 i h0 h1
  have hc : ∀ j u, c[j]? = some u → w.cell? (ad.add (i.toNat * 3 + j)) = some u := hc0
  obtain rfl := k54_open hK
  exact ⟨ad, e, hc 0 _ rfl, by rw [← add_field _ _ 1 (by omega)]; exact hc 1 _ rfl, by rw [← add_field _ _ 2 (by omega)]; exact hc 2 _ rfl⟩

def rd_L6 (xs : List (List S54)) (i : Int) : (List S54) := xs.getD i.toNat ([] : List S54)
theorem at_L6 {w : World} {A : Option Addr} {n : Nat} {xs : List (List S54)} (h : Kd.C (Kd.slice 54 k54) w A n xs) (i : Int) (h0 : 0 ≤ i) (h1 : i < n) : ∃ ad A0 c0, A = some ad ∧ w.cell? (ad.add i.toNat) = some (.slice A0 (rd_L6 xs i).length c0) ∧ (rd_L6 xs i).length ≤ c0 ∧ k54.C w A0 (rd_L6 xs i).length (rd_L6 xs i) := by
  obtain ⟨ad, c, e, _, hK, hc0⟩ := Kd.C_get h ([] : List S54) i h0 h1
  have hc : ∀ j u, c[j]? = some u → w.cell? (ad.add (i.toNat * 1 + j)) = some u := hc0
  obtain ⟨A0, c0, rfl, l0, g0⟩ := hK
  exact ⟨ad, A0, c0, e, by have hq := hc 0 _ rfl; rwa [Nat.mul_one, Nat.add_zero] at hq, l0, g0⟩
theorem at_L6_kept {w : World} {S : Nat → Prop} {A : Option Addr} {n : Nat} {xs : List (List S54)} (h : ∀ W', Kept w W' S → Kd.C (Kd.slice 54 k54) W' A n xs) (i : Int) (h0 : 0 ≤ i) (h1 : i < n) : ∃ ad A0 c0, A = some ad ∧ (∀ W', Kept w W' S → W'.cell? (ad.add i.toNat) = some (.slice A0 (rd_L6 xs i).length c0)) ∧ (rd_L6 xs i).length ≤ c0 ∧ (∀ W', Kept w W' S → k54.C W' A0 (rd_L6 xs i).length (rd_L6 xs i)) := by
  obtain ⟨ad, A0, c0, e, hx0, hl0, hi0⟩ := at_L6 (h w (Kept.refl _ _)) i h0 h1
  have hb : ¬ S (ad.add i.toNat).block := by
    intro hs
    obtain ⟨ad', A0', c0', e', hy0, _⟩ := at_L6 (h _ ((Kept.refl w S).setCell (p := (ad.add i.toNat)) (.inl hs) (.pointer none))) i h0 h1
    obtain rfl := Option.some.inj (e.symm.trans e')
    have hz := hy0.symm.trans (World.cell?_setCell_same w (ad.add i.toNat) _ hx0)
    cases hz
  refine ⟨ad, A0, c0, e, fun W' hk => cell_kept hx0 hk hb, hl0, fun W' hk => ?_⟩
  · obtain ⟨ad', A0', c0', e', hy0, hm0, hj0⟩ := at_L6 (h W' hk) i h0 h1
    obtain rfl := Option.some.inj (e.symm.trans e')
    have hz := Option.some.inj (hy0.symm.trans (cell_kept hx0 hk hb))
    injection hz with hz1 hz2 hz3
    rw [hz1] at hj0
    exact hj0


/-! #### struct type 51 -/
structure S51 where
  f0 : (List S54)
def z51 : S51 := ⟨([] : List S54)⟩
def k51 : Kd S51 := Kd.iso (Kd.slice 54 k54) (fun x : S51 => x.f0)
theorem k51_open {w : World} {x : S51} {cs : List Value} (h : k51.K w x cs) : ∃ A0 c0, cs = [.slice A0 x.f0.length c0] ∧ x.f0.length ≤ c0 ∧ k54.C w A0 x.f0.length x.f0 := by
  obtain ⟨A0, c0, rfl, l0, g0⟩ := h
  exact ⟨A0, c0, rfl, l0, g0⟩
theorem k51_openM {w : World} {base : Nat} {ok : Nat → Prop} {x : S51} {cs : List Value} (h : k51.M w base ok x cs) : ∃ v0, cs = [v0] ∧ k54.R 54 w base ok v0 x.f0 := by
  obtain ⟨v0, rfl, g0⟩ := h
  exact ⟨v0, rfl, g0⟩
theorem k51_mk (w : World) (x : S51) {A0 : Option Addr} {c0 : Nat} (l0 : x.f0.length ≤ c0) (g0 : k54.C w A0 x.f0.length x.f0) : k51.K w x [.slice A0 x.f0.length c0] := ⟨A0, c0, rfl, l0, g0⟩
theorem k51_mkM (w : World) (base : Nat) (ok : Nat → Prop) (x : S51) {v0 : Value} (g0 : k54.R 54 w base ok v0 x.f0) : k51.M w base ok x [v0] := ⟨v0, rfl, g0⟩
def rd_T51 (xs : List S51) (i : Int) : S51 := xs.getD i.toNat z51
theorem at_T51 {w : World} {A : Option Addr} {n : Nat} {xs : List S51} (h : Kd.C k51 w A n xs) (i : Int) (h0 : 0 ≤ i) (h1 : i < n) : ∃ ad A0 c0, A = some ad ∧ w.cell? (ad.add i.toNat) = some (.slice A0 (rd_T51 xs i).f0.length c0) ∧ (rd_T51 xs i).f0.length ≤ c0 ∧ k54.C w A0 (rd_T51 xs i).f0.length (rd_T51 xs i).f0 := by
  obtain ⟨ad, c, e, _, hK, hc0⟩ := Kd.C_get h z51 i h0 h1
  have hc : ∀ j u, c[j]? = some u → w.cell? (ad.add (i.toNat * 1 + j)) = some u := hc0
  obtain ⟨A0, c0, rfl, l0, g0⟩ := k51_open hK
  exact ⟨ad, A0, c0, e, by have hq := hc 0 _ rfl; rwa [Nat.mul_one, Nat.add_zero] at hq, l0, g0⟩
theorem at_T51_kept {w : World} {S : Nat → Prop} {A : Option Addr} {n : Nat} {xs : List S51} (h : ∀ W', Kept w W' S → Kd.C k51 W' A n xs) (i : Int) (h0 : 0 ≤ i) (h1 : i < n) : ∃ ad A0 c0, A = some ad ∧ (∀ W', Kept w W' S → W'.cell? (ad.add i.toNat) = some (.slice A0 (rd_T51 xs i).f0.length c0)) ∧ (rd_T51 xs i).f0.length ≤ c0 ∧ (∀ W', Kept w W' S → k54.C W' A0 (rd_T51 xs i).f0.length (rd_T51 xs i).f0) := by
  obtain ⟨ad, A0, c0, e, hx0, hl0, hi0⟩ := at_T51 (h w (Kept.refl _ _)) i h0 h1
  have hb : ¬ S (ad.add i.toNat).block := by
    intro hs
    obtain ⟨ad', A0', c0', e', hy0, _⟩ := at_T51 (h _ ((Kept.refl w S).setCell (p := (ad.add i.toNat)) (.inl hs) (.pointer none))) i h0 h1
    obtain rfl := Option.some.inj (e.symm.trans e')
    have hz := hy0.symm.trans (World.cell?_setCell_same w (ad.add i.toNat) _ hx0)
    cases hz
  refine ⟨ad, A0, c0, e, fun W' hk => cell_kept hx0 hk hb, hl0, fun W' hk => ?_⟩
  · obtain ⟨ad', A0', c0', e', hy0, hm0, hj0⟩ := at_T51 (h W' hk) i h0 h1
    obtain rfl := Option.some.inj (e.symm.trans e')
    have hz := Option.some.inj (hy0.symm.trans (cell_kept hx0 hk hb))
    injection hz with hz1 hz2 hz3
    rw [hz1] at hj0
    exact hj0


def rd_L9 (xs : List (List Int)) (i : Int) : (List Int) := xs.getD i.toNat ([] : List Int)
theorem at_L9 {w : World} {A : Option Addr} {n : Nat} {xs : List (List Int)} (h : Kd.C (Kd.slice 3 (Kd.int .i64)) w A n xs) (i : Int) (h0 : 0 ≤ i) (h1 : i < n) : ∃ ad A0 c0, A = some ad ∧ w.cell? (ad.add i.toNat) = some (.slice A0 (rd_L9 xs i).length c0) ∧ (rd_L9 xs i).length ≤ c0 ∧ (Kd.int .i64).C w A0 (rd_L9 xs i).length (rd_L9 xs i) := by
  obtain ⟨ad, c, e, _, hK, hc0⟩ := Kd.C_get h ([] : List Int) i h0 h1
  have hc : ∀ j u, c[j]? = some u → w.cell? (ad.add (i.toNat * 1 + j)) = some u := hc0
  obtain ⟨A0, c0, rfl, l0, g0⟩ := hK
  exact ⟨ad, A0, c0, e, by have hq := hc 0 _ rfl; rwa [Nat.mul_one, Nat.add_zero] at hq, l0, g0⟩
theorem at_L9_kept {w : World} {S : Nat → Prop} {A : Option Addr} {n : Nat} {xs : List (List Int)} (h : ∀ W', Kept w W' S → Kd.C (Kd.slice 3 (Kd.int .i64)) W' A n xs) (i : Int) (h0 : 0 ≤ i) (h1 : i < n) : ∃ ad A0 c0, A = some ad ∧ (∀ W', Kept w W' S → W'.cell? (ad.add i.toNat) = some (.slice A0 (rd_L9 xs i).length c0)) ∧ (rd_L9 xs i).length ≤ c0 ∧ (∀ W', Kept w W' S → (Kd.int .i64).C W' A0 (rd_L9 xs i).length (rd_L9 xs i)) := by
  obtain ⟨ad, A0, c0, e, hx0, hl0, hi0⟩ := at_L9 (h w (Kept.refl _ _)) i h0 h1
  have hb : ¬ S (ad.add i.toNat).block := by
    intro hs
    obtain ⟨ad', A0', c0', e', hy0, _⟩ := at_L9 (h _ ((Kept.refl w S).setCell (p := (ad.add i.toNat)) (.inl hs) (.pointer none))) i h0 h1
    obtain rfl := Option.some.inj (e.symm.trans e')
    have hz := hy0.symm.trans (World.cell?_setCell_same w (ad.add i.toNat) _ hx0)
    cases hz
  refine ⟨ad, A0, c0, e, fun W' hk => cell_kept hx0 hk hb, hl0, fun W' hk => ?_⟩
  · obtain ⟨ad', A0', c0', e', hy0, hm0, hj0⟩ := at_L9 (h W' hk) i h0 h1
    obtain rfl := Option.some.inj (e.symm.trans e')
    have hz := Option.some.inj (hy0.symm.trans (cell_kept hx0 hk hb))
    injection hz with hz1 hz2 hz3
    rw [hz1] at hj0
    exact hj0


end Go.Proofs.Ytkanefpoibgknaa.Q
