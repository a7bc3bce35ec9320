-- Printed by a program of this project's own, for this seat.
import Derived.Test.YtmchcbpjgkgejaaProg
import Derived.Below
import Derived.Deep.Draws
import Derived.Deep.AppendLies
import Derived.Maps.AppendAt
import Derived.OwnWalk
import Derived.Laws.BytesArg
import Derived.Laws.MakeOwn
import Derived.Laws.OwnMore
import Derived.Deep.OwnRows
import Derived.Tactics
import Derived.Lib.ConvBytes
import Derived.Laws.Slices
import Derived.WalkKit
import Derived.KernelRfl
import Derived.RowKit3
import Derived.Deep.LoopGhost
import Derived.Deep.QuietTactic
import Derived.BigQuiet
import Derived.WideLaws
import Derived.Deep.DeepCutAuto
import Derived.Deep.CutBlock
import Derived.Deep.RegionHeld3
import Derived.Laws.Rows
import Derived.Lib.AppendStr
import Derived.ArgAppend
import Derived.Laws.IdiomCopy
import Derived.OrdersHeld
import Derived.Laws.BitsLemmas
import Derived.RowKit
import Derived.Lib.RepeatB
import Derived.Shelf.Bits.Mul64
import Derived.Shelf.Strings.Builder1
import Derived.Shelf.Strings.Builder2
import Derived.Shelf.Strings.BuilderF
import Derived.Shelf.Strings.Prefix
import Derived.Test.YtmchcbpjgkgejaaV
namespace Go.Proofs.Ytmchcbpjgkgejaa.Q
open Go.RowKit Go.Proofs.YtmchcbpjgkgejaaW.PrintWords Go.Proofs.YtmchcbpjgkgejaaW.PrintLast Go.Proofs.YtmchcbpjgkgejaaW.PrintMore
attribute [local go_sem] max2_int min2_int max_two min_two max_three min_three max_four min_four   -- for this text's walks alone
set_option linter.unusedVariables false
set_option linter.unusedSimpArgs false

theorem px_w256 (n : Int) : wrap64 (n % 256) = n % 256 := by unfold wrap64; omega
theorem px_self {w : World} {p q : Addr} {v u : Value} (hp : w.cell? p = some v) (hq : w.cell? q = some u) : (w.setCell p v).cell? q = some u := by
  by_cases e : p = q
  · subst e; rw [World.cell?_setCell_same (h := hp)]; exact hp.symm.trans hq
  · rw [World.cell?_setCell_other (h := e)]; exact hq
theorem px_make0 {P : Program} {ops : Array Oper} {rest : List Oper} {o : Oper} {a : Act} {Q : Exit → Act → World → Prop} {α : Type} (d : Kd α) {w0 W : World} (base e : Nat) (hgd : o.guard = none) {N : Tmp} (hd : o.dst = some N) (t : TypeId) (x y : Operand) (ho : o.op = .makeSlice t x y) (n : Int) (hx : a.eval x = .int .i64 0) (hy : a.eval y = .int .i64 n)
    (ht : P.underlying t = some (.slice e)) (z : Value) (bytes : Nat) (hinfo : (P.info? e).map (fun i => (i.zero, i.size, i.bytes)) = some (some z, d.sz, bytes)) {ok : Nat → Prop} (hfresh : ok W.heap.size) (h0 : 0 ≤ n) (hl : n.toNat * bytes ≤ 281474976710656) (hb0 : 0 < bytes) (HB : Below base w0 W) (hbase : base ≤ W.heap.size)
    (h : ∀ v1 w1, d.R e w1 base ok v1 [] → Below base w0 w1 → W.grownBy w1 none → (∃ b, v1.ownBlock = some b ∧ W.heap.size ≤ b) → wpList P ops Q rest (a.put o.dst v1) w1) : wpList P ops Q (o :: rest) a W := by
  obtain ⟨m, rfl⟩ := Int.eq_ofNat_of_zero_le h0
  simp only [Int.toNat_natCast] at hl
  obtain ⟨i0, hi, hzz⟩ := Option.map_eq_some_iff.1 hinfo
  simp only [Prod.mk.injEq] at hzz
  obtain ⟨hz0, hz1, hz2⟩ := hzz
  have hm : m ≤ 281474976710656 := Nat.le_trans (Nat.le_mul_of_pos_right _ hb0) hl
  obtain ⟨w', hr, hown, hg⟩ := run_make_own (P := P) W base t e i0 z d.sz ht hi hz0 hz1 .i64 .i64 m (by rw [hz2, Nat.mul_comm]; exact hl) (by unfold maxLen; omega) hbase
  refine Kd.event_run hgd (by simp [execOp, ho, hx, hy, hr]) (h _ _ ⟨fun k hk => ?_, [], hown, Reps.none _ _⟩ (HB.grown hg hbase (fun k hk => by cases hk)) hg ⟨W.heap.size, rfl, Nat.le_refl _⟩)
  have : W.heap.size = k := by simpa [Value.ownBlock] using hk
  subst this
  exact hfresh
theorem px_emp {α : Type} [BEq α] (l : List α) : Value.bool (!l.isEmpty) = Value.bool (l != []) := by cases l <;> rfl
/-- The operations that have run, and those that have not: a short form for the listings of long texts. -/
abbrev px_l (a b : Nat) : Array Bool := ⟨List.replicate a true ++ List.replicate b false⟩
theorem px_a {α : Type} (l : List α) (i : Nat) (x : α) : l.toArray.setIfInBounds i x = (l.set i x).toArray := List.setIfInBounds_toArray l i x
theorem px_b {α : Type} (a : α) (l : List α) (x : α) : (a :: l).set 0 x = x :: l := rfl
theorem px_c {α : Type} (a : α) (l : List α) (n : Nat) (x : α) : (a :: l).set (n + 1) x = a :: l.set n x := rfl
/-- A fact as it stands, carried over what was made or drawn since: a short form for long texts. -/
theorem px_rV {q p : Prop} (x : q) (h : q → p := by intro h_; (with_reducible repeat (first | apply Kd.R_alloc | apply Kd.R_drewN | apply Kd.R_drew)); exact h_) : p := h x
theorem px_bV {q p : Prop} (x : q) (h : q → p := by intro h_; (with_reducible repeat (first | refine blk_drewN ?_ _ | refine blk_drew ?_ | refine blk_alloc ?_ _)); exact h_) : p := h x
/-! Short forms for long texts: what a list of tactics shows is a premise that they prove. -/
theorem px_h0 {q p : Prop} (x : q) (h : q → p := by intro h_; repeat (first | (with_reducible first | exact h_ | apply below_alloc | apply pw_below_drewN | apply below_drew1) | exact h_)) : p := h x
theorem px_h1 {q g0 p : Prop} (x : q) (a0 : g0) (h : q → g0 → p := by intro h_ b0_; repeat (first | (with_reducible first | exact h_ | apply below_alloc | apply pw_below_drewN | apply below_drew1 | refine below_set ?_ b0_) | exact h_)) : p := h x a0
theorem px_h2 {q g0 g1 p : Prop} (x : q) (a0 : g0) (a1 : g1) (h : q → g0 → g1 → p := by intro h_ b0_ b1_; repeat (first | (with_reducible first | exact h_ | apply below_alloc | apply pw_below_drewN | apply below_drew1 | refine below_set ?_ b0_ | refine below_set ?_ b1_) | exact h_)) : p := h x a0 a1
theorem px_h3 {q g0 g1 g2 p : Prop} (x : q) (a0 : g0) (a1 : g1) (a2 : g2) (h : q → g0 → g1 → g2 → p := by intro h_ b0_ b1_ b2_; repeat (first | (with_reducible first | exact h_ | apply below_alloc | apply pw_below_drewN | apply below_drew1 | refine below_set ?_ b0_ | refine below_set ?_ b1_ | refine below_set ?_ b2_) | exact h_)) : p := h x a0 a1 a2
theorem px_h4 {q g0 g1 g2 g3 p : Prop} (x : q) (a0 : g0) (a1 : g1) (a2 : g2) (a3 : g3) (h : q → g0 → g1 → g2 → g3 → p := by intro h_ b0_ b1_ b2_ b3_; repeat (first | (with_reducible first | exact h_ | apply below_alloc | apply pw_below_drewN | apply below_drew1 | refine below_set ?_ b0_ | refine below_set ?_ b1_ | refine below_set ?_ b2_ | refine below_set ?_ b3_) | exact h_)) : p := h x a0 a1 a2 a3
theorem px_dn {p : Prop} (h : p := by (try simp only [List.map_toArray, List.map_cons, List.map_nil]); first | done | rfl | (simp only [List.length_drop, List.length_take]; rfl)) : p := h
theorem px_od {p : Prop} [Decidable p] (h : decide p = true := by first | (with_reducible assumption) | assumption) : p := of_decide_eq_true h
theorem px_q : (∀ (a : Act) (v : Value), a.put none v = a) ∧ (∀ (a : Act) (t : Tmp) (v : Value), a.put (some t) v = { a with tmps := a.tmps.setIfInBounds t v }) ∧ (∀ (α : Type) (l : List α) (i : Nat) (x : α), l.toArray.setIfInBounds i x = (l.set i x).toArray) ∧ (∀ (α : Type) (a : α) (l : List α) (x : α), (a :: l).set 0 x = x :: l) ∧ (∀ (α : Type) (a : α) (l : List α) (n : Nat) (x : α), (a :: l).set (n + 1) x = a :: l.set n x) ∧ (∀ n : Int, IntKind.i64.wrap n = wrap64 n) ∧ (∀ n : Int, IntKind.i32.wrap n = wrap32 n) ∧ (∀ n : Int, wrap64 (n % 256) = n % 256) :=
  ⟨fun _ _ => rfl, fun _ _ _ => rfl, fun _ l i x => List.setIfInBounds_toArray l i x, fun _ _ _ _ => rfl, fun _ _ _ _ _ => rfl, i64_w, i32_w, px_w256⟩
theorem px_cV {q p : Prop} (x : q) (h : q → p := by intro h_; repeat (first | exact h_ | (with_reducible refine Kd.C_alloc ?_ _) | (with_reducible refine Kd.C_drewN ?_ _) | (with_reducible refine Kd.C_drew ?_))) : p := h x
theorem px_hx {w W : World} {p : Addr} {v : Value} (h : Below w.heap.size w W) (hx : w.cell? p = some v) : W.cell? p = some v := (h.cell (World.block_lt_of_cell? w _ hx)).trans hx
theorem px_rf {p : Prop} (h : p := by first | rfl | (simp; done) | (simp [*]; done)) : p := h
theorem aM {p : Prop} (h : p) : Aside0 p := ⟨h⟩
theorem px_s {a b : Nat → Prop} : ∀ k, a k ∧ b k → b k := fun _ h => h.2
theorem px_f {a b : Nat → Prop} : ∀ k, a k ∧ b k → a k := fun _ h => h.1
theorem px_nilof {α : Type} {d : Kd α} {e base : Nat} {w : World} {ok : Nat → Prop} {v : Value} {xs : List α} (_ : Kd.S d e w base ok v xs) (w' : World) : Kd.S d e w' base ok (.slice none 0 0) [] := Kd.S_nil _ _ _ _ _
theorem px_len {α : Type} {R : α → List Value → Prop} {s n m : Nat} {w : World} {A : Option Addr} {l : List α} (e : m = n) (h : ReadsRow R s w A m l) : ReadsRow R s w A n l := e ▸ h
theorem px_div {c : Int} {n : Nat} (h0 : 0 ≤ c) (h1 : c ≤ 9223372036854775807) : wrap64 (c / (n : Int)) = c / (n : Int) := by
  have h2 : 0 ≤ c / (n : Int) := Int.ediv_nonneg h0 (Int.natCast_nonneg n)
  have h3 := Int.ediv_le_self (n : Int) h0
  unfold wrap64
  omega


def errW : Option Int → Value
  | none => .nilIface
  | some c => .iface 0 (.int .i64 c)
theorem errW_none : errW none = .nilIface := rfl
theorem errW_some (c : Int) : errW (some c) = .iface 0 (.int .i64 c) := rfl

theorem info3 : (Try.prog.info? 3).map (fun i => (i.zero, i.size, i.bytes)) = some (some (.int .i64 0), 1, 8) := by kernel_rfl
theorem info5 : (Try.prog.info? 5).map (fun i => (i.zero, i.size, i.bytes)) = some (some (.int .u8 0), 1, 1) := by kernel_rfl
theorem info9 : (Try.prog.info? 9).map (fun i => (i.zero, i.size, i.bytes)) = some (some (.string ⟨#[]⟩), 1, 16) := by kernel_rfl
-- the values' own types

end Go.Proofs.Ytmchcbpjgkgejaa.Q
