-- Printed by a program of this project's own, for this seat.
import Derived.Test.YthocdlaajncmpaaRows
import Derived.Test.YthocdlaajncmpaaQ10
import Derived.Test.YthocdlaajncmpaaPureFnExactDictSame
import Derived.Test.YthocdlaajncmpaaDiRow
import Derived.WalkKit
import Derived.ProofKit
import Derived.OpenShut
import Derived.ShutString
import Derived.ChangeOld
import Derived.Below
import Derived.SizedLaws
namespace Go.Proofs.Ythocdlaajncmpaa.fnExactDictSame
open Go.ChangeShapes Go.WideShapes Go.ChangeAt Go.RowKit
set_option linter.unusedVariables false
theorem own : ownKnob Try.prog.godebug = none := by kernel_rfl
theorem laidOut : laidOutB Try.prog = true := by kernel_rfl
set_option maxRecDepth 100000 in
theorem lifted (os : Os) (started : os.Started) (H : Type) (enc : TypeId × Value → H) :
    ReturnsInHanded {} Try.checked os 3 .any (Rows.fnExactDictSameSpec.pre6 enc Try.prog Try.f3 Rows.fnExactDictSameRow.domain false) (Rows.fnExactDictSameSpec.post enc Try.prog Try.f3 false true false false) := by
  refine returnsInHanded_of_change_sized (C := Try.checked) own started (by kernel_rfl) Try.func3
    (ChangeSpec.witness6 (enc := enc) (C := Try.checked) false ⟨#[], #[.agg #[.slice none 0 0, .slice none 0 0], .agg #[.slice none 0 0, .slice none 0 0]], []⟩ 8 (by kernel_rfl) (by kernel_rfl) (by kernel_rfl) (by kernel_rfl)) ?_
  intro W base args ds gs before hval0 hW hcnd hsz0 _
  have hval : ∀ (j : Nat) t v, Try.f3.params[j]? = some t → args[j]? = some v → Value.okWide Try.prog W .any base t v := hval0
  have hW' := hW
  obtain ⟨p, q, hA0, hV, rfl, hfz, hnd⟩ := hW
  have hA : DataW.TrodAll enc Try.prog W 0 (fun _ => true) true Try.f3.params.toList args.toList ds p := hA0
  rw [Try.params3] at hA hval
  obtain ⟨v0, vs0, d0, ds0, p0, q0, hargs, rfl, rfl, h0, r0⟩ := trodAll_cons hA
  obtain ⟨v1, vs1, d1, ds1, p1, q1, rfl, rfl, rfl, h1, r1⟩ := trodAll_cons r0
  obtain ⟨rfl, rfl, rfl⟩ := trodAll_nil r1
  obtain rfl : args = #[v0, v1] := by cases args; simp_all
  obtain ⟨rfl, rfl⟩ := trodVars_none hV
  obtain ⟨cs0, rfl, -⟩ := okWide_struct Try.underlying25 (hval 0 25 v0 rfl rfl)
  have k0 := h0
  have lt0 : ∀ x ∈ p0, x.block < W.heap.size := by obtain ⟨m, hm⟩ := k0; exact DataW.trod_lt m _ _ _ hm
  obtain ⟨m0, hm0⟩ := h0
  obtain ⟨z0, hz0, w0⟩ := DI.o25 W H enc m0 _ _ hm0
  obtain ⟨x0, y0, e0, ⟨b0, c0, ex0, hc0, hr0⟩, ⟨b0', c0', ey0, hc0', hr0'⟩⟩ := hz0
  rw [ex0, ey0] at e0
  have e0' : cs0.toList = [Value.slice b0 z0.1.length c0, Value.slice b0' z0.2.length c0'] := by first | exact e0 | exact e0.symm
  obtain rfl : cs0 = #[Value.slice b0 z0.1.length c0, Value.slice b0' z0.2.length c0'] := Array.toList_inj.1 e0'
  obtain ⟨cs1, rfl, -⟩ := okWide_struct Try.underlying25 (hval 1 25 v1 rfl rfl)
  have k1 := h1
  have lt1 : ∀ x ∈ p1, x.block < W.heap.size := by obtain ⟨m, hm⟩ := k1; exact DataW.trod_lt m _ _ _ hm
  obtain ⟨m1, hm1⟩ := h1
  obtain ⟨z1, hz1, w1⟩ := DI.o25 W H enc m1 _ _ hm1
  obtain ⟨x1, y1, e1, ⟨b1, c1, ex1, hc1, hr1⟩, ⟨b1', c1', ey1, hc1', hr1'⟩⟩ := hz1
  rw [ex1, ey1] at e1
  have e1' : cs1.toList = [Value.slice b1 z1.1.length c1, Value.slice b1' z1.2.length c1'] := by first | exact e1 | exact e1.symm
  obtain rfl : cs1 = #[Value.slice b1 z1.1.length c1, Value.slice b1' z1.2.length c1'] := Array.toList_inj.1 e1'
  obtain ⟨k, hk⟩ := Pure.FnExactDictSame z0.1 z0.2 z1.1 z1.2 w0 w1
  refine (Q.laws_FnExactDictSame.calls k _ _ z0.1 _ _ z0.2 _ _ z1.1 _ _ z1.2 true W hr0 hc0 hr0' hc0' hr1 hc1 hr1' hc1' hk).mono fun e W' ⟨he, bel⟩ => ?_
  subst he
  exact ⟨_, rfl, _, _, _, [], _, [], hW', trodAll_mk1 (shut_bool Try.underlying4 _), (trodAll_cons_mk (Below.trod laidOut (by kernel_rfl) (of_decide_eq_true (by kernel_rfl)) k0 bel lt0) (trodAll_cons_mk (Below.trod laidOut (by kernel_rfl) (of_decide_eq_true (by kernel_rfl)) k1 bel lt1) trodAll_mk0)), rfl, bel.frame _, fun h => by cases h⟩
theorem over : Rows.fnExactDictSameRow.holds Try.pinned (OpenSpec.ofChange Rows.fnExactDictSameSpec) :=
  OpenClaim.holds_of_wide 3 Try.f3 rfl rfl rfl rfl rfl rfl rfl ⟨rfl, rfl, rfl, rfl, rfl⟩ rfl rfl rfl rfl rfl (by kernel_rfl) Try.func3 (by kernel_rfl)
    (of_decide_eq_true (by kernel_rfl)) (by unfold Func.isWrapper; first | (rw [if_pos (by decide +kernel)]; kernel_rfl) | (rw [if_neg (by decide +kernel)]; exact ⟨rfl, rfl⟩))
    (fun os started H enc _ => lifted os started H enc)
theorem proved : Rows.FnExactDictSameSaid := over
#print axioms proved
end Go.Proofs.Ythocdlaajncmpaa.fnExactDictSame
namespace Go.Proofs.Ythocdlaajncmpaa
/-- The row, under a short name, for the claim. -/
theorem fnExactDictSame_holds : Rows.FnExactDictSameSaid := fnExactDictSame.proved
end Go.Proofs.Ythocdlaajncmpaa
