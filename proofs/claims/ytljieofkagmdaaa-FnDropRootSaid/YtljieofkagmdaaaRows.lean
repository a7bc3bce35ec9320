/-
  No cell of these rows narrows 'for every input' (looked for: loops, veiled, ifaces, maps, wideKeys, modest, calm, conditions, laid).
  DERIVED. THE GIVEN ROWS OF THIS SEAT. 9 by the template 'for every input the law returns true; each argument reads behind the call as it read before'; 0 by the template 'total and deterministic' (their statements: YtljieofkagmdaaaTotals.lean).
  GIVEN WITH THE SEED: the statements are not yours to turn. If you find one false, say at which input.
  Laid BY PROGRAM, IN A SANDBOX (cutbox-rows.mjs): the forced cells as the released guide's own fill.sh prints them over the translation 3b800c9c10f9509d… (all of the seat's roots in one cut). By AI agents, Wed Nov 11 2026. No macro, syntax, notation, axiom, sorry.
-/
import Derived.Test.YtljieofkagmdaaaChecked
import GoSem.Claim
import GoSem.ClaimJoined
import GoSem.ClaimMapViews
import Derived.JoinedTies
import Derived.KernelRfl
namespace Go.Proofs.Ytljieofkagmdaaa
/- THE CELL 'sum', in the pinned program and in every row, IS THE sha256 OF THE DUMP (.gsa) THAT YtljieofkagmdaaaProg.lean LOADS. Nothing in Lean hashes anything: it is a label: what it is worth is what the hold of that sum in a sandbox is worth. -/
noncomputable def Try.pinned : Pinned := { name := "ytljieofkagmdaaa", sum := "3b800c9c10f9509d7e158958d5d59a74f6a3c8db5c95ffed77be85ae5da296f7", checked := Try.checked }
namespace Rows
def none {H : Type} : Left H := { results := [], args := [] }

/-- 'laws.FnTrialOf': WHATEVER THE INPUT: true; the input reads as it did. -/
def fnTrialOfSpec : ChangeSpec := { name := "fnTrialOf", fn := fun _ => fun
  | [d] => { results := [.lit (.bool true)], args := [d] }
  | _ => none }
def fnTrialOfRow : OpenClaim := { program := "ytljieofkagmdaaa", sum := "3b800c9c10f9509d7e158958d5d59a74f6a3c8db5c95ffed77be85ae5da296f7", func := "loop.example/slowworm/laws.FnTrialOf", spec := "fnTrialOf", apart := false }
def FnTrialOfSaid : Prop := fnTrialOfRow.holds Try.pinned (OpenSpec.ofChange fnTrialOfSpec)

/-- ITS FALSE NEIGHBOUR: 'it returns false'. Refute it at one input. -/
def fnTrialOfWrong : ChangeSpec := { name := "fnTrialOf", fn := fun _ => fun
  | [d] => { results := [.lit (.bool false)], args := [d] }
  | _ => none }
def FnTrialOfWrongFalsely : Prop := fnTrialOfRow.holds Try.pinned (OpenSpec.ofChange fnTrialOfWrong)

/-- 'laws.FnFinalNone': WHATEVER THE INPUT: true; the input reads as it did. -/
def fnFinalNoneSpec : ChangeSpec := { name := "fnFinalNone", fn := fun _ => fun
  | [d] => { results := [.lit (.bool true)], args := [d] }
  | _ => none }
def fnFinalNoneRow : OpenClaim := { program := "ytljieofkagmdaaa", sum := "3b800c9c10f9509d7e158958d5d59a74f6a3c8db5c95ffed77be85ae5da296f7", func := "loop.example/slowworm/laws.FnFinalNone", spec := "fnFinalNone", unfollowed := true, recurses := true, apart := false }
def FnFinalNoneSaid : Prop := fnFinalNoneRow.holds Try.pinned (OpenSpec.ofChange fnFinalNoneSpec)

/-- ITS FALSE NEIGHBOUR: 'it returns false'. Refute it at one input. -/
def fnFinalNoneWrong : ChangeSpec := { name := "fnFinalNone", fn := fun _ => fun
  | [d] => { results := [.lit (.bool false)], args := [d] }
  | _ => none }
def FnFinalNoneWrongFalsely : Prop := fnFinalNoneRow.holds Try.pinned (OpenSpec.ofChange fnFinalNoneWrong)

/-- 'laws.FnWeakLeft': WHATEVER THE INPUT: true; the input reads as it did. -/
def fnWeakLeftSpec : ChangeSpec := { name := "fnWeakLeft", fn := fun _ => fun
  | [d] => { results := [.lit (.bool true)], args := [d] }
  | _ => none }
def fnWeakLeftRow : OpenClaim := { program := "ytljieofkagmdaaa", sum := "3b800c9c10f9509d7e158958d5d59a74f6a3c8db5c95ffed77be85ae5da296f7", func := "loop.example/slowworm/laws.FnWeakLeft", spec := "fnWeakLeft", apart := false }
def FnWeakLeftSaid : Prop := fnWeakLeftRow.holds Try.pinned (OpenSpec.ofChange fnWeakLeftSpec)

/-- ITS FALSE NEIGHBOUR: 'it returns false'. Refute it at one input. -/
def fnWeakLeftWrong : ChangeSpec := { name := "fnWeakLeft", fn := fun _ => fun
  | [d] => { results := [.lit (.bool false)], args := [d] }
  | _ => none }
def FnWeakLeftWrongFalsely : Prop := fnWeakLeftRow.holds Try.pinned (OpenSpec.ofChange fnWeakLeftWrong)

/-- 'laws.FnExactKeptBy': WHATEVER THE INPUT: true; the input reads as it did. -/
def fnExactKeptBySpec : ChangeSpec := { name := "fnExactKeptBy", fn := fun _ => fun
  | [d1, d2] => { results := [.lit (.bool true)], args := [d1, d2] }
  | _ => none }
def fnExactKeptByRow : OpenClaim := { program := "ytljieofkagmdaaa", sum := "3b800c9c10f9509d7e158958d5d59a74f6a3c8db5c95ffed77be85ae5da296f7", func := "loop.example/slowworm/laws.FnExactKeptBy", spec := "fnExactKeptBy", apart := false }
def FnExactKeptBySaid : Prop := fnExactKeptByRow.holds Try.pinned (OpenSpec.ofChange fnExactKeptBySpec)

/-- ITS FALSE NEIGHBOUR: 'it returns false'. Refute it at one input. -/
def fnExactKeptByWrong : ChangeSpec := { name := "fnExactKeptBy", fn := fun _ => fun
  | [d1, d2] => { results := [.lit (.bool false)], args := [d1, d2] }
  | _ => none }
def FnExactKeptByWrongFalsely : Prop := fnExactKeptByRow.holds Try.pinned (OpenSpec.ofChange fnExactKeptByWrong)

/-- 'laws.FnDropThenReach': WHATEVER THE INPUT: true; the input reads as it did. -/
def fnDropThenReachSpec : ChangeSpec := { name := "fnDropThenReach", fn := fun _ => fun
  | [d] => { results := [.lit (.bool true)], args := [d] }
  | _ => none }
def fnDropThenReachRow : OpenClaim := { program := "ytljieofkagmdaaa", sum := "3b800c9c10f9509d7e158958d5d59a74f6a3c8db5c95ffed77be85ae5da296f7", func := "loop.example/slowworm/laws.FnDropThenReach", spec := "fnDropThenReach", apart := false }
def FnDropThenReachSaid : Prop := fnDropThenReachRow.holds Try.pinned (OpenSpec.ofChange fnDropThenReachSpec)

/-- ITS FALSE NEIGHBOUR: 'it returns false'. Refute it at one input. -/
def fnDropThenReachWrong : ChangeSpec := { name := "fnDropThenReach", fn := fun _ => fun
  | [d] => { results := [.lit (.bool false)], args := [d] }
  | _ => none }
def FnDropThenReachWrongFalsely : Prop := fnDropThenReachRow.holds Try.pinned (OpenSpec.ofChange fnDropThenReachWrong)

/-- 'laws.FnDropRoot': WHATEVER THE INPUT: true; the input reads as it did. -/
def fnDropRootSpec : ChangeSpec := { name := "fnDropRoot", fn := fun _ => fun
  | [d] => { results := [.lit (.bool true)], args := [d] }
  | _ => none }
def fnDropRootRow : OpenClaim := { program := "ytljieofkagmdaaa", sum := "3b800c9c10f9509d7e158958d5d59a74f6a3c8db5c95ffed77be85ae5da296f7", func := "loop.example/slowworm/laws.FnDropRoot", spec := "fnDropRoot", apart := false }
def FnDropRootSaid : Prop := fnDropRootRow.holds Try.pinned (OpenSpec.ofChange fnDropRootSpec)

/-- ITS FALSE NEIGHBOUR: 'it returns false'. Refute it at one input. -/
def fnDropRootWrong : ChangeSpec := { name := "fnDropRoot", fn := fun _ => fun
  | [d] => { results := [.lit (.bool false)], args := [d] }
  | _ => none }
def FnDropRootWrongFalsely : Prop := fnDropRootRow.holds Try.pinned (OpenSpec.ofChange fnDropRootWrong)

/-- 'laws.FnCountsMark': WHATEVER THE INPUT: true; the input reads as it did. -/
def fnCountsMarkSpec : ChangeSpec := { name := "fnCountsMark", fn := fun _ => fun
  | [d] => { results := [.lit (.bool true)], args := [d] }
  | _ => none }
def fnCountsMarkRow : OpenClaim := { program := "ytljieofkagmdaaa", sum := "3b800c9c10f9509d7e158958d5d59a74f6a3c8db5c95ffed77be85ae5da296f7", func := "loop.example/slowworm/laws.FnCountsMark", spec := "fnCountsMark", apart := false }
def FnCountsMarkSaid : Prop := fnCountsMarkRow.holds Try.pinned (OpenSpec.ofChange fnCountsMarkSpec)

/-- ITS FALSE NEIGHBOUR: 'it returns false'. Refute it at one input. -/
def fnCountsMarkWrong : ChangeSpec := { name := "fnCountsMark", fn := fun _ => fun
  | [d] => { results := [.lit (.bool false)], args := [d] }
  | _ => none }
def FnCountsMarkWrongFalsely : Prop := fnCountsMarkRow.holds Try.pinned (OpenSpec.ofChange fnCountsMarkWrong)

/-- 'laws.FnKeptBy': WHATEVER THE INPUT: true; the input reads as it did. -/
def fnKeptBySpec : ChangeSpec := { name := "fnKeptBy", fn := fun _ => fun
  | [d] => { results := [.lit (.bool true)], args := [d] }
  | _ => none }
def fnKeptByRow : OpenClaim := { program := "ytljieofkagmdaaa", sum := "3b800c9c10f9509d7e158958d5d59a74f6a3c8db5c95ffed77be85ae5da296f7", func := "loop.example/slowworm/laws.FnKeptBy", spec := "fnKeptBy", apart := false }
def FnKeptBySaid : Prop := fnKeptByRow.holds Try.pinned (OpenSpec.ofChange fnKeptBySpec)

/-- ITS FALSE NEIGHBOUR: 'it returns false'. Refute it at one input. -/
def fnKeptByWrong : ChangeSpec := { name := "fnKeptBy", fn := fun _ => fun
  | [d] => { results := [.lit (.bool false)], args := [d] }
  | _ => none }
def FnKeptByWrongFalsely : Prop := fnKeptByRow.holds Try.pinned (OpenSpec.ofChange fnKeptByWrong)

/-- 'laws.FnWeakGarbage': WHATEVER THE INPUT: true; the input reads as it did. -/
def fnWeakGarbageSpec : ChangeSpec := { name := "fnWeakGarbage", fn := fun _ => fun
  | [d] => { results := [.lit (.bool true)], args := [d] }
  | _ => none }
def fnWeakGarbageRow : OpenClaim := { program := "ytljieofkagmdaaa", sum := "3b800c9c10f9509d7e158958d5d59a74f6a3c8db5c95ffed77be85ae5da296f7", func := "loop.example/slowworm/laws.FnWeakGarbage", spec := "fnWeakGarbage", apart := false }
def FnWeakGarbageSaid : Prop := fnWeakGarbageRow.holds Try.pinned (OpenSpec.ofChange fnWeakGarbageSpec)

/-- ITS FALSE NEIGHBOUR: 'it returns false'. Refute it at one input. -/
def fnWeakGarbageWrong : ChangeSpec := { name := "fnWeakGarbage", fn := fun _ => fun
  | [d] => { results := [.lit (.bool false)], args := [d] }
  | _ => none }
def FnWeakGarbageWrongFalsely : Prop := fnWeakGarbageRow.holds Try.pinned (OpenSpec.ofChange fnWeakGarbageWrong)

/- THE SECOND FORM. 'bulk': how many values and letters a reading holds, each counted each time it is reached (what is shared counts as often as it is met; a slice's spare places count too). A statement '..UptoSaid' is the law's where the arguments, and the package variables that the reading takes, are together of bulk at most 1048576: NARROWER than '..Said'. Prove '..Said' where nothing that the law and all that it calls make is longer than what came in: it says more and counts as full. Else prove '..UptoSaid'. A law counts once. -/
mutual
def uptoBulk {H : Type} : DataW H → Nat
  | .lit (.string bytes) => bytes.length + 1
  | .lit _ => 1
  | .nil => 1
  | .ptr d => uptoBulk d + 1
  | .slice elems spare => uptoBulkAll elems + uptoBulkAll spare + 1
  | .agg parts => uptoBulkAll parts + 1
  | .iface _ d => uptoBulk d + 1
  | .map entries => uptoBulkEntries entries + 1
  | .held _ => 1
def uptoBulkAll {H : Type} : List (DataW H) → Nat
  | [] => 0
  | d :: r => uptoBulk d + uptoBulkAll r
def uptoBulkEntries {H : Type} : List (Lit × DataW H) → Nat
  | [] => 0
  | x :: r => uptoBulkEntry x + uptoBulkEntries r
def uptoBulkEntry {H : Type} : Lit × DataW H → Nat
  | (.string bytes, d) => bytes.length + uptoBulk d + 1
  | (_, d) => uptoBulk d + 1
 end
def uptoSmall : (H : Type) → List (DataW H) → Bool := fun _ ds => decide (uptoBulkAll ds ≤ 1048576)
def OpenSpec.upto (s : _root_.Go.ChangeSpec) : _root_.Go.OpenSpec := { _root_.Go.OpenSpec.ofChange s with cond := some uptoSmall }

/-- 'laws.FnTrialOf', WHERE WHAT IT READS IS OF BULK AT MOST 1048576: true; the input reads as it did. -/
def fnTrialOfUptoRow : OpenClaim := { program := "ytljieofkagmdaaa", sum := "3b800c9c10f9509d7e158958d5d59a74f6a3c8db5c95ffed77be85ae5da296f7", func := "loop.example/slowworm/laws.FnTrialOf", spec := "fnTrialOf", apart := false, narrowed := true }
def FnTrialOfUptoSaid : Prop := fnTrialOfUptoRow.holds Try.pinned (OpenSpec.upto fnTrialOfSpec)

/-- 'laws.FnFinalNone', WHERE WHAT IT READS IS OF BULK AT MOST 1048576: true; the input reads as it did. -/
def fnFinalNoneUptoRow : OpenClaim := { program := "ytljieofkagmdaaa", sum := "3b800c9c10f9509d7e158958d5d59a74f6a3c8db5c95ffed77be85ae5da296f7", func := "loop.example/slowworm/laws.FnFinalNone", spec := "fnFinalNone", unfollowed := true, recurses := true, apart := false, narrowed := true }
def FnFinalNoneUptoSaid : Prop := fnFinalNoneUptoRow.holds Try.pinned (OpenSpec.upto fnFinalNoneSpec)

/-- 'laws.FnWeakLeft', WHERE WHAT IT READS IS OF BULK AT MOST 1048576: true; the input reads as it did. -/
def fnWeakLeftUptoRow : OpenClaim := { program := "ytljieofkagmdaaa", sum := "3b800c9c10f9509d7e158958d5d59a74f6a3c8db5c95ffed77be85ae5da296f7", func := "loop.example/slowworm/laws.FnWeakLeft", spec := "fnWeakLeft", apart := false, narrowed := true }
def FnWeakLeftUptoSaid : Prop := fnWeakLeftUptoRow.holds Try.pinned (OpenSpec.upto fnWeakLeftSpec)

/-- 'laws.FnExactKeptBy', WHERE WHAT IT READS IS OF BULK AT MOST 1048576: true; the input reads as it did. -/
def fnExactKeptByUptoRow : OpenClaim := { program := "ytljieofkagmdaaa", sum := "3b800c9c10f9509d7e158958d5d59a74f6a3c8db5c95ffed77be85ae5da296f7", func := "loop.example/slowworm/laws.FnExactKeptBy", spec := "fnExactKeptBy", apart := false, narrowed := true }
def FnExactKeptByUptoSaid : Prop := fnExactKeptByUptoRow.holds Try.pinned (OpenSpec.upto fnExactKeptBySpec)

/-- 'laws.FnDropThenReach', WHERE WHAT IT READS IS OF BULK AT MOST 1048576: true; the input reads as it did. -/
def fnDropThenReachUptoRow : OpenClaim := { program := "ytljieofkagmdaaa", sum := "3b800c9c10f9509d7e158958d5d59a74f6a3c8db5c95ffed77be85ae5da296f7", func := "loop.example/slowworm/laws.FnDropThenReach", spec := "fnDropThenReach", apart := false, narrowed := true }
def FnDropThenReachUptoSaid : Prop := fnDropThenReachUptoRow.holds Try.pinned (OpenSpec.upto fnDropThenReachSpec)

/-- 'laws.FnDropRoot', WHERE WHAT IT READS IS OF BULK AT MOST 1048576: true; the input reads as it did. -/
def fnDropRootUptoRow : OpenClaim := { program := "ytljieofkagmdaaa", sum := "3b800c9c10f9509d7e158958d5d59a74f6a3c8db5c95ffed77be85ae5da296f7", func := "loop.example/slowworm/laws.FnDropRoot", spec := "fnDropRoot", apart := false, narrowed := true }
def FnDropRootUptoSaid : Prop := fnDropRootUptoRow.holds Try.pinned (OpenSpec.upto fnDropRootSpec)

/-- 'laws.FnCountsMark', WHERE WHAT IT READS IS OF BULK AT MOST 1048576: true; the input reads as it did. -/
def fnCountsMarkUptoRow : OpenClaim := { program := "ytljieofkagmdaaa", sum := "3b800c9c10f9509d7e158958d5d59a74f6a3c8db5c95ffed77be85ae5da296f7", func := "loop.example/slowworm/laws.FnCountsMark", spec := "fnCountsMark", apart := false, narrowed := true }
def FnCountsMarkUptoSaid : Prop := fnCountsMarkUptoRow.holds Try.pinned (OpenSpec.upto fnCountsMarkSpec)

/-- 'laws.FnKeptBy', WHERE WHAT IT READS IS OF BULK AT MOST 1048576: true; the input reads as it did. -/
def fnKeptByUptoRow : OpenClaim := { program := "ytljieofkagmdaaa", sum := "3b800c9c10f9509d7e158958d5d59a74f6a3c8db5c95ffed77be85ae5da296f7", func := "loop.example/slowworm/laws.FnKeptBy", spec := "fnKeptBy", apart := false, narrowed := true }
def FnKeptByUptoSaid : Prop := fnKeptByUptoRow.holds Try.pinned (OpenSpec.upto fnKeptBySpec)

/-- 'laws.FnWeakGarbage', WHERE WHAT IT READS IS OF BULK AT MOST 1048576: true; the input reads as it did. -/
def fnWeakGarbageUptoRow : OpenClaim := { program := "ytljieofkagmdaaa", sum := "3b800c9c10f9509d7e158958d5d59a74f6a3c8db5c95ffed77be85ae5da296f7", func := "loop.example/slowworm/laws.FnWeakGarbage", spec := "fnWeakGarbage", apart := false, narrowed := true }
def FnWeakGarbageUptoSaid : Prop := fnWeakGarbageUptoRow.holds Try.pinned (OpenSpec.upto fnWeakGarbageSpec)

end Rows
end Go.Proofs.Ytljieofkagmdaaa
