/-
  No cell of these rows narrows 'for every input' (looked for: loops, veiled, ifaces, maps, wideKeys, modest, calm, conditions, laid).
  DERIVED. THE GIVEN ROWS OF THIS SEAT. 7 by the template 'for every input the law returns true; each argument reads behind the call as it read before'; 0 by the template 'total and deterministic' (their statements: YtckninkpjdcfbaaTotals.lean).
  GIVEN WITH THE SEED: the statements are not yours to turn. If you find one false, say at which input.
  Laid BY PROGRAM, IN A SANDBOX (cutbox-rows.mjs): the forced cells as the released guide's own fill.sh prints them over the translation abf7827967bbc614… (all of the seat's roots in one cut). By AI agents, Wed Nov 11 2026. No macro, syntax, notation, axiom, sorry.
-/
import Derived.Test.YtckninkpjdcfbaaChecked
import GoSem.Claim
import GoSem.ClaimJoined
import GoSem.ClaimMapViews
import Derived.JoinedTies
import Derived.KernelRfl
namespace Go.Proofs.Ytckninkpjdcfbaa
/- THE CELL 'sum', in the pinned program and in every row, IS THE sha256 OF THE DUMP (.gsa) THAT YtckninkpjdcfbaaProg.lean LOADS. Nothing in Lean hashes anything: it is a label: what it is worth is what the hold of that sum in a sandbox is worth. -/
noncomputable def Try.pinned : Pinned := { name := "ytckninkpjdcfbaa", sum := "abf7827967bbc6146d06f6ca4d1dfe320cd41ee23da7214b3eb6ce4a68b62cbe", checked := Try.checked }
namespace Rows
def none {H : Type} : Left H := { results := [], args := [] }

/-- 'laws.FnFinalNone': WHATEVER THE INPUT: true; the input reads as it did. -/
def fnFinalNoneSpec : ChangeSpec := { name := "fnFinalNone", fn := fun _ => fun
  | [d] => { results := [.lit (.bool true)], args := [d] }
  | _ => none }
def fnFinalNoneRow : OpenClaim := { program := "ytckninkpjdcfbaa", sum := "abf7827967bbc6146d06f6ca4d1dfe320cd41ee23da7214b3eb6ce4a68b62cbe", func := "loop.example/slowworm/laws.FnFinalNone", spec := "fnFinalNone", unfollowed := true, recurses := true, apart := false }
def FnFinalNoneSaid : Prop := fnFinalNoneRow.holds Try.pinned (OpenSpec.ofChange fnFinalNoneSpec)

/-- ITS FALSE NEIGHBOUR: 'it returns false'. Refute it at one input. -/
def fnFinalNoneWrong : ChangeSpec := { name := "fnFinalNone", fn := fun _ => fun
  | [d] => { results := [.lit (.bool false)], args := [d] }
  | _ => none }
def FnFinalNoneWrongFalsely : Prop := fnFinalNoneRow.holds Try.pinned (OpenSpec.ofChange fnFinalNoneWrong)

/-- 'laws.FnExactKeptBy': WHATEVER THE INPUT: true; the input reads as it did. -/
def fnExactKeptBySpec : ChangeSpec := { name := "fnExactKeptBy", fn := fun _ => fun
  | [d1, d2] => { results := [.lit (.bool true)], args := [d1, d2] }
  | _ => none }
def fnExactKeptByRow : OpenClaim := { program := "ytckninkpjdcfbaa", sum := "abf7827967bbc6146d06f6ca4d1dfe320cd41ee23da7214b3eb6ce4a68b62cbe", func := "loop.example/slowworm/laws.FnExactKeptBy", spec := "fnExactKeptBy", apart := false }
def FnExactKeptBySaid : Prop := fnExactKeptByRow.holds Try.pinned (OpenSpec.ofChange fnExactKeptBySpec)

/-- ITS FALSE NEIGHBOUR: 'it returns false'. Refute it at one input. -/
def fnExactKeptByWrong : ChangeSpec := { name := "fnExactKeptBy", fn := fun _ => fun
  | [d1, d2] => { results := [.lit (.bool false)], args := [d1, d2] }
  | _ => none }
def FnExactKeptByWrongFalsely : Prop := fnExactKeptByRow.holds Try.pinned (OpenSpec.ofChange fnExactKeptByWrong)

/-- 'laws.FnExactGarbageOf': WHATEVER THE INPUT: true; the input reads as it did. -/
def fnExactGarbageOfSpec : ChangeSpec := { name := "fnExactGarbageOf", fn := fun _ => fun
  | [d1, d2, d3] => { results := [.lit (.bool true)], args := [d1, d2, d3] }
  | _ => none }
def fnExactGarbageOfRow : OpenClaim := { program := "ytckninkpjdcfbaa", sum := "abf7827967bbc6146d06f6ca4d1dfe320cd41ee23da7214b3eb6ce4a68b62cbe", func := "loop.example/slowworm/laws.FnExactGarbageOf", spec := "fnExactGarbageOf", apart := false }
def FnExactGarbageOfSaid : Prop := fnExactGarbageOfRow.holds Try.pinned (OpenSpec.ofChange fnExactGarbageOfSpec)

/-- ITS FALSE NEIGHBOUR: 'it returns false'. Refute it at one input. -/
def fnExactGarbageOfWrong : ChangeSpec := { name := "fnExactGarbageOf", fn := fun _ => fun
  | [d1, d2, d3] => { results := [.lit (.bool false)], args := [d1, d2, d3] }
  | _ => none }
def FnExactGarbageOfWrongFalsely : Prop := fnExactGarbageOfRow.holds Try.pinned (OpenSpec.ofChange fnExactGarbageOfWrong)

/-- 'laws.FnExactCollectUpTo': WHATEVER THE INPUT: true; the input reads as it did. -/
def fnExactCollectUpToSpec : ChangeSpec := { name := "fnExactCollectUpTo", fn := fun _ => fun
  | [d1, d2, d3, d4] => { results := [.lit (.bool true)], args := [d1, d2, d3, d4] }
  | _ => none }
def fnExactCollectUpToRow : OpenClaim := { program := "ytckninkpjdcfbaa", sum := "abf7827967bbc6146d06f6ca4d1dfe320cd41ee23da7214b3eb6ce4a68b62cbe", func := "loop.example/slowworm/laws.FnExactCollectUpTo", spec := "fnExactCollectUpTo", apart := false }
def FnExactCollectUpToSaid : Prop := fnExactCollectUpToRow.holds Try.pinned (OpenSpec.ofChange fnExactCollectUpToSpec)

/-- ITS FALSE NEIGHBOUR: 'it returns false'. Refute it at one input. -/
def fnExactCollectUpToWrong : ChangeSpec := { name := "fnExactCollectUpTo", fn := fun _ => fun
  | [d1, d2, d3, d4] => { results := [.lit (.bool false)], args := [d1, d2, d3, d4] }
  | _ => none }
def FnExactCollectUpToWrongFalsely : Prop := fnExactCollectUpToRow.holds Try.pinned (OpenSpec.ofChange fnExactCollectUpToWrong)

/-- 'laws.FnFinalSweeps': WHATEVER THE INPUT: true; the input reads as it did. -/
def fnFinalSweepsSpec : ChangeSpec := { name := "fnFinalSweeps", fn := fun _ => fun
  | [d] => { results := [.lit (.bool true)], args := [d] }
  | _ => none }
def fnFinalSweepsRow : OpenClaim := { program := "ytckninkpjdcfbaa", sum := "abf7827967bbc6146d06f6ca4d1dfe320cd41ee23da7214b3eb6ce4a68b62cbe", func := "loop.example/slowworm/laws.FnFinalSweeps", spec := "fnFinalSweeps", unfollowed := true, recurses := true, apart := false }
def FnFinalSweepsSaid : Prop := fnFinalSweepsRow.holds Try.pinned (OpenSpec.ofChange fnFinalSweepsSpec)

/-- ITS FALSE NEIGHBOUR: 'it returns false'. Refute it at one input. -/
def fnFinalSweepsWrong : ChangeSpec := { name := "fnFinalSweeps", fn := fun _ => fun
  | [d] => { results := [.lit (.bool false)], args := [d] }
  | _ => none }
def FnFinalSweepsWrongFalsely : Prop := fnFinalSweepsRow.holds Try.pinned (OpenSpec.ofChange fnFinalSweepsWrong)

/-- 'laws.FnFinalSweep': WHATEVER THE INPUT: true; the input reads as it did. -/
def fnFinalSweepSpec : ChangeSpec := { name := "fnFinalSweep", fn := fun _ => fun
  | [d] => { results := [.lit (.bool true)], args := [d] }
  | _ => none }
def fnFinalSweepRow : OpenClaim := { program := "ytckninkpjdcfbaa", sum := "abf7827967bbc6146d06f6ca4d1dfe320cd41ee23da7214b3eb6ce4a68b62cbe", func := "loop.example/slowworm/laws.FnFinalSweep", spec := "fnFinalSweep", unfollowed := true, recurses := true, apart := false }
def FnFinalSweepSaid : Prop := fnFinalSweepRow.holds Try.pinned (OpenSpec.ofChange fnFinalSweepSpec)

/-- ITS FALSE NEIGHBOUR: 'it returns false'. Refute it at one input. -/
def fnFinalSweepWrong : ChangeSpec := { name := "fnFinalSweep", fn := fun _ => fun
  | [d] => { results := [.lit (.bool false)], args := [d] }
  | _ => none }
def FnFinalSweepWrongFalsely : Prop := fnFinalSweepRow.holds Try.pinned (OpenSpec.ofChange fnFinalSweepWrong)

/-- 'laws.FnExactFinalSweeps': WHATEVER THE INPUT: true; the input reads as it did. -/
def fnExactFinalSweepsSpec : ChangeSpec := { name := "fnExactFinalSweeps", fn := fun _ => fun
  | [d1, d2, d3] => { results := [.lit (.bool true)], args := [d1, d2, d3] }
  | _ => none }
def fnExactFinalSweepsRow : OpenClaim := { program := "ytckninkpjdcfbaa", sum := "abf7827967bbc6146d06f6ca4d1dfe320cd41ee23da7214b3eb6ce4a68b62cbe", func := "loop.example/slowworm/laws.FnExactFinalSweeps", spec := "fnExactFinalSweeps", unfollowed := true, recurses := true, apart := false }
def FnExactFinalSweepsSaid : Prop := fnExactFinalSweepsRow.holds Try.pinned (OpenSpec.ofChange fnExactFinalSweepsSpec)

/-- ITS FALSE NEIGHBOUR: 'it returns false'. Refute it at one input. -/
def fnExactFinalSweepsWrong : ChangeSpec := { name := "fnExactFinalSweeps", fn := fun _ => fun
  | [d1, d2, d3] => { results := [.lit (.bool false)], args := [d1, d2, d3] }
  | _ => none }
def FnExactFinalSweepsWrongFalsely : Prop := fnExactFinalSweepsRow.holds Try.pinned (OpenSpec.ofChange fnExactFinalSweepsWrong)

/- THE SECOND FORM. 'bulk': how many values and letters a reading holds, each counted each time it is reached (what is shared counts as often as it is met; a slice's spare places count too). A statement '..UptoSaid' is the law's where the arguments, and the package variables that the reading takes, are together of bulk at most 1048576: NARROWER than '..Said'. Prove '..Said' where nothing that the law and all that it calls make is longer than what came in: it says more and counts as full. Else prove '..UptoSaid'. A law counts once. -/
mutual
def uptoBulk {H : Type} : DataW H → Nat
  | .lit (.string bytes) => bytes.length + 1
  | .lit _ => 1
  | .nil => 1
  | .ptr d => uptoBulk d + 1
  | .slice elems spare => uptoBulkAll elems + uptoBulkAll spare + 1
  | .agg parts => uptoBulkAll parts + 1
  | .iface _ d => uptoBulk d + 1
  | .map entries => uptoBulkEntries entries + 1
  | .held _ => 1
def uptoBulkAll {H : Type} : List (DataW H) → Nat
  | [] => 0
  | d :: r => uptoBulk d + uptoBulkAll r
def uptoBulkEntries {H : Type} : List (Lit × DataW H) → Nat
  | [] => 0
  | x :: r => uptoBulkEntry x + uptoBulkEntries r
def uptoBulkEntry {H : Type} : Lit × DataW H → Nat
  | (.string bytes, d) => bytes.length + uptoBulk d + 1
  | (_, d) => uptoBulk d + 1
 end
def uptoSmall : (H : Type) → List (DataW H) → Bool := fun _ ds => decide (uptoBulkAll ds ≤ 1048576)
def OpenSpec.upto (s : _root_.Go.ChangeSpec) : _root_.Go.OpenSpec := { _root_.Go.OpenSpec.ofChange s with cond := some uptoSmall }

/-- 'laws.FnFinalNone', WHERE WHAT IT READS IS OF BULK AT MOST 1048576: true; the input reads as it did. -/
def fnFinalNoneUptoRow : OpenClaim := { program := "ytckninkpjdcfbaa", sum := "abf7827967bbc6146d06f6ca4d1dfe320cd41ee23da7214b3eb6ce4a68b62cbe", func := "loop.example/slowworm/laws.FnFinalNone", spec := "fnFinalNone", unfollowed := true, recurses := true, apart := false, narrowed := true }
def FnFinalNoneUptoSaid : Prop := fnFinalNoneUptoRow.holds Try.pinned (OpenSpec.upto fnFinalNoneSpec)

/-- 'laws.FnExactKeptBy', WHERE WHAT IT READS IS OF BULK AT MOST 1048576: true; the input reads as it did. -/
def fnExactKeptByUptoRow : OpenClaim := { program := "ytckninkpjdcfbaa", sum := "abf7827967bbc6146d06f6ca4d1dfe320cd41ee23da7214b3eb6ce4a68b62cbe", func := "loop.example/slowworm/laws.FnExactKeptBy", spec := "fnExactKeptBy", apart := false, narrowed := true }
def FnExactKeptByUptoSaid : Prop := fnExactKeptByUptoRow.holds Try.pinned (OpenSpec.upto fnExactKeptBySpec)

/-- 'laws.FnExactGarbageOf', WHERE WHAT IT READS IS OF BULK AT MOST 1048576: true; the input reads as it did. -/
def fnExactGarbageOfUptoRow : OpenClaim := { program := "ytckninkpjdcfbaa", sum := "abf7827967bbc6146d06f6ca4d1dfe320cd41ee23da7214b3eb6ce4a68b62cbe", func := "loop.example/slowworm/laws.FnExactGarbageOf", spec := "fnExactGarbageOf", apart := false, narrowed := true }
def FnExactGarbageOfUptoSaid : Prop := fnExactGarbageOfUptoRow.holds Try.pinned (OpenSpec.upto fnExactGarbageOfSpec)

/-- 'laws.FnExactCollectUpTo', WHERE WHAT IT READS IS OF BULK AT MOST 1048576: true; the input reads as it did. -/
def fnExactCollectUpToUptoRow : OpenClaim := { program := "ytckninkpjdcfbaa", sum := "abf7827967bbc6146d06f6ca4d1dfe320cd41ee23da7214b3eb6ce4a68b62cbe", func := "loop.example/slowworm/laws.FnExactCollectUpTo", spec := "fnExactCollectUpTo", apart := false, narrowed := true }
def FnExactCollectUpToUptoSaid : Prop := fnExactCollectUpToUptoRow.holds Try.pinned (OpenSpec.upto fnExactCollectUpToSpec)

/-- 'laws.FnFinalSweeps', WHERE WHAT IT READS IS OF BULK AT MOST 1048576: true; the input reads as it did. -/
def fnFinalSweepsUptoRow : OpenClaim := { program := "ytckninkpjdcfbaa", sum := "abf7827967bbc6146d06f6ca4d1dfe320cd41ee23da7214b3eb6ce4a68b62cbe", func := "loop.example/slowworm/laws.FnFinalSweeps", spec := "fnFinalSweeps", unfollowed := true, recurses := true, apart := false, narrowed := true }
def FnFinalSweepsUptoSaid : Prop := fnFinalSweepsUptoRow.holds Try.pinned (OpenSpec.upto fnFinalSweepsSpec)

/-- 'laws.FnFinalSweep', WHERE WHAT IT READS IS OF BULK AT MOST 1048576: true; the input reads as it did. -/
def fnFinalSweepUptoRow : OpenClaim := { program := "ytckninkpjdcfbaa", sum := "abf7827967bbc6146d06f6ca4d1dfe320cd41ee23da7214b3eb6ce4a68b62cbe", func := "loop.example/slowworm/laws.FnFinalSweep", spec := "fnFinalSweep", unfollowed := true, recurses := true, apart := false, narrowed := true }
def FnFinalSweepUptoSaid : Prop := fnFinalSweepUptoRow.holds Try.pinned (OpenSpec.upto fnFinalSweepSpec)

/-- 'laws.FnExactFinalSweeps', WHERE WHAT IT READS IS OF BULK AT MOST 1048576: true; the input reads as it did. -/
def fnExactFinalSweepsUptoRow : OpenClaim := { program := "ytckninkpjdcfbaa", sum := "abf7827967bbc6146d06f6ca4d1dfe320cd41ee23da7214b3eb6ce4a68b62cbe", func := "loop.example/slowworm/laws.FnExactFinalSweeps", spec := "fnExactFinalSweeps", unfollowed := true, recurses := true, apart := false, narrowed := true }
def FnExactFinalSweepsUptoSaid : Prop := fnExactFinalSweepsUptoRow.holds Try.pinned (OpenSpec.upto fnExactFinalSweepsSpec)

end Rows
end Go.Proofs.Ytckninkpjdcfbaa
