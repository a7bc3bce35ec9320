/-
  No cell of these rows narrows 'for every input' (looked for: loops, veiled, ifaces, maps, wideKeys, modest, calm, conditions, laid).
  DERIVED. THE GIVEN ROWS OF THIS SEAT. 6 by the template 'for every input the law returns true; each argument reads behind the call as it read before'; 0 by the template 'total and deterministic' (their statements: YtcndhakeagmloaaTotals.lean).
  GIVEN WITH THE SEED: the statements are not yours to turn. If you find one false, say at which input.
  Laid BY PROGRAM, IN A SANDBOX (cutbox-rows.mjs): the forced cells as the released guide's own fill.sh prints them over the translation 040214a258ac02ef… (all of the seat's roots in one cut). By AI agents, Wed Nov 11 2026. No macro, syntax, notation, axiom, sorry.
-/
import Derived.Test.YtcndhakeagmloaaChecked
import GoSem.Claim
import GoSem.ClaimJoined
import GoSem.ClaimMapViews
import Derived.JoinedTies
import Derived.KernelRfl
namespace Go.Proofs.Ytcndhakeagmloaa
/- THE CELL 'sum', in the pinned program and in every row, IS THE sha256 OF THE DUMP (.gsa) THAT YtcndhakeagmloaaProg.lean LOADS. Nothing in Lean hashes anything: it is a label: what it is worth is what the hold of that sum in a sandbox is worth. -/
noncomputable def Try.pinned : Pinned := { name := "ytcndhakeagmloaa", sum := "040214a258ac02efe41f9fe1486cb45aed2d8581ac7785094f087495573d0952", checked := Try.checked }
namespace Rows
def none {H : Type} : Left H := { results := [], args := [] }

/-- 'laws.FnListDropCut': WHATEVER THE INPUT: true; the input reads as it did. -/
def fnListDropCutSpec : ChangeSpec := { name := "fnListDropCut", fn := fun _ => fun
  | [d] => { results := [.lit (.bool true)], args := [d] }
  | _ => none }
def fnListDropCutRow : OpenClaim := { program := "ytcndhakeagmloaa", sum := "040214a258ac02efe41f9fe1486cb45aed2d8581ac7785094f087495573d0952", func := "loop.example/slowworm/laws.FnListDropCut", spec := "fnListDropCut", unfollowed := true, recurses := true, apart := false }
def FnListDropCutSaid : Prop := fnListDropCutRow.holds Try.pinned (OpenSpec.ofChange fnListDropCutSpec)

/-- ITS FALSE NEIGHBOUR: 'it returns false'. Refute it at one input. -/
def fnListDropCutWrong : ChangeSpec := { name := "fnListDropCut", fn := fun _ => fun
  | [d] => { results := [.lit (.bool false)], args := [d] }
  | _ => none }
def FnListDropCutWrongFalsely : Prop := fnListDropCutRow.holds Try.pinned (OpenSpec.ofChange fnListDropCutWrong)

/-- 'laws.FnListPutCut': WHATEVER THE INPUT: true; the input reads as it did. -/
def fnListPutCutSpec : ChangeSpec := { name := "fnListPutCut", fn := fun _ => fun
  | [d] => { results := [.lit (.bool true)], args := [d] }
  | _ => none }
def fnListPutCutRow : OpenClaim := { program := "ytcndhakeagmloaa", sum := "040214a258ac02efe41f9fe1486cb45aed2d8581ac7785094f087495573d0952", func := "loop.example/slowworm/laws.FnListPutCut", spec := "fnListPutCut", unfollowed := true, recurses := true, apart := false }
def FnListPutCutSaid : Prop := fnListPutCutRow.holds Try.pinned (OpenSpec.ofChange fnListPutCutSpec)

/-- ITS FALSE NEIGHBOUR: 'it returns false'. Refute it at one input. -/
def fnListPutCutWrong : ChangeSpec := { name := "fnListPutCut", fn := fun _ => fun
  | [d] => { results := [.lit (.bool false)], args := [d] }
  | _ => none }
def FnListPutCutWrongFalsely : Prop := fnListPutCutRow.holds Try.pinned (OpenSpec.ofChange fnListPutCutWrong)

/-- 'laws.FnListParts': WHATEVER THE INPUT: true; the input reads as it did. -/
def fnListPartsSpec : ChangeSpec := { name := "fnListParts", fn := fun _ => fun
  | [d] => { results := [.lit (.bool true)], args := [d] }
  | _ => none }
def fnListPartsRow : OpenClaim := { program := "ytcndhakeagmloaa", sum := "040214a258ac02efe41f9fe1486cb45aed2d8581ac7785094f087495573d0952", func := "loop.example/slowworm/laws.FnListParts", spec := "fnListParts", unfollowed := true, recurses := true, apart := false }
def FnListPartsSaid : Prop := fnListPartsRow.holds Try.pinned (OpenSpec.ofChange fnListPartsSpec)

/-- ITS FALSE NEIGHBOUR: 'it returns false'. Refute it at one input. -/
def fnListPartsWrong : ChangeSpec := { name := "fnListParts", fn := fun _ => fun
  | [d] => { results := [.lit (.bool false)], args := [d] }
  | _ => none }
def FnListPartsWrongFalsely : Prop := fnListPartsRow.holds Try.pinned (OpenSpec.ofChange fnListPartsWrong)

/-- 'laws.FnRunsOf': WHATEVER THE INPUT: true; the input reads as it did. -/
def fnRunsOfSpec : ChangeSpec := { name := "fnRunsOf", fn := fun _ => fun
  | [d] => { results := [.lit (.bool true)], args := [d] }
  | _ => none }
def fnRunsOfRow : OpenClaim := { program := "ytcndhakeagmloaa", sum := "040214a258ac02efe41f9fe1486cb45aed2d8581ac7785094f087495573d0952", func := "loop.example/slowworm/laws.FnRunsOf", spec := "fnRunsOf", inPlace := ["slices.overlaps[loop.example/slowworm/impl.Item]"], apart := false }
def FnRunsOfSaid : Prop := fnRunsOfRow.holds Try.pinned (OpenSpec.ofChange fnRunsOfSpec)

/-- ITS FALSE NEIGHBOUR: 'it returns false'. Refute it at one input. -/
def fnRunsOfWrong : ChangeSpec := { name := "fnRunsOf", fn := fun _ => fun
  | [d] => { results := [.lit (.bool false)], args := [d] }
  | _ => none }
def FnRunsOfWrongFalsely : Prop := fnRunsOfRow.holds Try.pinned (OpenSpec.ofChange fnRunsOfWrong)

/-- 'laws.FnExactRunsOf': WHATEVER THE INPUT: true; the input reads as it did. -/
def fnExactRunsOfSpec : ChangeSpec := { name := "fnExactRunsOf", fn := fun _ => fun
  | [d] => { results := [.lit (.bool true)], args := [d] }
  | _ => none }
def fnExactRunsOfRow : OpenClaim := { program := "ytcndhakeagmloaa", sum := "040214a258ac02efe41f9fe1486cb45aed2d8581ac7785094f087495573d0952", func := "loop.example/slowworm/laws.FnExactRunsOf", spec := "fnExactRunsOf", inPlace := ["slices.overlaps[loop.example/slowworm/impl.Item]"], apart := false }
def FnExactRunsOfSaid : Prop := fnExactRunsOfRow.holds Try.pinned (OpenSpec.ofChange fnExactRunsOfSpec)

/-- ITS FALSE NEIGHBOUR: 'it returns false'. Refute it at one input. -/
def fnExactRunsOfWrong : ChangeSpec := { name := "fnExactRunsOf", fn := fun _ => fun
  | [d] => { results := [.lit (.bool false)], args := [d] }
  | _ => none }
def FnExactRunsOfWrongFalsely : Prop := fnExactRunsOfRow.holds Try.pinned (OpenSpec.ofChange fnExactRunsOfWrong)

/-- 'laws.FnSortAny': WHATEVER THE INPUT: true; the input reads as it did. -/
def fnSortAnySpec : ChangeSpec := { name := "fnSortAny", fn := fun _ => fun
  | [d] => { results := [.lit (.bool true)], args := [d] }
  | _ => none }
def fnSortAnyRow : OpenClaim := { program := "ytcndhakeagmloaa", sum := "040214a258ac02efe41f9fe1486cb45aed2d8581ac7785094f087495573d0952", func := "loop.example/slowworm/laws.FnSortAny", spec := "fnSortAny", inPlace := ["slices.overlaps[loop.example/slowworm/impl.Item]"], unfollowed := true, recurses := true, apart := false }
def FnSortAnySaid : Prop := fnSortAnyRow.holds Try.pinned (OpenSpec.ofChange fnSortAnySpec)

/-- ITS FALSE NEIGHBOUR: 'it returns false'. Refute it at one input. -/
def fnSortAnyWrong : ChangeSpec := { name := "fnSortAny", fn := fun _ => fun
  | [d] => { results := [.lit (.bool false)], args := [d] }
  | _ => none }
def FnSortAnyWrongFalsely : Prop := fnSortAnyRow.holds Try.pinned (OpenSpec.ofChange fnSortAnyWrong)

/- THE SECOND FORM. 'bulk': how many values and letters a reading holds, each counted each time it is reached (what is shared counts as often as it is met; a slice's spare places count too). A statement '..UptoSaid' is the law's where the arguments, and the package variables that the reading takes, are together of bulk at most 1048576: NARROWER than '..Said'. Prove '..Said' where nothing that the law and all that it calls make is longer than what came in: it says more and counts as full. Else prove '..UptoSaid'. A law counts once. -/
mutual
def uptoBulk {H : Type} : DataW H → Nat
  | .lit (.string bytes) => bytes.length + 1
  | .lit _ => 1
  | .nil => 1
  | .ptr d => uptoBulk d + 1
  | .slice elems spare => uptoBulkAll elems + uptoBulkAll spare + 1
  | .agg parts => uptoBulkAll parts + 1
  | .iface _ d => uptoBulk d + 1
  | .map entries => uptoBulkEntries entries + 1
  | .held _ => 1
def uptoBulkAll {H : Type} : List (DataW H) → Nat
  | [] => 0
  | d :: r => uptoBulk d + uptoBulkAll r
def uptoBulkEntries {H : Type} : List (Lit × DataW H) → Nat
  | [] => 0
  | x :: r => uptoBulkEntry x + uptoBulkEntries r
def uptoBulkEntry {H : Type} : Lit × DataW H → Nat
  | (.string bytes, d) => bytes.length + uptoBulk d + 1
  | (_, d) => uptoBulk d + 1
 end
def uptoSmall : (H : Type) → List (DataW H) → Bool := fun _ ds => decide (uptoBulkAll ds ≤ 1048576)
def OpenSpec.upto (s : _root_.Go.ChangeSpec) : _root_.Go.OpenSpec := { _root_.Go.OpenSpec.ofChange s with cond := some uptoSmall }

/-- 'laws.FnListDropCut', WHERE WHAT IT READS IS OF BULK AT MOST 1048576: true; the input reads as it did. -/
def fnListDropCutUptoRow : OpenClaim := { program := "ytcndhakeagmloaa", sum := "040214a258ac02efe41f9fe1486cb45aed2d8581ac7785094f087495573d0952", func := "loop.example/slowworm/laws.FnListDropCut", spec := "fnListDropCut", unfollowed := true, recurses := true, apart := false, narrowed := true }
def FnListDropCutUptoSaid : Prop := fnListDropCutUptoRow.holds Try.pinned (OpenSpec.upto fnListDropCutSpec)

/-- 'laws.FnListPutCut', WHERE WHAT IT READS IS OF BULK AT MOST 1048576: true; the input reads as it did. -/
def fnListPutCutUptoRow : OpenClaim := { program := "ytcndhakeagmloaa", sum := "040214a258ac02efe41f9fe1486cb45aed2d8581ac7785094f087495573d0952", func := "loop.example/slowworm/laws.FnListPutCut", spec := "fnListPutCut", unfollowed := true, recurses := true, apart := false, narrowed := true }
def FnListPutCutUptoSaid : Prop := fnListPutCutUptoRow.holds Try.pinned (OpenSpec.upto fnListPutCutSpec)

/-- 'laws.FnListParts', WHERE WHAT IT READS IS OF BULK AT MOST 1048576: true; the input reads as it did. -/
def fnListPartsUptoRow : OpenClaim := { program := "ytcndhakeagmloaa", sum := "040214a258ac02efe41f9fe1486cb45aed2d8581ac7785094f087495573d0952", func := "loop.example/slowworm/laws.FnListParts", spec := "fnListParts", unfollowed := true, recurses := true, apart := false, narrowed := true }
def FnListPartsUptoSaid : Prop := fnListPartsUptoRow.holds Try.pinned (OpenSpec.upto fnListPartsSpec)

/-- 'laws.FnRunsOf', WHERE WHAT IT READS IS OF BULK AT MOST 1048576: true; the input reads as it did. -/
def fnRunsOfUptoRow : OpenClaim := { program := "ytcndhakeagmloaa", sum := "040214a258ac02efe41f9fe1486cb45aed2d8581ac7785094f087495573d0952", func := "loop.example/slowworm/laws.FnRunsOf", spec := "fnRunsOf", inPlace := ["slices.overlaps[loop.example/slowworm/impl.Item]"], apart := false, narrowed := true }
def FnRunsOfUptoSaid : Prop := fnRunsOfUptoRow.holds Try.pinned (OpenSpec.upto fnRunsOfSpec)

/-- 'laws.FnExactRunsOf', WHERE WHAT IT READS IS OF BULK AT MOST 1048576: true; the input reads as it did. -/
def fnExactRunsOfUptoRow : OpenClaim := { program := "ytcndhakeagmloaa", sum := "040214a258ac02efe41f9fe1486cb45aed2d8581ac7785094f087495573d0952", func := "loop.example/slowworm/laws.FnExactRunsOf", spec := "fnExactRunsOf", inPlace := ["slices.overlaps[loop.example/slowworm/impl.Item]"], apart := false, narrowed := true }
def FnExactRunsOfUptoSaid : Prop := fnExactRunsOfUptoRow.holds Try.pinned (OpenSpec.upto fnExactRunsOfSpec)

/-- 'laws.FnSortAny', WHERE WHAT IT READS IS OF BULK AT MOST 1048576: true; the input reads as it did. -/
def fnSortAnyUptoRow : OpenClaim := { program := "ytcndhakeagmloaa", sum := "040214a258ac02efe41f9fe1486cb45aed2d8581ac7785094f087495573d0952", func := "loop.example/slowworm/laws.FnSortAny", spec := "fnSortAny", inPlace := ["slices.overlaps[loop.example/slowworm/impl.Item]"], unfollowed := true, recurses := true, apart := false, narrowed := true }
def FnSortAnyUptoSaid : Prop := fnSortAnyUptoRow.holds Try.pinned (OpenSpec.upto fnSortAnySpec)

end Rows
end Go.Proofs.Ytcndhakeagmloaa
