/-
  No cell of these rows narrows 'for every input' (looked for: loops, veiled, ifaces, maps, wideKeys, modest, calm, conditions, laid).
  DERIVED. THE GIVEN ROWS OF THIS SEAT. 4 by the template 'for every input the law returns true; each argument reads behind the call as it read before'; 0 by the template 'total and deterministic' (their statements: YtcfjoidkfopboaaTotals.lean).
  GIVEN WITH THE SEED: the statements are not yours to turn. If you find one false, say at which input.
  Laid BY PROGRAM, IN A SANDBOX (cutbox-rows.mjs): the forced cells as the released guide's own fill.sh prints them over the translation c017d27e78a305fd… (all of the seat's roots in one cut). By AI agents, Wed Nov 11 2026. No macro, syntax, notation, axiom, sorry.
-/
import Derived.Test.YtcfjoidkfopboaaChecked
import GoSem.Claim
import GoSem.ClaimJoined
import GoSem.ClaimMapViews
import Derived.JoinedTies
import Derived.KernelRfl
namespace Go.Proofs.Ytcfjoidkfopboaa
/- THE CELL 'sum', in the pinned program and in every row, IS THE sha256 OF THE DUMP (.gsa) THAT YtcfjoidkfopboaaProg.lean LOADS. Nothing in Lean hashes anything: it is a label: what it is worth is what the hold of that sum in a sandbox is worth. -/
noncomputable def Try.pinned : Pinned := { name := "ytcfjoidkfopboaa", sum := "c017d27e78a305fdfc819658f0fad69bc0af3f90336f507d8f489e9ebe36e831", checked := Try.checked }
namespace Rows
def none {H : Type} : Left H := { results := [], args := [] }

/-- 'laws.FnExactDictProbes': WHATEVER THE INPUT: true; the input reads as it did. -/
def fnExactDictProbesSpec : ChangeSpec := { name := "fnExactDictProbes", fn := fun _ => fun
  | [d1, d2] => { results := [.lit (.bool true)], args := [d1, d2] }
  | _ => none }
def fnExactDictProbesRow : OpenClaim := { program := "ytcfjoidkfopboaa", sum := "c017d27e78a305fdfc819658f0fad69bc0af3f90336f507d8f489e9ebe36e831", func := "loop.example/slowworm/laws.FnExactDictProbes", spec := "fnExactDictProbes", apart := false }
def FnExactDictProbesSaid : Prop := fnExactDictProbesRow.holds Try.pinned (OpenSpec.ofChange fnExactDictProbesSpec)

/-- ITS FALSE NEIGHBOUR: 'it returns false'. Refute it at one input. -/
def fnExactDictProbesWrong : ChangeSpec := { name := "fnExactDictProbes", fn := fun _ => fun
  | [d1, d2] => { results := [.lit (.bool false)], args := [d1, d2] }
  | _ => none }
def FnExactDictProbesWrongFalsely : Prop := fnExactDictProbesRow.holds Try.pinned (OpenSpec.ofChange fnExactDictProbesWrong)

/-- 'laws.FnExactDictOk': WHATEVER THE INPUT: true; the input reads as it did. -/
def fnExactDictOkSpec : ChangeSpec := { name := "fnExactDictOk", fn := fun _ => fun
  | [d] => { results := [.lit (.bool true)], args := [d] }
  | _ => none }
def fnExactDictOkRow : OpenClaim := { program := "ytcfjoidkfopboaa", sum := "c017d27e78a305fdfc819658f0fad69bc0af3f90336f507d8f489e9ebe36e831", func := "loop.example/slowworm/laws.FnExactDictOk", spec := "fnExactDictOk", apart := false }
def FnExactDictOkSaid : Prop := fnExactDictOkRow.holds Try.pinned (OpenSpec.ofChange fnExactDictOkSpec)

/-- ITS FALSE NEIGHBOUR: 'it returns false'. Refute it at one input. -/
def fnExactDictOkWrong : ChangeSpec := { name := "fnExactDictOk", fn := fun _ => fun
  | [d] => { results := [.lit (.bool false)], args := [d] }
  | _ => none }
def FnExactDictOkWrongFalsely : Prop := fnExactDictOkRow.holds Try.pinned (OpenSpec.ofChange fnExactDictOkWrong)

/-- 'laws.FnExactDictGet': WHATEVER THE INPUT: true; the input reads as it did. -/
def fnExactDictGetSpec : ChangeSpec := { name := "fnExactDictGet", fn := fun _ => fun
  | [d1, d2] => { results := [.lit (.bool true)], args := [d1, d2] }
  | _ => none }
def fnExactDictGetRow : OpenClaim := { program := "ytcfjoidkfopboaa", sum := "c017d27e78a305fdfc819658f0fad69bc0af3f90336f507d8f489e9ebe36e831", func := "loop.example/slowworm/laws.FnExactDictGet", spec := "fnExactDictGet", apart := false }
def FnExactDictGetSaid : Prop := fnExactDictGetRow.holds Try.pinned (OpenSpec.ofChange fnExactDictGetSpec)

/-- ITS FALSE NEIGHBOUR: 'it returns false'. Refute it at one input. -/
def fnExactDictGetWrong : ChangeSpec := { name := "fnExactDictGet", fn := fun _ => fun
  | [d1, d2] => { results := [.lit (.bool false)], args := [d1, d2] }
  | _ => none }
def FnExactDictGetWrongFalsely : Prop := fnExactDictGetRow.holds Try.pinned (OpenSpec.ofChange fnExactDictGetWrong)

/-- 'laws.FnExactDictSame': WHATEVER THE INPUT: true; the input reads as it did. -/
def fnExactDictSameSpec : ChangeSpec := { name := "fnExactDictSame", fn := fun _ => fun
  | [d1, d2] => { results := [.lit (.bool true)], args := [d1, d2] }
  | _ => none }
def fnExactDictSameRow : OpenClaim := { program := "ytcfjoidkfopboaa", sum := "c017d27e78a305fdfc819658f0fad69bc0af3f90336f507d8f489e9ebe36e831", func := "loop.example/slowworm/laws.FnExactDictSame", spec := "fnExactDictSame", apart := false }
def FnExactDictSameSaid : Prop := fnExactDictSameRow.holds Try.pinned (OpenSpec.ofChange fnExactDictSameSpec)

/-- ITS FALSE NEIGHBOUR: 'it returns false'. Refute it at one input. -/
def fnExactDictSameWrong : ChangeSpec := { name := "fnExactDictSame", fn := fun _ => fun
  | [d1, d2] => { results := [.lit (.bool false)], args := [d1, d2] }
  | _ => none }
def FnExactDictSameWrongFalsely : Prop := fnExactDictSameRow.holds Try.pinned (OpenSpec.ofChange fnExactDictSameWrong)

/- THE SECOND FORM. 'bulk': how many values and letters a reading holds, each counted each time it is reached (what is shared counts as often as it is met; a slice's spare places count too). A statement '..UptoSaid' is the law's where the arguments, and the package variables that the reading takes, are together of bulk at most 1048576: NARROWER than '..Said'. Prove '..Said' where nothing that the law and all that it calls make is longer than what came in: it says more and counts as full. Else prove '..UptoSaid'. A law counts once. -/
mutual
def uptoBulk {H : Type} : DataW H → Nat
  | .lit (.string bytes) => bytes.length + 1
  | .lit _ => 1
  | .nil => 1
  | .ptr d => uptoBulk d + 1
  | .slice elems spare => uptoBulkAll elems + uptoBulkAll spare + 1
  | .agg parts => uptoBulkAll parts + 1
  | .iface _ d => uptoBulk d + 1
  | .map entries => uptoBulkEntries entries + 1
  | .held _ => 1
def uptoBulkAll {H : Type} : List (DataW H) → Nat
  | [] => 0
  | d :: r => uptoBulk d + uptoBulkAll r
def uptoBulkEntries {H : Type} : List (Lit × DataW H) → Nat
  | [] => 0
  | x :: r => uptoBulkEntry x + uptoBulkEntries r
def uptoBulkEntry {H : Type} : Lit × DataW H → Nat
  | (.string bytes, d) => bytes.length + uptoBulk d + 1
  | (_, d) => uptoBulk d + 1
 end
def uptoSmall : (H : Type) → List (DataW H) → Bool := fun _ ds => decide (uptoBulkAll ds ≤ 1048576)
def OpenSpec.upto (s : _root_.Go.ChangeSpec) : _root_.Go.OpenSpec := { _root_.Go.OpenSpec.ofChange s with cond := some uptoSmall }

/-- 'laws.FnExactDictProbes', WHERE WHAT IT READS IS OF BULK AT MOST 1048576: true; the input reads as it did. -/
def fnExactDictProbesUptoRow : OpenClaim := { program := "ytcfjoidkfopboaa", sum := "c017d27e78a305fdfc819658f0fad69bc0af3f90336f507d8f489e9ebe36e831", func := "loop.example/slowworm/laws.FnExactDictProbes", spec := "fnExactDictProbes", apart := false, narrowed := true }
def FnExactDictProbesUptoSaid : Prop := fnExactDictProbesUptoRow.holds Try.pinned (OpenSpec.upto fnExactDictProbesSpec)

/-- 'laws.FnExactDictOk', WHERE WHAT IT READS IS OF BULK AT MOST 1048576: true; the input reads as it did. -/
def fnExactDictOkUptoRow : OpenClaim := { program := "ytcfjoidkfopboaa", sum := "c017d27e78a305fdfc819658f0fad69bc0af3f90336f507d8f489e9ebe36e831", func := "loop.example/slowworm/laws.FnExactDictOk", spec := "fnExactDictOk", apart := false, narrowed := true }
def FnExactDictOkUptoSaid : Prop := fnExactDictOkUptoRow.holds Try.pinned (OpenSpec.upto fnExactDictOkSpec)

/-- 'laws.FnExactDictGet', WHERE WHAT IT READS IS OF BULK AT MOST 1048576: true; the input reads as it did. -/
def fnExactDictGetUptoRow : OpenClaim := { program := "ytcfjoidkfopboaa", sum := "c017d27e78a305fdfc819658f0fad69bc0af3f90336f507d8f489e9ebe36e831", func := "loop.example/slowworm/laws.FnExactDictGet", spec := "fnExactDictGet", apart := false, narrowed := true }
def FnExactDictGetUptoSaid : Prop := fnExactDictGetUptoRow.holds Try.pinned (OpenSpec.upto fnExactDictGetSpec)

/-- 'laws.FnExactDictSame', WHERE WHAT IT READS IS OF BULK AT MOST 1048576: true; the input reads as it did. -/
def fnExactDictSameUptoRow : OpenClaim := { program := "ytcfjoidkfopboaa", sum := "c017d27e78a305fdfc819658f0fad69bc0af3f90336f507d8f489e9ebe36e831", func := "loop.example/slowworm/laws.FnExactDictSame", spec := "fnExactDictSame", apart := false, narrowed := true }
def FnExactDictSameUptoSaid : Prop := fnExactDictSameUptoRow.holds Try.pinned (OpenSpec.upto fnExactDictSameSpec)

end Rows
end Go.Proofs.Ytcfjoidkfopboaa
