/-
  No cell of these rows narrows 'for every input' (looked for: loops, veiled, ifaces, maps, wideKeys, modest, calm, conditions, laid).
  DERIVED. THE GIVEN ROWS OF THIS SEAT. 3 by the template 'for every input the law returns true; each argument reads behind the call as it read before'; 0 by the template 'total and deterministic' (their statements: YtjipapldfjhnnaaTotals.lean).
  GIVEN WITH THE SEED: the statements are not yours to turn. If you find one false, say at which input.
  Laid BY PROGRAM, IN A SANDBOX (cutbox-rows.mjs): the forced cells as the released guide's own fill.sh prints them over the translation f7033f2cc4e3f760… (all of the seat's roots in one cut). By AI agents, Wed Nov 11 2026. No macro, syntax, notation, axiom, sorry.
-/
import Derived.Test.YtjipapldfjhnnaaChecked
import GoSem.Claim
import GoSem.ClaimJoined
import GoSem.ClaimMapViews
import Derived.JoinedTies
import Derived.KernelRfl
namespace Go.Proofs.Ytjipapldfjhnnaa
/- THE CELL 'sum', in the pinned program and in every row, IS THE sha256 OF THE DUMP (.gsa) THAT YtjipapldfjhnnaaProg.lean LOADS. Nothing in Lean hashes anything: it is a label: what it is worth is what the hold of that sum in a sandbox is worth. -/
noncomputable def Try.pinned : Pinned := { name := "ytjipapldfjhnnaa", sum := "f7033f2cc4e3f7607cc9e0913ce0db81694f30464757e7bcd808aee036fc5c05", checked := Try.checked }
namespace Rows
def none {H : Type} : Left H := { results := [], args := [] }

/-- 'laws.FnModsOk': WHATEVER THE INPUT: true; the input reads as it did. -/
def fnModsOkSpec : ChangeSpec := { name := "fnModsOk", fn := fun _ => fun
  | [d] => { results := [.lit (.bool true)], args := [d] }
  | _ => none }
def fnModsOkRow : OpenClaim := { program := "ytjipapldfjhnnaa", sum := "f7033f2cc4e3f7607cc9e0913ce0db81694f30464757e7bcd808aee036fc5c05", func := "loop.example/slowworm/laws.FnModsOk", spec := "fnModsOk", recurses := true, apart := false }
def FnModsOkSaid : Prop := fnModsOkRow.holds Try.pinned (OpenSpec.ofChange fnModsOkSpec)

/-- ITS FALSE NEIGHBOUR: 'it returns false'. Refute it at one input. -/
def fnModsOkWrong : ChangeSpec := { name := "fnModsOk", fn := fun _ => fun
  | [d] => { results := [.lit (.bool false)], args := [d] }
  | _ => none }
def FnModsOkWrongFalsely : Prop := fnModsOkRow.holds Try.pinned (OpenSpec.ofChange fnModsOkWrong)

/-- 'laws.FnImportCircle': WHATEVER THE INPUT: true; the input reads as it did. -/
def fnImportCircleSpec : ChangeSpec := { name := "fnImportCircle", fn := fun _ => fun
  | [d] => { results := [.lit (.bool true)], args := [d] }
  | _ => none }
def fnImportCircleRow : OpenClaim := { program := "ytjipapldfjhnnaa", sum := "f7033f2cc4e3f7607cc9e0913ce0db81694f30464757e7bcd808aee036fc5c05", func := "loop.example/slowworm/laws.FnImportCircle", spec := "fnImportCircle", apart := false }
def FnImportCircleSaid : Prop := fnImportCircleRow.holds Try.pinned (OpenSpec.ofChange fnImportCircleSpec)

/-- ITS FALSE NEIGHBOUR: 'it returns false'. Refute it at one input. -/
def fnImportCircleWrong : ChangeSpec := { name := "fnImportCircle", fn := fun _ => fun
  | [d] => { results := [.lit (.bool false)], args := [d] }
  | _ => none }
def FnImportCircleWrongFalsely : Prop := fnImportCircleRow.holds Try.pinned (OpenSpec.ofChange fnImportCircleWrong)

/-- 'laws.FnImportNeeds': WHATEVER THE INPUT: true; the input reads as it did. -/
def fnImportNeedsSpec : ChangeSpec := { name := "fnImportNeeds", fn := fun _ => fun
  | [d] => { results := [.lit (.bool true)], args := [d] }
  | _ => none }
def fnImportNeedsRow : OpenClaim := { program := "ytjipapldfjhnnaa", sum := "f7033f2cc4e3f7607cc9e0913ce0db81694f30464757e7bcd808aee036fc5c05", func := "loop.example/slowworm/laws.FnImportNeeds", spec := "fnImportNeeds", apart := false }
def FnImportNeedsSaid : Prop := fnImportNeedsRow.holds Try.pinned (OpenSpec.ofChange fnImportNeedsSpec)

/-- ITS FALSE NEIGHBOUR: 'it returns false'. Refute it at one input. -/
def fnImportNeedsWrong : ChangeSpec := { name := "fnImportNeeds", fn := fun _ => fun
  | [d] => { results := [.lit (.bool false)], args := [d] }
  | _ => none }
def FnImportNeedsWrongFalsely : Prop := fnImportNeedsRow.holds Try.pinned (OpenSpec.ofChange fnImportNeedsWrong)

/- THE SECOND FORM. 'bulk': how many values and letters a reading holds, each counted each time it is reached (what is shared counts as often as it is met; a slice's spare places count too). A statement '..UptoSaid' is the law's where the arguments, and the package variables that the reading takes, are together of bulk at most 1048576: NARROWER than '..Said'. Prove '..Said' where nothing that the law and all that it calls make is longer than what came in: it says more and counts as full. Else prove '..UptoSaid'. A law counts once. -/
mutual
def uptoBulk {H : Type} : DataW H → Nat
  | .lit (.string bytes) => bytes.length + 1
  | .lit _ => 1
  | .nil => 1
  | .ptr d => uptoBulk d + 1
  | .slice elems spare => uptoBulkAll elems + uptoBulkAll spare + 1
  | .agg parts => uptoBulkAll parts + 1
  | .iface _ d => uptoBulk d + 1
  | .map entries => uptoBulkEntries entries + 1
  | .held _ => 1
def uptoBulkAll {H : Type} : List (DataW H) → Nat
  | [] => 0
  | d :: r => uptoBulk d + uptoBulkAll r
def uptoBulkEntries {H : Type} : List (Lit × DataW H) → Nat
  | [] => 0
  | x :: r => uptoBulkEntry x + uptoBulkEntries r
def uptoBulkEntry {H : Type} : Lit × DataW H → Nat
  | (.string bytes, d) => bytes.length + uptoBulk d + 1
  | (_, d) => uptoBulk d + 1
 end
def uptoSmall : (H : Type) → List (DataW H) → Bool := fun _ ds => decide (uptoBulkAll ds ≤ 1048576)
def OpenSpec.upto (s : _root_.Go.ChangeSpec) : _root_.Go.OpenSpec := { _root_.Go.OpenSpec.ofChange s with cond := some uptoSmall }

/-- 'laws.FnModsOk', WHERE WHAT IT READS IS OF BULK AT MOST 1048576: true; the input reads as it did. -/
def fnModsOkUptoRow : OpenClaim := { program := "ytjipapldfjhnnaa", sum := "f7033f2cc4e3f7607cc9e0913ce0db81694f30464757e7bcd808aee036fc5c05", func := "loop.example/slowworm/laws.FnModsOk", spec := "fnModsOk", recurses := true, apart := false, narrowed := true }
def FnModsOkUptoSaid : Prop := fnModsOkUptoRow.holds Try.pinned (OpenSpec.upto fnModsOkSpec)

/-- 'laws.FnImportCircle', WHERE WHAT IT READS IS OF BULK AT MOST 1048576: true; the input reads as it did. -/
def fnImportCircleUptoRow : OpenClaim := { program := "ytjipapldfjhnnaa", sum := "f7033f2cc4e3f7607cc9e0913ce0db81694f30464757e7bcd808aee036fc5c05", func := "loop.example/slowworm/laws.FnImportCircle", spec := "fnImportCircle", apart := false, narrowed := true }
def FnImportCircleUptoSaid : Prop := fnImportCircleUptoRow.holds Try.pinned (OpenSpec.upto fnImportCircleSpec)

/-- 'laws.FnImportNeeds', WHERE WHAT IT READS IS OF BULK AT MOST 1048576: true; the input reads as it did. -/
def fnImportNeedsUptoRow : OpenClaim := { program := "ytjipapldfjhnnaa", sum := "f7033f2cc4e3f7607cc9e0913ce0db81694f30464757e7bcd808aee036fc5c05", func := "loop.example/slowworm/laws.FnImportNeeds", spec := "fnImportNeeds", apart := false, narrowed := true }
def FnImportNeedsUptoSaid : Prop := fnImportNeedsUptoRow.holds Try.pinned (OpenSpec.upto fnImportNeedsSpec)

end Rows
end Go.Proofs.Ytjipapldfjhnnaa
