/-
  No cell of these rows narrows 'for every input' (looked for: loops, veiled, ifaces, maps, wideKeys, modest, calm, conditions, laid).
  DERIVED. THE GIVEN ROWS OF THIS SEAT. 8 by the template 'for every input the law returns true; each argument reads behind the call as it read before'; 0 by the template 'total and deterministic' (their statements: YtdlobdhpledbfaaTotals.lean).
  GIVEN WITH THE SEED: the statements are not yours to turn. If you find one false, say at which input.
  Laid BY PROGRAM, IN A SANDBOX (cutbox-rows.mjs): the forced cells as the released guide's own fill.sh prints them over the translation ede041a88b9c0405… (all of the seat's roots in one cut). By AI agents, Wed Nov 11 2026. No macro, syntax, notation, axiom, sorry.
-/
import Derived.Test.YtdlobdhpledbfaaChecked
import GoSem.Claim
import GoSem.ClaimJoined
import GoSem.ClaimMapViews
import Derived.JoinedTies
import Derived.KernelRfl
namespace Go.Proofs.Ytdlobdhpledbfaa
/- THE CELL 'sum', in the pinned program and in every row, IS THE sha256 OF THE DUMP (.gsa) THAT YtdlobdhpledbfaaProg.lean LOADS. Nothing in Lean hashes anything: it is a label: what it is worth is what the hold of that sum in a sandbox is worth. -/
noncomputable def Try.pinned : Pinned := { name := "ytdlobdhpledbfaa", sum := "ede041a88b9c0405e60c53b6f8b38f046a7198916645d97586c17c1656755178", checked := Try.checked }
namespace Rows
def none {H : Type} : Left H := { results := [], args := [] }

/-- 'laws.FnExactBasesOk': WHATEVER THE INPUT: true; the input reads as it did. -/
def fnExactBasesOkSpec : ChangeSpec := { name := "fnExactBasesOk", fn := fun _ => fun
  | [d] => { results := [.lit (.bool true)], args := [d] }
  | _ => none }
def fnExactBasesOkRow : OpenClaim := { program := "ytdlobdhpledbfaa", sum := "ede041a88b9c0405e60c53b6f8b38f046a7198916645d97586c17c1656755178", func := "loop.example/slowworm/laws.FnExactBasesOk", spec := "fnExactBasesOk", unfollowed := true, recurses := true, apart := false }
def FnExactBasesOkSaid : Prop := fnExactBasesOkRow.holds Try.pinned (OpenSpec.ofChange fnExactBasesOkSpec)

/-- ITS FALSE NEIGHBOUR: 'it returns false'. Refute it at one input. -/
def fnExactBasesOkWrong : ChangeSpec := { name := "fnExactBasesOk", fn := fun _ => fun
  | [d] => { results := [.lit (.bool false)], args := [d] }
  | _ => none }
def FnExactBasesOkWrongFalsely : Prop := fnExactBasesOkRow.holds Try.pinned (OpenSpec.ofChange fnExactBasesOkWrong)

/-- 'laws.FnExactIsSub': WHATEVER THE INPUT: true; the input reads as it did. -/
def fnExactIsSubSpec : ChangeSpec := { name := "fnExactIsSub", fn := fun _ => fun
  | [d1, d2, d3] => { results := [.lit (.bool true)], args := [d1, d2, d3] }
  | _ => none }
def fnExactIsSubRow : OpenClaim := { program := "ytdlobdhpledbfaa", sum := "ede041a88b9c0405e60c53b6f8b38f046a7198916645d97586c17c1656755178", func := "loop.example/slowworm/laws.FnExactIsSub", spec := "fnExactIsSub", unfollowed := true, recurses := true, apart := false }
def FnExactIsSubSaid : Prop := fnExactIsSubRow.holds Try.pinned (OpenSpec.ofChange fnExactIsSubSpec)

/-- ITS FALSE NEIGHBOUR: 'it returns false'. Refute it at one input. -/
def fnExactIsSubWrong : ChangeSpec := { name := "fnExactIsSub", fn := fun _ => fun
  | [d1, d2, d3] => { results := [.lit (.bool false)], args := [d1, d2, d3] }
  | _ => none }
def FnExactIsSubWrongFalsely : Prop := fnExactIsSubRow.holds Try.pinned (OpenSpec.ofChange fnExactIsSubWrong)

/-- 'laws.FnExactMroOf': WHATEVER THE INPUT: true; the input reads as it did. -/
def fnExactMroOfSpec : ChangeSpec := { name := "fnExactMroOf", fn := fun _ => fun
  | [d1, d2] => { results := [.lit (.bool true)], args := [d1, d2] }
  | _ => none }
def fnExactMroOfRow : OpenClaim := { program := "ytdlobdhpledbfaa", sum := "ede041a88b9c0405e60c53b6f8b38f046a7198916645d97586c17c1656755178", func := "loop.example/slowworm/laws.FnExactMroOf", spec := "fnExactMroOf", unfollowed := true, recurses := true, apart := false }
def FnExactMroOfSaid : Prop := fnExactMroOfRow.holds Try.pinned (OpenSpec.ofChange fnExactMroOfSpec)

/-- ITS FALSE NEIGHBOUR: 'it returns false'. Refute it at one input. -/
def fnExactMroOfWrong : ChangeSpec := { name := "fnExactMroOf", fn := fun _ => fun
  | [d1, d2] => { results := [.lit (.bool false)], args := [d1, d2] }
  | _ => none }
def FnExactMroOfWrongFalsely : Prop := fnExactMroOfRow.holds Try.pinned (OpenSpec.ofChange fnExactMroOfWrong)

/-- 'laws.FnIsSub': WHATEVER THE INPUT: true; the input reads as it did. -/
def fnIsSubSpec : ChangeSpec := { name := "fnIsSub", fn := fun _ => fun
  | [d] => { results := [.lit (.bool true)], args := [d] }
  | _ => none }
def fnIsSubRow : OpenClaim := { program := "ytdlobdhpledbfaa", sum := "ede041a88b9c0405e60c53b6f8b38f046a7198916645d97586c17c1656755178", func := "loop.example/slowworm/laws.FnIsSub", spec := "fnIsSub", unfollowed := true, recurses := true, apart := false }
def FnIsSubSaid : Prop := fnIsSubRow.holds Try.pinned (OpenSpec.ofChange fnIsSubSpec)

/-- ITS FALSE NEIGHBOUR: 'it returns false'. Refute it at one input. -/
def fnIsSubWrong : ChangeSpec := { name := "fnIsSub", fn := fun _ => fun
  | [d] => { results := [.lit (.bool false)], args := [d] }
  | _ => none }
def FnIsSubWrongFalsely : Prop := fnIsSubRow.holds Try.pinned (OpenSpec.ofChange fnIsSubWrong)

/-- 'laws.FnBasesOk': WHATEVER THE INPUT: true; the input reads as it did. -/
def fnBasesOkSpec : ChangeSpec := { name := "fnBasesOk", fn := fun _ => fun
  | [d] => { results := [.lit (.bool true)], args := [d] }
  | _ => none }
def fnBasesOkRow : OpenClaim := { program := "ytdlobdhpledbfaa", sum := "ede041a88b9c0405e60c53b6f8b38f046a7198916645d97586c17c1656755178", func := "loop.example/slowworm/laws.FnBasesOk", spec := "fnBasesOk", unfollowed := true, recurses := true, apart := false }
def FnBasesOkSaid : Prop := fnBasesOkRow.holds Try.pinned (OpenSpec.ofChange fnBasesOkSpec)

/-- ITS FALSE NEIGHBOUR: 'it returns false'. Refute it at one input. -/
def fnBasesOkWrong : ChangeSpec := { name := "fnBasesOk", fn := fun _ => fun
  | [d] => { results := [.lit (.bool false)], args := [d] }
  | _ => none }
def FnBasesOkWrongFalsely : Prop := fnBasesOkRow.holds Try.pinned (OpenSpec.ofChange fnBasesOkWrong)

/-- 'laws.FnMroBelow': WHATEVER THE INPUT: true; the input reads as it did. -/
def fnMroBelowSpec : ChangeSpec := { name := "fnMroBelow", fn := fun _ => fun
  | [d] => { results := [.lit (.bool true)], args := [d] }
  | _ => none }
def fnMroBelowRow : OpenClaim := { program := "ytdlobdhpledbfaa", sum := "ede041a88b9c0405e60c53b6f8b38f046a7198916645d97586c17c1656755178", func := "loop.example/slowworm/laws.FnMroBelow", spec := "fnMroBelow", unfollowed := true, recurses := true, apart := false }
def FnMroBelowSaid : Prop := fnMroBelowRow.holds Try.pinned (OpenSpec.ofChange fnMroBelowSpec)

/-- ITS FALSE NEIGHBOUR: 'it returns false'. Refute it at one input. -/
def fnMroBelowWrong : ChangeSpec := { name := "fnMroBelow", fn := fun _ => fun
  | [d] => { results := [.lit (.bool false)], args := [d] }
  | _ => none }
def FnMroBelowWrongFalsely : Prop := fnMroBelowRow.holds Try.pinned (OpenSpec.ofChange fnMroBelowWrong)

/-- 'laws.FnMroSubs': WHATEVER THE INPUT: true; the input reads as it did. -/
def fnMroSubsSpec : ChangeSpec := { name := "fnMroSubs", fn := fun _ => fun
  | [d] => { results := [.lit (.bool true)], args := [d] }
  | _ => none }
def fnMroSubsRow : OpenClaim := { program := "ytdlobdhpledbfaa", sum := "ede041a88b9c0405e60c53b6f8b38f046a7198916645d97586c17c1656755178", func := "loop.example/slowworm/laws.FnMroSubs", spec := "fnMroSubs", unfollowed := true, recurses := true, apart := false }
def FnMroSubsSaid : Prop := fnMroSubsRow.holds Try.pinned (OpenSpec.ofChange fnMroSubsSpec)

/-- ITS FALSE NEIGHBOUR: 'it returns false'. Refute it at one input. -/
def fnMroSubsWrong : ChangeSpec := { name := "fnMroSubs", fn := fun _ => fun
  | [d] => { results := [.lit (.bool false)], args := [d] }
  | _ => none }
def FnMroSubsWrongFalsely : Prop := fnMroSubsRow.holds Try.pinned (OpenSpec.ofChange fnMroSubsWrong)

/-- 'laws.FnMroOf': WHATEVER THE INPUT: true; the input reads as it did. -/
def fnMroOfSpec : ChangeSpec := { name := "fnMroOf", fn := fun _ => fun
  | [d] => { results := [.lit (.bool true)], args := [d] }
  | _ => none }
def fnMroOfRow : OpenClaim := { program := "ytdlobdhpledbfaa", sum := "ede041a88b9c0405e60c53b6f8b38f046a7198916645d97586c17c1656755178", func := "loop.example/slowworm/laws.FnMroOf", spec := "fnMroOf", unfollowed := true, recurses := true, apart := false }
def FnMroOfSaid : Prop := fnMroOfRow.holds Try.pinned (OpenSpec.ofChange fnMroOfSpec)

/-- ITS FALSE NEIGHBOUR: 'it returns false'. Refute it at one input. -/
def fnMroOfWrong : ChangeSpec := { name := "fnMroOf", fn := fun _ => fun
  | [d] => { results := [.lit (.bool false)], args := [d] }
  | _ => none }
def FnMroOfWrongFalsely : Prop := fnMroOfRow.holds Try.pinned (OpenSpec.ofChange fnMroOfWrong)

/- THE SECOND FORM. 'bulk': how many values and letters a reading holds, each counted each time it is reached (what is shared counts as often as it is met; a slice's spare places count too). A statement '..UptoSaid' is the law's where the arguments, and the package variables that the reading takes, are together of bulk at most 1048576: NARROWER than '..Said'. Prove '..Said' where nothing that the law and all that it calls make is longer than what came in: it says more and counts as full. Else prove '..UptoSaid'. A law counts once. -/
mutual
def uptoBulk {H : Type} : DataW H → Nat
  | .lit (.string bytes) => bytes.length + 1
  | .lit _ => 1
  | .nil => 1
  | .ptr d => uptoBulk d + 1
  | .slice elems spare => uptoBulkAll elems + uptoBulkAll spare + 1
  | .agg parts => uptoBulkAll parts + 1
  | .iface _ d => uptoBulk d + 1
  | .map entries => uptoBulkEntries entries + 1
  | .held _ => 1
def uptoBulkAll {H : Type} : List (DataW H) → Nat
  | [] => 0
  | d :: r => uptoBulk d + uptoBulkAll r
def uptoBulkEntries {H : Type} : List (Lit × DataW H) → Nat
  | [] => 0
  | x :: r => uptoBulkEntry x + uptoBulkEntries r
def uptoBulkEntry {H : Type} : Lit × DataW H → Nat
  | (.string bytes, d) => bytes.length + uptoBulk d + 1
  | (_, d) => uptoBulk d + 1
 end
def uptoSmall : (H : Type) → List (DataW H) → Bool := fun _ ds => decide (uptoBulkAll ds ≤ 1048576)
def OpenSpec.upto (s : _root_.Go.ChangeSpec) : _root_.Go.OpenSpec := { _root_.Go.OpenSpec.ofChange s with cond := some uptoSmall }

/-- 'laws.FnExactBasesOk', WHERE WHAT IT READS IS OF BULK AT MOST 1048576: true; the input reads as it did. -/
def fnExactBasesOkUptoRow : OpenClaim := { program := "ytdlobdhpledbfaa", sum := "ede041a88b9c0405e60c53b6f8b38f046a7198916645d97586c17c1656755178", func := "loop.example/slowworm/laws.FnExactBasesOk", spec := "fnExactBasesOk", unfollowed := true, recurses := true, apart := false, narrowed := true }
def FnExactBasesOkUptoSaid : Prop := fnExactBasesOkUptoRow.holds Try.pinned (OpenSpec.upto fnExactBasesOkSpec)

/-- 'laws.FnExactIsSub', WHERE WHAT IT READS IS OF BULK AT MOST 1048576: true; the input reads as it did. -/
def fnExactIsSubUptoRow : OpenClaim := { program := "ytdlobdhpledbfaa", sum := "ede041a88b9c0405e60c53b6f8b38f046a7198916645d97586c17c1656755178", func := "loop.example/slowworm/laws.FnExactIsSub", spec := "fnExactIsSub", unfollowed := true, recurses := true, apart := false, narrowed := true }
def FnExactIsSubUptoSaid : Prop := fnExactIsSubUptoRow.holds Try.pinned (OpenSpec.upto fnExactIsSubSpec)

/-- 'laws.FnExactMroOf', WHERE WHAT IT READS IS OF BULK AT MOST 1048576: true; the input reads as it did. -/
def fnExactMroOfUptoRow : OpenClaim := { program := "ytdlobdhpledbfaa", sum := "ede041a88b9c0405e60c53b6f8b38f046a7198916645d97586c17c1656755178", func := "loop.example/slowworm/laws.FnExactMroOf", spec := "fnExactMroOf", unfollowed := true, recurses := true, apart := false, narrowed := true }
def FnExactMroOfUptoSaid : Prop := fnExactMroOfUptoRow.holds Try.pinned (OpenSpec.upto fnExactMroOfSpec)

/-- 'laws.FnIsSub', WHERE WHAT IT READS IS OF BULK AT MOST 1048576: true; the input reads as it did. -/
def fnIsSubUptoRow : OpenClaim := { program := "ytdlobdhpledbfaa", sum := "ede041a88b9c0405e60c53b6f8b38f046a7198916645d97586c17c1656755178", func := "loop.example/slowworm/laws.FnIsSub", spec := "fnIsSub", unfollowed := true, recurses := true, apart := false, narrowed := true }
def FnIsSubUptoSaid : Prop := fnIsSubUptoRow.holds Try.pinned (OpenSpec.upto fnIsSubSpec)

/-- 'laws.FnBasesOk', WHERE WHAT IT READS IS OF BULK AT MOST 1048576: true; the input reads as it did. -/
def fnBasesOkUptoRow : OpenClaim := { program := "ytdlobdhpledbfaa", sum := "ede041a88b9c0405e60c53b6f8b38f046a7198916645d97586c17c1656755178", func := "loop.example/slowworm/laws.FnBasesOk", spec := "fnBasesOk", unfollowed := true, recurses := true, apart := false, narrowed := true }
def FnBasesOkUptoSaid : Prop := fnBasesOkUptoRow.holds Try.pinned (OpenSpec.upto fnBasesOkSpec)

/-- 'laws.FnMroBelow', WHERE WHAT IT READS IS OF BULK AT MOST 1048576: true; the input reads as it did. -/
def fnMroBelowUptoRow : OpenClaim := { program := "ytdlobdhpledbfaa", sum := "ede041a88b9c0405e60c53b6f8b38f046a7198916645d97586c17c1656755178", func := "loop.example/slowworm/laws.FnMroBelow", spec := "fnMroBelow", unfollowed := true, recurses := true, apart := false, narrowed := true }
def FnMroBelowUptoSaid : Prop := fnMroBelowUptoRow.holds Try.pinned (OpenSpec.upto fnMroBelowSpec)

/-- 'laws.FnMroSubs', WHERE WHAT IT READS IS OF BULK AT MOST 1048576: true; the input reads as it did. -/
def fnMroSubsUptoRow : OpenClaim := { program := "ytdlobdhpledbfaa", sum := "ede041a88b9c0405e60c53b6f8b38f046a7198916645d97586c17c1656755178", func := "loop.example/slowworm/laws.FnMroSubs", spec := "fnMroSubs", unfollowed := true, recurses := true, apart := false, narrowed := true }
def FnMroSubsUptoSaid : Prop := fnMroSubsUptoRow.holds Try.pinned (OpenSpec.upto fnMroSubsSpec)

/-- 'laws.FnMroOf', WHERE WHAT IT READS IS OF BULK AT MOST 1048576: true; the input reads as it did. -/
def fnMroOfUptoRow : OpenClaim := { program := "ytdlobdhpledbfaa", sum := "ede041a88b9c0405e60c53b6f8b38f046a7198916645d97586c17c1656755178", func := "loop.example/slowworm/laws.FnMroOf", spec := "fnMroOf", unfollowed := true, recurses := true, apart := false, narrowed := true }
def FnMroOfUptoSaid : Prop := fnMroOfUptoRow.holds Try.pinned (OpenSpec.upto fnMroOfSpec)

end Rows
end Go.Proofs.Ytdlobdhpledbfaa
