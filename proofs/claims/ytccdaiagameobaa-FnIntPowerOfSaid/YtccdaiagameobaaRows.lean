/-
  No cell of these rows narrows 'for every input' (looked for: loops, veiled, ifaces, maps, wideKeys, modest, calm, conditions, laid).
  DERIVED. THE GIVEN ROWS OF THIS SEAT. 13 by the template 'for every input the law returns true; each argument reads behind the call as it read before'; 0 by the template 'total and deterministic' (their statements: YtccdaiagameobaaTotals.lean).
  GIVEN WITH THE SEED: the statements are not yours to turn. If you find one false, say at which input.
  Laid BY PROGRAM, IN A SANDBOX (cutbox-rows.mjs): the forced cells as the released guide's own fill.sh prints them over the translation fb9d39a53c4711a1… (all of the seat's roots in one cut). By AI agents, Wed Nov 11 2026. No macro, syntax, notation, axiom, sorry.
-/
import Derived.Test.YtccdaiagameobaaChecked
import GoSem.Claim
import GoSem.ClaimJoined
import GoSem.ClaimMapViews
import Derived.JoinedTies
import Derived.KernelRfl
namespace Go.Proofs.Ytccdaiagameobaa
/- THE CELL 'sum', in the pinned program and in every row, IS THE sha256 OF THE DUMP (.gsa) THAT YtccdaiagameobaaProg.lean LOADS. Nothing in Lean hashes anything: it is a label: what it is worth is what the hold of that sum in a sandbox is worth. -/
noncomputable def Try.pinned : Pinned := { name := "ytccdaiagameobaa", sum := "fb9d39a53c4711a1b74238fbce20e8d9bac91c3e3de76d63caed92fe2a53d54f", checked := Try.checked }
namespace Rows
def none {H : Type} : Left H := { results := [], args := [] }

/-- 'laws.FnExactIntAdd': WHATEVER THE INPUT: true; the input reads as it did. -/
def fnExactIntAddSpec : ChangeSpec := { name := "fnExactIntAdd", fn := fun _ => fun
  | [d1, d2] => { results := [.lit (.bool true)], args := [d1, d2] }
  | _ => none }
def fnExactIntAddRow : OpenClaim := { program := "ytccdaiagameobaa", sum := "fb9d39a53c4711a1b74238fbce20e8d9bac91c3e3de76d63caed92fe2a53d54f", func := "loop.example/slowworm/laws.FnExactIntAdd", spec := "fnExactIntAdd", inPlace := ["internal/abi.NoEscape"], apart := false }
def FnExactIntAddSaid : Prop := fnExactIntAddRow.holds Try.pinned (OpenSpec.ofChange fnExactIntAddSpec)

/-- ITS FALSE NEIGHBOUR: 'it returns false'. Refute it at one input. -/
def fnExactIntAddWrong : ChangeSpec := { name := "fnExactIntAdd", fn := fun _ => fun
  | [d1, d2] => { results := [.lit (.bool false)], args := [d1, d2] }
  | _ => none }
def FnExactIntAddWrongFalsely : Prop := fnExactIntAddRow.holds Try.pinned (OpenSpec.ofChange fnExactIntAddWrong)

/-- 'laws.FnExactIntSub': WHATEVER THE INPUT: true; the input reads as it did. -/
def fnExactIntSubSpec : ChangeSpec := { name := "fnExactIntSub", fn := fun _ => fun
  | [d1, d2] => { results := [.lit (.bool true)], args := [d1, d2] }
  | _ => none }
def fnExactIntSubRow : OpenClaim := { program := "ytccdaiagameobaa", sum := "fb9d39a53c4711a1b74238fbce20e8d9bac91c3e3de76d63caed92fe2a53d54f", func := "loop.example/slowworm/laws.FnExactIntSub", spec := "fnExactIntSub", inPlace := ["internal/abi.NoEscape"], apart := false }
def FnExactIntSubSaid : Prop := fnExactIntSubRow.holds Try.pinned (OpenSpec.ofChange fnExactIntSubSpec)

/-- ITS FALSE NEIGHBOUR: 'it returns false'. Refute it at one input. -/
def fnExactIntSubWrong : ChangeSpec := { name := "fnExactIntSub", fn := fun _ => fun
  | [d1, d2] => { results := [.lit (.bool false)], args := [d1, d2] }
  | _ => none }
def FnExactIntSubWrongFalsely : Prop := fnExactIntSubRow.holds Try.pinned (OpenSpec.ofChange fnExactIntSubWrong)

/-- 'laws.FnExactIntDiv': WHATEVER THE INPUT: true; the input reads as it did. -/
def fnExactIntDivSpec : ChangeSpec := { name := "fnExactIntDiv", fn := fun _ => fun
  | [d1, d2] => { results := [.lit (.bool true)], args := [d1, d2] }
  | _ => none }
def fnExactIntDivRow : OpenClaim := { program := "ytccdaiagameobaa", sum := "fb9d39a53c4711a1b74238fbce20e8d9bac91c3e3de76d63caed92fe2a53d54f", func := "loop.example/slowworm/laws.FnExactIntDiv", spec := "fnExactIntDiv", inPlace := ["internal/abi.NoEscape"], apart := false }
def FnExactIntDivSaid : Prop := fnExactIntDivRow.holds Try.pinned (OpenSpec.ofChange fnExactIntDivSpec)

/-- ITS FALSE NEIGHBOUR: 'it returns false'. Refute it at one input. -/
def fnExactIntDivWrong : ChangeSpec := { name := "fnExactIntDiv", fn := fun _ => fun
  | [d1, d2] => { results := [.lit (.bool false)], args := [d1, d2] }
  | _ => none }
def FnExactIntDivWrongFalsely : Prop := fnExactIntDivRow.holds Try.pinned (OpenSpec.ofChange fnExactIntDivWrong)

/-- 'laws.FnExactIntMod': WHATEVER THE INPUT: true; the input reads as it did. -/
def fnExactIntModSpec : ChangeSpec := { name := "fnExactIntMod", fn := fun _ => fun
  | [d1, d2] => { results := [.lit (.bool true)], args := [d1, d2] }
  | _ => none }
def fnExactIntModRow : OpenClaim := { program := "ytccdaiagameobaa", sum := "fb9d39a53c4711a1b74238fbce20e8d9bac91c3e3de76d63caed92fe2a53d54f", func := "loop.example/slowworm/laws.FnExactIntMod", spec := "fnExactIntMod", inPlace := ["internal/abi.NoEscape"], apart := false }
def FnExactIntModSaid : Prop := fnExactIntModRow.holds Try.pinned (OpenSpec.ofChange fnExactIntModSpec)

/-- ITS FALSE NEIGHBOUR: 'it returns false'. Refute it at one input. -/
def fnExactIntModWrong : ChangeSpec := { name := "fnExactIntMod", fn := fun _ => fun
  | [d1, d2] => { results := [.lit (.bool false)], args := [d1, d2] }
  | _ => none }
def FnExactIntModWrongFalsely : Prop := fnExactIntModRow.holds Try.pinned (OpenSpec.ofChange fnExactIntModWrong)

/-- 'laws.FnExactIntRoot': WHATEVER THE INPUT: true; the input reads as it did. -/
def fnExactIntRootSpec : ChangeSpec := { name := "fnExactIntRoot", fn := fun _ => fun
  | [d] => { results := [.lit (.bool true)], args := [d] }
  | _ => none }
def fnExactIntRootRow : OpenClaim := { program := "ytccdaiagameobaa", sum := "fb9d39a53c4711a1b74238fbce20e8d9bac91c3e3de76d63caed92fe2a53d54f", func := "loop.example/slowworm/laws.FnExactIntRoot", spec := "fnExactIntRoot", inPlace := ["internal/abi.NoEscape"], apart := false }
def FnExactIntRootSaid : Prop := fnExactIntRootRow.holds Try.pinned (OpenSpec.ofChange fnExactIntRootSpec)

/-- ITS FALSE NEIGHBOUR: 'it returns false'. Refute it at one input. -/
def fnExactIntRootWrong : ChangeSpec := { name := "fnExactIntRoot", fn := fun _ => fun
  | [d] => { results := [.lit (.bool false)], args := [d] }
  | _ => none }
def FnExactIntRootWrongFalsely : Prop := fnExactIntRootRow.holds Try.pinned (OpenSpec.ofChange fnExactIntRootWrong)

/-- 'laws.FnIntOk': WHATEVER THE INPUT: true; the input reads as it did. -/
def fnIntOkSpec : ChangeSpec := { name := "fnIntOk", fn := fun _ => fun
  | [d] => { results := [.lit (.bool true)], args := [d] }
  | _ => none }
def fnIntOkRow : OpenClaim := { program := "ytccdaiagameobaa", sum := "fb9d39a53c4711a1b74238fbce20e8d9bac91c3e3de76d63caed92fe2a53d54f", func := "loop.example/slowworm/laws.FnIntOk", spec := "fnIntOk", inPlace := ["internal/abi.NoEscape"], apart := false }
def FnIntOkSaid : Prop := fnIntOkRow.holds Try.pinned (OpenSpec.ofChange fnIntOkSpec)

/-- ITS FALSE NEIGHBOUR: 'it returns false'. Refute it at one input. -/
def fnIntOkWrong : ChangeSpec := { name := "fnIntOk", fn := fun _ => fun
  | [d] => { results := [.lit (.bool false)], args := [d] }
  | _ => none }
def FnIntOkWrongFalsely : Prop := fnIntOkRow.holds Try.pinned (OpenSpec.ofChange fnIntOkWrong)

/-- 'laws.FnIntTriples': WHATEVER THE INPUT: true; the input reads as it did. -/
def fnIntTriplesSpec : ChangeSpec := { name := "fnIntTriples", fn := fun _ => fun
  | [d] => { results := [.lit (.bool true)], args := [d] }
  | _ => none }
def fnIntTriplesRow : OpenClaim := { program := "ytccdaiagameobaa", sum := "fb9d39a53c4711a1b74238fbce20e8d9bac91c3e3de76d63caed92fe2a53d54f", func := "loop.example/slowworm/laws.FnIntTriples", spec := "fnIntTriples", inPlace := ["internal/abi.NoEscape"], apart := false }
def FnIntTriplesSaid : Prop := fnIntTriplesRow.holds Try.pinned (OpenSpec.ofChange fnIntTriplesSpec)

/-- ITS FALSE NEIGHBOUR: 'it returns false'. Refute it at one input. -/
def fnIntTriplesWrong : ChangeSpec := { name := "fnIntTriples", fn := fun _ => fun
  | [d] => { results := [.lit (.bool false)], args := [d] }
  | _ => none }
def FnIntTriplesWrongFalsely : Prop := fnIntTriplesRow.holds Try.pinned (OpenSpec.ofChange fnIntTriplesWrong)

/-- 'laws.FnIntShares': WHATEVER THE INPUT: true; the input reads as it did. -/
def fnIntSharesSpec : ChangeSpec := { name := "fnIntShares", fn := fun _ => fun
  | [d] => { results := [.lit (.bool true)], args := [d] }
  | _ => none }
def fnIntSharesRow : OpenClaim := { program := "ytccdaiagameobaa", sum := "fb9d39a53c4711a1b74238fbce20e8d9bac91c3e3de76d63caed92fe2a53d54f", func := "loop.example/slowworm/laws.FnIntShares", spec := "fnIntShares", inPlace := ["internal/abi.NoEscape"], apart := false }
def FnIntSharesSaid : Prop := fnIntSharesRow.holds Try.pinned (OpenSpec.ofChange fnIntSharesSpec)

/-- ITS FALSE NEIGHBOUR: 'it returns false'. Refute it at one input. -/
def fnIntSharesWrong : ChangeSpec := { name := "fnIntShares", fn := fun _ => fun
  | [d] => { results := [.lit (.bool false)], args := [d] }
  | _ => none }
def FnIntSharesWrongFalsely : Prop := fnIntSharesRow.holds Try.pinned (OpenSpec.ofChange fnIntSharesWrong)

/-- 'laws.FnIntOrder': WHATEVER THE INPUT: true; the input reads as it did. -/
def fnIntOrderSpec : ChangeSpec := { name := "fnIntOrder", fn := fun _ => fun
  | [d] => { results := [.lit (.bool true)], args := [d] }
  | _ => none }
def fnIntOrderRow : OpenClaim := { program := "ytccdaiagameobaa", sum := "fb9d39a53c4711a1b74238fbce20e8d9bac91c3e3de76d63caed92fe2a53d54f", func := "loop.example/slowworm/laws.FnIntOrder", spec := "fnIntOrder", inPlace := ["internal/abi.NoEscape"], apart := false }
def FnIntOrderSaid : Prop := fnIntOrderRow.holds Try.pinned (OpenSpec.ofChange fnIntOrderSpec)

/-- ITS FALSE NEIGHBOUR: 'it returns false'. Refute it at one input. -/
def fnIntOrderWrong : ChangeSpec := { name := "fnIntOrder", fn := fun _ => fun
  | [d] => { results := [.lit (.bool false)], args := [d] }
  | _ => none }
def FnIntOrderWrongFalsely : Prop := fnIntOrderRow.holds Try.pinned (OpenSpec.ofChange fnIntOrderWrong)

/-- 'laws.FnIntCmp': WHATEVER THE INPUT: true; the input reads as it did. -/
def fnIntCmpSpec : ChangeSpec := { name := "fnIntCmp", fn := fun _ => fun
  | [d] => { results := [.lit (.bool true)], args := [d] }
  | _ => none }
def fnIntCmpRow : OpenClaim := { program := "ytccdaiagameobaa", sum := "fb9d39a53c4711a1b74238fbce20e8d9bac91c3e3de76d63caed92fe2a53d54f", func := "loop.example/slowworm/laws.FnIntCmp", spec := "fnIntCmp", inPlace := ["internal/abi.NoEscape"], apart := false }
def FnIntCmpSaid : Prop := fnIntCmpRow.holds Try.pinned (OpenSpec.ofChange fnIntCmpSpec)

/-- ITS FALSE NEIGHBOUR: 'it returns false'. Refute it at one input. -/
def fnIntCmpWrong : ChangeSpec := { name := "fnIntCmp", fn := fun _ => fun
  | [d] => { results := [.lit (.bool false)], args := [d] }
  | _ => none }
def FnIntCmpWrongFalsely : Prop := fnIntCmpRow.holds Try.pinned (OpenSpec.ofChange fnIntCmpWrong)

/-- 'laws.FnIntPow': WHATEVER THE INPUT: true; the input reads as it did. -/
def fnIntPowSpec : ChangeSpec := { name := "fnIntPow", fn := fun _ => fun
  | [d] => { results := [.lit (.bool true)], args := [d] }
  | _ => none }
def fnIntPowRow : OpenClaim := { program := "ytccdaiagameobaa", sum := "fb9d39a53c4711a1b74238fbce20e8d9bac91c3e3de76d63caed92fe2a53d54f", func := "loop.example/slowworm/laws.FnIntPow", spec := "fnIntPow", inPlace := ["internal/abi.NoEscape"], apart := false }
def FnIntPowSaid : Prop := fnIntPowRow.holds Try.pinned (OpenSpec.ofChange fnIntPowSpec)

/-- ITS FALSE NEIGHBOUR: 'it returns false'. Refute it at one input. -/
def fnIntPowWrong : ChangeSpec := { name := "fnIntPow", fn := fun _ => fun
  | [d] => { results := [.lit (.bool false)], args := [d] }
  | _ => none }
def FnIntPowWrongFalsely : Prop := fnIntPowRow.holds Try.pinned (OpenSpec.ofChange fnIntPowWrong)

/-- 'laws.FnIntPowers': WHATEVER THE INPUT: true; the input reads as it did. -/
def fnIntPowersSpec : ChangeSpec := { name := "fnIntPowers", fn := fun _ => fun
  | [d] => { results := [.lit (.bool true)], args := [d] }
  | _ => none }
def fnIntPowersRow : OpenClaim := { program := "ytccdaiagameobaa", sum := "fb9d39a53c4711a1b74238fbce20e8d9bac91c3e3de76d63caed92fe2a53d54f", func := "loop.example/slowworm/laws.FnIntPowers", spec := "fnIntPowers", inPlace := ["internal/abi.NoEscape"], apart := false }
def FnIntPowersSaid : Prop := fnIntPowersRow.holds Try.pinned (OpenSpec.ofChange fnIntPowersSpec)

/-- ITS FALSE NEIGHBOUR: 'it returns false'. Refute it at one input. -/
def fnIntPowersWrong : ChangeSpec := { name := "fnIntPowers", fn := fun _ => fun
  | [d] => { results := [.lit (.bool false)], args := [d] }
  | _ => none }
def FnIntPowersWrongFalsely : Prop := fnIntPowersRow.holds Try.pinned (OpenSpec.ofChange fnIntPowersWrong)

/-- 'laws.FnIntPowerOf': WHATEVER THE INPUT: true; the input reads as it did. -/
def fnIntPowerOfSpec : ChangeSpec := { name := "fnIntPowerOf", fn := fun _ => fun
  | [d] => { results := [.lit (.bool true)], args := [d] }
  | _ => none }
def fnIntPowerOfRow : OpenClaim := { program := "ytccdaiagameobaa", sum := "fb9d39a53c4711a1b74238fbce20e8d9bac91c3e3de76d63caed92fe2a53d54f", func := "loop.example/slowworm/laws.FnIntPowerOf", spec := "fnIntPowerOf", inPlace := ["internal/abi.NoEscape"], apart := false }
def FnIntPowerOfSaid : Prop := fnIntPowerOfRow.holds Try.pinned (OpenSpec.ofChange fnIntPowerOfSpec)

/-- ITS FALSE NEIGHBOUR: 'it returns false'. Refute it at one input. -/
def fnIntPowerOfWrong : ChangeSpec := { name := "fnIntPowerOf", fn := fun _ => fun
  | [d] => { results := [.lit (.bool false)], args := [d] }
  | _ => none }
def FnIntPowerOfWrongFalsely : Prop := fnIntPowerOfRow.holds Try.pinned (OpenSpec.ofChange fnIntPowerOfWrong)

/- THE SECOND FORM. 'bulk': how many values and letters a reading holds, each counted each time it is reached (what is shared counts as often as it is met; a slice's spare places count too). A statement '..UptoSaid' is the law's where the arguments, and the package variables that the reading takes, are together of bulk at most 1048576: NARROWER than '..Said'. Prove '..Said' where nothing that the law and all that it calls make is longer than what came in: it says more and counts as full. Else prove '..UptoSaid'. A law counts once. -/
mutual
def uptoBulk {H : Type} : DataW H → Nat
  | .lit (.string bytes) => bytes.length + 1
  | .lit _ => 1
  | .nil => 1
  | .ptr d => uptoBulk d + 1
  | .slice elems spare => uptoBulkAll elems + uptoBulkAll spare + 1
  | .agg parts => uptoBulkAll parts + 1
  | .iface _ d => uptoBulk d + 1
  | .map entries => uptoBulkEntries entries + 1
  | .held _ => 1
def uptoBulkAll {H : Type} : List (DataW H) → Nat
  | [] => 0
  | d :: r => uptoBulk d + uptoBulkAll r
def uptoBulkEntries {H : Type} : List (Lit × DataW H) → Nat
  | [] => 0
  | x :: r => uptoBulkEntry x + uptoBulkEntries r
def uptoBulkEntry {H : Type} : Lit × DataW H → Nat
  | (.string bytes, d) => bytes.length + uptoBulk d + 1
  | (_, d) => uptoBulk d + 1
 end
def uptoSmall : (H : Type) → List (DataW H) → Bool := fun _ ds => decide (uptoBulkAll ds ≤ 1048576)
def OpenSpec.upto (s : _root_.Go.ChangeSpec) : _root_.Go.OpenSpec := { _root_.Go.OpenSpec.ofChange s with cond := some uptoSmall }

/-- 'laws.FnExactIntAdd', WHERE WHAT IT READS IS OF BULK AT MOST 1048576: true; the input reads as it did. -/
def fnExactIntAddUptoRow : OpenClaim := { program := "ytccdaiagameobaa", sum := "fb9d39a53c4711a1b74238fbce20e8d9bac91c3e3de76d63caed92fe2a53d54f", func := "loop.example/slowworm/laws.FnExactIntAdd", spec := "fnExactIntAdd", inPlace := ["internal/abi.NoEscape"], apart := false, narrowed := true }
def FnExactIntAddUptoSaid : Prop := fnExactIntAddUptoRow.holds Try.pinned (OpenSpec.upto fnExactIntAddSpec)

/-- 'laws.FnExactIntSub', WHERE WHAT IT READS IS OF BULK AT MOST 1048576: true; the input reads as it did. -/
def fnExactIntSubUptoRow : OpenClaim := { program := "ytccdaiagameobaa", sum := "fb9d39a53c4711a1b74238fbce20e8d9bac91c3e3de76d63caed92fe2a53d54f", func := "loop.example/slowworm/laws.FnExactIntSub", spec := "fnExactIntSub", inPlace := ["internal/abi.NoEscape"], apart := false, narrowed := true }
def FnExactIntSubUptoSaid : Prop := fnExactIntSubUptoRow.holds Try.pinned (OpenSpec.upto fnExactIntSubSpec)

/-- 'laws.FnExactIntDiv', WHERE WHAT IT READS IS OF BULK AT MOST 1048576: true; the input reads as it did. -/
def fnExactIntDivUptoRow : OpenClaim := { program := "ytccdaiagameobaa", sum := "fb9d39a53c4711a1b74238fbce20e8d9bac91c3e3de76d63caed92fe2a53d54f", func := "loop.example/slowworm/laws.FnExactIntDiv", spec := "fnExactIntDiv", inPlace := ["internal/abi.NoEscape"], apart := false, narrowed := true }
def FnExactIntDivUptoSaid : Prop := fnExactIntDivUptoRow.holds Try.pinned (OpenSpec.upto fnExactIntDivSpec)

/-- 'laws.FnExactIntMod', WHERE WHAT IT READS IS OF BULK AT MOST 1048576: true; the input reads as it did. -/
def fnExactIntModUptoRow : OpenClaim := { program := "ytccdaiagameobaa", sum := "fb9d39a53c4711a1b74238fbce20e8d9bac91c3e3de76d63caed92fe2a53d54f", func := "loop.example/slowworm/laws.FnExactIntMod", spec := "fnExactIntMod", inPlace := ["internal/abi.NoEscape"], apart := false, narrowed := true }
def FnExactIntModUptoSaid : Prop := fnExactIntModUptoRow.holds Try.pinned (OpenSpec.upto fnExactIntModSpec)

/-- 'laws.FnExactIntRoot', WHERE WHAT IT READS IS OF BULK AT MOST 1048576: true; the input reads as it did. -/
def fnExactIntRootUptoRow : OpenClaim := { program := "ytccdaiagameobaa", sum := "fb9d39a53c4711a1b74238fbce20e8d9bac91c3e3de76d63caed92fe2a53d54f", func := "loop.example/slowworm/laws.FnExactIntRoot", spec := "fnExactIntRoot", inPlace := ["internal/abi.NoEscape"], apart := false, narrowed := true }
def FnExactIntRootUptoSaid : Prop := fnExactIntRootUptoRow.holds Try.pinned (OpenSpec.upto fnExactIntRootSpec)

/-- 'laws.FnIntOk', WHERE WHAT IT READS IS OF BULK AT MOST 1048576: true; the input reads as it did. -/
def fnIntOkUptoRow : OpenClaim := { program := "ytccdaiagameobaa", sum := "fb9d39a53c4711a1b74238fbce20e8d9bac91c3e3de76d63caed92fe2a53d54f", func := "loop.example/slowworm/laws.FnIntOk", spec := "fnIntOk", inPlace := ["internal/abi.NoEscape"], apart := false, narrowed := true }
def FnIntOkUptoSaid : Prop := fnIntOkUptoRow.holds Try.pinned (OpenSpec.upto fnIntOkSpec)

/-- 'laws.FnIntTriples', WHERE WHAT IT READS IS OF BULK AT MOST 1048576: true; the input reads as it did. -/
def fnIntTriplesUptoRow : OpenClaim := { program := "ytccdaiagameobaa", sum := "fb9d39a53c4711a1b74238fbce20e8d9bac91c3e3de76d63caed92fe2a53d54f", func := "loop.example/slowworm/laws.FnIntTriples", spec := "fnIntTriples", inPlace := ["internal/abi.NoEscape"], apart := false, narrowed := true }
def FnIntTriplesUptoSaid : Prop := fnIntTriplesUptoRow.holds Try.pinned (OpenSpec.upto fnIntTriplesSpec)

/-- 'laws.FnIntShares', WHERE WHAT IT READS IS OF BULK AT MOST 1048576: true; the input reads as it did. -/
def fnIntSharesUptoRow : OpenClaim := { program := "ytccdaiagameobaa", sum := "fb9d39a53c4711a1b74238fbce20e8d9bac91c3e3de76d63caed92fe2a53d54f", func := "loop.example/slowworm/laws.FnIntShares", spec := "fnIntShares", inPlace := ["internal/abi.NoEscape"], apart := false, narrowed := true }
def FnIntSharesUptoSaid : Prop := fnIntSharesUptoRow.holds Try.pinned (OpenSpec.upto fnIntSharesSpec)

/-- 'laws.FnIntOrder', WHERE WHAT IT READS IS OF BULK AT MOST 1048576: true; the input reads as it did. -/
def fnIntOrderUptoRow : OpenClaim := { program := "ytccdaiagameobaa", sum := "fb9d39a53c4711a1b74238fbce20e8d9bac91c3e3de76d63caed92fe2a53d54f", func := "loop.example/slowworm/laws.FnIntOrder", spec := "fnIntOrder", inPlace := ["internal/abi.NoEscape"], apart := false, narrowed := true }
def FnIntOrderUptoSaid : Prop := fnIntOrderUptoRow.holds Try.pinned (OpenSpec.upto fnIntOrderSpec)

/-- 'laws.FnIntCmp', WHERE WHAT IT READS IS OF BULK AT MOST 1048576: true; the input reads as it did. -/
def fnIntCmpUptoRow : OpenClaim := { program := "ytccdaiagameobaa", sum := "fb9d39a53c4711a1b74238fbce20e8d9bac91c3e3de76d63caed92fe2a53d54f", func := "loop.example/slowworm/laws.FnIntCmp", spec := "fnIntCmp", inPlace := ["internal/abi.NoEscape"], apart := false, narrowed := true }
def FnIntCmpUptoSaid : Prop := fnIntCmpUptoRow.holds Try.pinned (OpenSpec.upto fnIntCmpSpec)

/-- 'laws.FnIntPow', WHERE WHAT IT READS IS OF BULK AT MOST 1048576: true; the input reads as it did. -/
def fnIntPowUptoRow : OpenClaim := { program := "ytccdaiagameobaa", sum := "fb9d39a53c4711a1b74238fbce20e8d9bac91c3e3de76d63caed92fe2a53d54f", func := "loop.example/slowworm/laws.FnIntPow", spec := "fnIntPow", inPlace := ["internal/abi.NoEscape"], apart := false, narrowed := true }
def FnIntPowUptoSaid : Prop := fnIntPowUptoRow.holds Try.pinned (OpenSpec.upto fnIntPowSpec)

/-- 'laws.FnIntPowers', WHERE WHAT IT READS IS OF BULK AT MOST 1048576: true; the input reads as it did. -/
def fnIntPowersUptoRow : OpenClaim := { program := "ytccdaiagameobaa", sum := "fb9d39a53c4711a1b74238fbce20e8d9bac91c3e3de76d63caed92fe2a53d54f", func := "loop.example/slowworm/laws.FnIntPowers", spec := "fnIntPowers", inPlace := ["internal/abi.NoEscape"], apart := false, narrowed := true }
def FnIntPowersUptoSaid : Prop := fnIntPowersUptoRow.holds Try.pinned (OpenSpec.upto fnIntPowersSpec)

/-- 'laws.FnIntPowerOf', WHERE WHAT IT READS IS OF BULK AT MOST 1048576: true; the input reads as it did. -/
def fnIntPowerOfUptoRow : OpenClaim := { program := "ytccdaiagameobaa", sum := "fb9d39a53c4711a1b74238fbce20e8d9bac91c3e3de76d63caed92fe2a53d54f", func := "loop.example/slowworm/laws.FnIntPowerOf", spec := "fnIntPowerOf", inPlace := ["internal/abi.NoEscape"], apart := false, narrowed := true }
def FnIntPowerOfUptoSaid : Prop := fnIntPowerOfUptoRow.holds Try.pinned (OpenSpec.upto fnIntPowerOfSpec)

end Rows
end Go.Proofs.Ytccdaiagameobaa
