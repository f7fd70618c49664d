/-
  No cell of these rows narrows 'for every input' (looked for: loops, veiled, ifaces, maps, wideKeys, modest, calm, conditions, laid).
  DERIVED. THE GIVEN ROWS OF THIS SEAT. 13 by the template 'for every input the law returns true; each argument reads behind the call as it read before'; 0 by the template 'total and deterministic' (their statements: YtdjlbfaiccdbfaaTotals.lean).
  GIVEN WITH THE SEED: the statements are not yours to turn. If you find one false, say at which input.
  Laid BY PROGRAM, IN A SANDBOX (cutbox-rows.mjs): the forced cells as the released guide's own fill.sh prints them over the translation eb42c3009d11e12c… (all of the seat's roots in one cut). By AI agents, Wed Nov 11 2026. No macro, syntax, notation, axiom, sorry.
-/
import Derived.Test.YtdjlbfaiccdbfaaChecked
import GoSem.Claim
import GoSem.ClaimJoined
import GoSem.ClaimMapViews
import Derived.JoinedTies
import Derived.KernelRfl
namespace Go.Proofs.Ytdjlbfaiccdbfaa
/- THE CELL 'sum', in the pinned program and in every row, IS THE sha256 OF THE DUMP (.gsa) THAT YtdjlbfaiccdbfaaProg.lean LOADS. Nothing in Lean hashes anything: it is a label: what it is worth is what the hold of that sum in a sandbox is worth. -/
noncomputable def Try.pinned : Pinned := { name := "ytdjlbfaiccdbfaa", sum := "eb42c3009d11e12cbd3f64b438f491015336b127c2d0f394a2b5a814c0115cf7", checked := Try.checked }
namespace Rows
def none {H : Type} : Left H := { results := [], args := [] }

/-- 'laws.FnExactConstants': WHATEVER THE INPUT: true; the input reads as it did. -/
def fnExactConstantsSpec : ChangeSpec := { name := "fnExactConstants", fn := fun _ => fun
  | [] => { results := [.lit (.bool true)], args := [] }
  | _ => none }
def fnExactConstantsRow : OpenClaim := { program := "ytdjlbfaiccdbfaa", sum := "eb42c3009d11e12cbd3f64b438f491015336b127c2d0f394a2b5a814c0115cf7", func := "loop.example/punch/laws.FnExactConstants", spec := "fnExactConstants", apart := false }
def FnExactConstantsSaid : Prop := fnExactConstantsRow.holds Try.pinned (OpenSpec.ofChange fnExactConstantsSpec)

/-- ITS FALSE NEIGHBOUR: 'it returns false'. Refute it at one input. -/
def fnExactConstantsWrong : ChangeSpec := { name := "fnExactConstants", fn := fun _ => fun
  | [] => { results := [.lit (.bool false)], args := [] }
  | _ => none }
def FnExactConstantsWrongFalsely : Prop := fnExactConstantsRow.holds Try.pinned (OpenSpec.ofChange fnExactConstantsWrong)

/-- 'laws.FnExactValueOk': WHATEVER THE INPUT: true; the input reads as it did. -/
def fnExactValueOkSpec : ChangeSpec := { name := "fnExactValueOk", fn := fun _ => fun
  | [d] => { results := [.lit (.bool true)], args := [d] }
  | _ => none }
def fnExactValueOkRow : OpenClaim := { program := "ytdjlbfaiccdbfaa", sum := "eb42c3009d11e12cbd3f64b438f491015336b127c2d0f394a2b5a814c0115cf7", func := "loop.example/punch/laws.FnExactValueOk", spec := "fnExactValueOk", apart := false }
def FnExactValueOkSaid : Prop := fnExactValueOkRow.holds Try.pinned (OpenSpec.ofChange fnExactValueOkSpec)

/-- ITS FALSE NEIGHBOUR: 'it returns false'. Refute it at one input. -/
def fnExactValueOkWrong : ChangeSpec := { name := "fnExactValueOk", fn := fun _ => fun
  | [d] => { results := [.lit (.bool false)], args := [d] }
  | _ => none }
def FnExactValueOkWrongFalsely : Prop := fnExactValueOkRow.holds Try.pinned (OpenSpec.ofChange fnExactValueOkWrong)

/-- 'laws.FnExactTruth': WHATEVER THE INPUT: true; the input reads as it did. -/
def fnExactTruthSpec : ChangeSpec := { name := "fnExactTruth", fn := fun _ => fun
  | [d] => { results := [.lit (.bool true)], args := [d] }
  | _ => none }
def fnExactTruthRow : OpenClaim := { program := "ytdjlbfaiccdbfaa", sum := "eb42c3009d11e12cbd3f64b438f491015336b127c2d0f394a2b5a814c0115cf7", func := "loop.example/punch/laws.FnExactTruth", spec := "fnExactTruth", apart := false }
def FnExactTruthSaid : Prop := fnExactTruthRow.holds Try.pinned (OpenSpec.ofChange fnExactTruthSpec)

/-- ITS FALSE NEIGHBOUR: 'it returns false'. Refute it at one input. -/
def fnExactTruthWrong : ChangeSpec := { name := "fnExactTruth", fn := fun _ => fun
  | [d] => { results := [.lit (.bool false)], args := [d] }
  | _ => none }
def FnExactTruthWrongFalsely : Prop := fnExactTruthRow.holds Try.pinned (OpenSpec.ofChange fnExactTruthWrong)

/-- 'laws.FnExactInputOk': WHATEVER THE INPUT: true; the input reads as it did. -/
def fnExactInputOkSpec : ChangeSpec := { name := "fnExactInputOk", fn := fun _ => fun
  | [d] => { results := [.lit (.bool true)], args := [d] }
  | _ => none }
def fnExactInputOkRow : OpenClaim := { program := "ytdjlbfaiccdbfaa", sum := "eb42c3009d11e12cbd3f64b438f491015336b127c2d0f394a2b5a814c0115cf7", func := "loop.example/punch/laws.FnExactInputOk", spec := "fnExactInputOk", apart := false }
def FnExactInputOkSaid : Prop := fnExactInputOkRow.holds Try.pinned (OpenSpec.ofChange fnExactInputOkSpec)

/-- ITS FALSE NEIGHBOUR: 'it returns false'. Refute it at one input. -/
def fnExactInputOkWrong : ChangeSpec := { name := "fnExactInputOk", fn := fun _ => fun
  | [d] => { results := [.lit (.bool false)], args := [d] }
  | _ => none }
def FnExactInputOkWrongFalsely : Prop := fnExactInputOkRow.holds Try.pinned (OpenSpec.ofChange fnExactInputOkWrong)

/-- 'laws.FnExactKey': WHATEVER THE INPUT: true; the input reads as it did. -/
def fnExactKeySpec : ChangeSpec := { name := "fnExactKey", fn := fun _ => fun
  | [d] => { results := [.lit (.bool true)], args := [d] }
  | _ => none }
def fnExactKeyRow : OpenClaim := { program := "ytdjlbfaiccdbfaa", sum := "eb42c3009d11e12cbd3f64b438f491015336b127c2d0f394a2b5a814c0115cf7", func := "loop.example/punch/laws.FnExactKey", spec := "fnExactKey", inPlace := ["math.archTrunc", "math.Float64bits", "math.Float64frombits"], apart := false }
def FnExactKeySaid : Prop := fnExactKeyRow.holds Try.pinned (OpenSpec.ofChange fnExactKeySpec)

/-- ITS FALSE NEIGHBOUR: 'it returns false'. Refute it at one input. -/
def fnExactKeyWrong : ChangeSpec := { name := "fnExactKey", fn := fun _ => fun
  | [d] => { results := [.lit (.bool false)], args := [d] }
  | _ => none }
def FnExactKeyWrongFalsely : Prop := fnExactKeyRow.holds Try.pinned (OpenSpec.ofChange fnExactKeyWrong)

/-- 'laws.FnExactUnary': WHATEVER THE INPUT: true; the input reads as it did. -/
def fnExactUnarySpec : ChangeSpec := { name := "fnExactUnary", fn := fun _ => fun
  | [d1, d2] => { results := [.lit (.bool true)], args := [d1, d2] }
  | _ => none }
def fnExactUnaryRow : OpenClaim := { program := "ytdjlbfaiccdbfaa", sum := "eb42c3009d11e12cbd3f64b438f491015336b127c2d0f394a2b5a814c0115cf7", func := "loop.example/punch/laws.FnExactUnary", spec := "fnExactUnary", apart := false }
def FnExactUnarySaid : Prop := fnExactUnaryRow.holds Try.pinned (OpenSpec.ofChange fnExactUnarySpec)

/-- ITS FALSE NEIGHBOUR: 'it returns false'. Refute it at one input. -/
def fnExactUnaryWrong : ChangeSpec := { name := "fnExactUnary", fn := fun _ => fun
  | [d1, d2] => { results := [.lit (.bool false)], args := [d1, d2] }
  | _ => none }
def FnExactUnaryWrongFalsely : Prop := fnExactUnaryRow.holds Try.pinned (OpenSpec.ofChange fnExactUnaryWrong)

/-- 'laws.FnExactCompare': WHATEVER THE INPUT: true; the input reads as it did. -/
def fnExactCompareSpec : ChangeSpec := { name := "fnExactCompare", fn := fun _ => fun
  | [d1, d2] => { results := [.lit (.bool true)], args := [d1, d2] }
  | _ => none }
def fnExactCompareRow : OpenClaim := { program := "ytdjlbfaiccdbfaa", sum := "eb42c3009d11e12cbd3f64b438f491015336b127c2d0f394a2b5a814c0115cf7", func := "loop.example/punch/laws.FnExactCompare", spec := "fnExactCompare", inPlace := ["math.archTrunc", "math.Float64bits", "math.Float64frombits"], apart := false }
def FnExactCompareSaid : Prop := fnExactCompareRow.holds Try.pinned (OpenSpec.ofChange fnExactCompareSpec)

/-- ITS FALSE NEIGHBOUR: 'it returns false'. Refute it at one input. -/
def fnExactCompareWrong : ChangeSpec := { name := "fnExactCompare", fn := fun _ => fun
  | [d1, d2] => { results := [.lit (.bool false)], args := [d1, d2] }
  | _ => none }
def FnExactCompareWrongFalsely : Prop := fnExactCompareRow.holds Try.pinned (OpenSpec.ofChange fnExactCompareWrong)

/-- 'laws.FnExactSame': WHATEVER THE INPUT: true; the input reads as it did. -/
def fnExactSameSpec : ChangeSpec := { name := "fnExactSame", fn := fun _ => fun
  | [d1, d2] => { results := [.lit (.bool true)], args := [d1, d2] }
  | _ => none }
def fnExactSameRow : OpenClaim := { program := "ytdjlbfaiccdbfaa", sum := "eb42c3009d11e12cbd3f64b438f491015336b127c2d0f394a2b5a814c0115cf7", func := "loop.example/punch/laws.FnExactSame", spec := "fnExactSame", inPlace := ["math.archTrunc", "math.Float64bits", "math.Float64frombits"], apart := false }
def FnExactSameSaid : Prop := fnExactSameRow.holds Try.pinned (OpenSpec.ofChange fnExactSameSpec)

/-- ITS FALSE NEIGHBOUR: 'it returns false'. Refute it at one input. -/
def fnExactSameWrong : ChangeSpec := { name := "fnExactSame", fn := fun _ => fun
  | [d1, d2] => { results := [.lit (.bool false)], args := [d1, d2] }
  | _ => none }
def FnExactSameWrongFalsely : Prop := fnExactSameRow.holds Try.pinned (OpenSpec.ofChange fnExactSameWrong)

/-- 'laws.FnExactTableOk': WHATEVER THE INPUT: true; the input reads as it did. -/
def fnExactTableOkSpec : ChangeSpec := { name := "fnExactTableOk", fn := fun _ => fun
  | [d] => { results := [.lit (.bool true)], args := [d] }
  | _ => none }
def fnExactTableOkRow : OpenClaim := { program := "ytdjlbfaiccdbfaa", sum := "eb42c3009d11e12cbd3f64b438f491015336b127c2d0f394a2b5a814c0115cf7", func := "loop.example/punch/laws.FnExactTableOk", spec := "fnExactTableOk", inPlace := ["math.archTrunc", "math.Float64bits", "math.Float64frombits"], apart := false }
def FnExactTableOkSaid : Prop := fnExactTableOkRow.holds Try.pinned (OpenSpec.ofChange fnExactTableOkSpec)

/-- ITS FALSE NEIGHBOUR: 'it returns false'. Refute it at one input. -/
def fnExactTableOkWrong : ChangeSpec := { name := "fnExactTableOk", fn := fun _ => fun
  | [d] => { results := [.lit (.bool false)], args := [d] }
  | _ => none }
def FnExactTableOkWrongFalsely : Prop := fnExactTableOkRow.holds Try.pinned (OpenSpec.ofChange fnExactTableOkWrong)

/-- 'laws.FnExactAfter': WHATEVER THE INPUT: true; the input reads as it did. -/
def fnExactAfterSpec : ChangeSpec := { name := "fnExactAfter", fn := fun _ => fun
  | [d1, d2] => { results := [.lit (.bool true)], args := [d1, d2] }
  | _ => none }
def fnExactAfterRow : OpenClaim := { program := "ytdjlbfaiccdbfaa", sum := "eb42c3009d11e12cbd3f64b438f491015336b127c2d0f394a2b5a814c0115cf7", func := "loop.example/punch/laws.FnExactAfter", spec := "fnExactAfter", inPlace := ["math.archTrunc", "math.Float64bits", "math.Float64frombits"], apart := false }
def FnExactAfterSaid : Prop := fnExactAfterRow.holds Try.pinned (OpenSpec.ofChange fnExactAfterSpec)

/-- ITS FALSE NEIGHBOUR: 'it returns false'. Refute it at one input. -/
def fnExactAfterWrong : ChangeSpec := { name := "fnExactAfter", fn := fun _ => fun
  | [d1, d2] => { results := [.lit (.bool false)], args := [d1, d2] }
  | _ => none }
def FnExactAfterWrongFalsely : Prop := fnExactAfterRow.holds Try.pinned (OpenSpec.ofChange fnExactAfterWrong)

/-- 'laws.FnExactLength': WHATEVER THE INPUT: true; the input reads as it did. -/
def fnExactLengthSpec : ChangeSpec := { name := "fnExactLength", fn := fun _ => fun
  | [d] => { results := [.lit (.bool true)], args := [d] }
  | _ => none }
def fnExactLengthRow : OpenClaim := { program := "ytdjlbfaiccdbfaa", sum := "eb42c3009d11e12cbd3f64b438f491015336b127c2d0f394a2b5a814c0115cf7", func := "loop.example/punch/laws.FnExactLength", spec := "fnExactLength", inPlace := ["math.archTrunc", "math.Float64bits", "math.Float64frombits"], apart := false }
def FnExactLengthSaid : Prop := fnExactLengthRow.holds Try.pinned (OpenSpec.ofChange fnExactLengthSpec)

/-- ITS FALSE NEIGHBOUR: 'it returns false'. Refute it at one input. -/
def fnExactLengthWrong : ChangeSpec := { name := "fnExactLength", fn := fun _ => fun
  | [d] => { results := [.lit (.bool false)], args := [d] }
  | _ => none }
def FnExactLengthWrongFalsely : Prop := fnExactLengthRow.holds Try.pinned (OpenSpec.ofChange fnExactLengthWrong)

/-- 'laws.FnExactGet': WHATEVER THE INPUT: true; the input reads as it did. -/
def fnExactGetSpec : ChangeSpec := { name := "fnExactGet", fn := fun _ => fun
  | [d1, d2] => { results := [.lit (.bool true)], args := [d1, d2] }
  | _ => none }
def fnExactGetRow : OpenClaim := { program := "ytdjlbfaiccdbfaa", sum := "eb42c3009d11e12cbd3f64b438f491015336b127c2d0f394a2b5a814c0115cf7", func := "loop.example/punch/laws.FnExactGet", spec := "fnExactGet", inPlace := ["math.archTrunc", "math.Float64bits", "math.Float64frombits"], apart := false }
def FnExactGetSaid : Prop := fnExactGetRow.holds Try.pinned (OpenSpec.ofChange fnExactGetSpec)

/-- ITS FALSE NEIGHBOUR: 'it returns false'. Refute it at one input. -/
def fnExactGetWrong : ChangeSpec := { name := "fnExactGet", fn := fun _ => fun
  | [d1, d2] => { results := [.lit (.bool false)], args := [d1, d2] }
  | _ => none }
def FnExactGetWrongFalsely : Prop := fnExactGetRow.holds Try.pinned (OpenSpec.ofChange fnExactGetWrong)

/-- 'laws.FnExactPut': WHATEVER THE INPUT: true; the input reads as it did. -/
def fnExactPutSpec : ChangeSpec := { name := "fnExactPut", fn := fun _ => fun
  | [d1, d2, d3] => { results := [.lit (.bool true)], args := [d1, d2, d3] }
  | _ => none }
def fnExactPutRow : OpenClaim := { program := "ytdjlbfaiccdbfaa", sum := "eb42c3009d11e12cbd3f64b438f491015336b127c2d0f394a2b5a814c0115cf7", func := "loop.example/punch/laws.FnExactPut", spec := "fnExactPut", inPlace := ["math.archTrunc", "math.Float64bits", "math.Float64frombits"], apart := false }
def FnExactPutSaid : Prop := fnExactPutRow.holds Try.pinned (OpenSpec.ofChange fnExactPutSpec)

/-- ITS FALSE NEIGHBOUR: 'it returns false'. Refute it at one input. -/
def fnExactPutWrong : ChangeSpec := { name := "fnExactPut", fn := fun _ => fun
  | [d1, d2, d3] => { results := [.lit (.bool false)], args := [d1, d2, d3] }
  | _ => none }
def FnExactPutWrongFalsely : Prop := fnExactPutRow.holds Try.pinned (OpenSpec.ofChange fnExactPutWrong)

/- THE SECOND FORM. 'bulk': how many values and letters a reading holds, each counted each time it is reached (what is shared counts as often as it is met; a slice's spare places count too). A statement '..UptoSaid' is the law's where the arguments, and the package variables that the reading takes, are together of bulk at most 1048576: NARROWER than '..Said'. Prove '..Said' where nothing that the law and all that it calls make is longer than what came in: it says more and counts as full. Else prove '..UptoSaid'. A law counts once. -/
mutual
def uptoBulk {H : Type} : DataW H → Nat
  | .lit (.string bytes) => bytes.length + 1
  | .lit _ => 1
  | .nil => 1
  | .ptr d => uptoBulk d + 1
  | .slice elems spare => uptoBulkAll elems + uptoBulkAll spare + 1
  | .agg parts => uptoBulkAll parts + 1
  | .iface _ d => uptoBulk d + 1
  | .map entries => uptoBulkEntries entries + 1
  | .held _ => 1
def uptoBulkAll {H : Type} : List (DataW H) → Nat
  | [] => 0
  | d :: r => uptoBulk d + uptoBulkAll r
def uptoBulkEntries {H : Type} : List (Lit × DataW H) → Nat
  | [] => 0
  | x :: r => uptoBulkEntry x + uptoBulkEntries r
def uptoBulkEntry {H : Type} : Lit × DataW H → Nat
  | (.string bytes, d) => bytes.length + uptoBulk d + 1
  | (_, d) => uptoBulk d + 1
 end
def uptoSmall : (H : Type) → List (DataW H) → Bool := fun _ ds => decide (uptoBulkAll ds ≤ 1048576)
def OpenSpec.upto (s : _root_.Go.ChangeSpec) : _root_.Go.OpenSpec := { _root_.Go.OpenSpec.ofChange s with cond := some uptoSmall }

/-- 'laws.FnExactConstants', WHERE WHAT IT READS IS OF BULK AT MOST 1048576: true; the input reads as it did. -/
def fnExactConstantsUptoRow : OpenClaim := { program := "ytdjlbfaiccdbfaa", sum := "eb42c3009d11e12cbd3f64b438f491015336b127c2d0f394a2b5a814c0115cf7", func := "loop.example/punch/laws.FnExactConstants", spec := "fnExactConstants", apart := false, narrowed := true }
def FnExactConstantsUptoSaid : Prop := fnExactConstantsUptoRow.holds Try.pinned (OpenSpec.upto fnExactConstantsSpec)

/-- 'laws.FnExactValueOk', WHERE WHAT IT READS IS OF BULK AT MOST 1048576: true; the input reads as it did. -/
def fnExactValueOkUptoRow : OpenClaim := { program := "ytdjlbfaiccdbfaa", sum := "eb42c3009d11e12cbd3f64b438f491015336b127c2d0f394a2b5a814c0115cf7", func := "loop.example/punch/laws.FnExactValueOk", spec := "fnExactValueOk", apart := false, narrowed := true }
def FnExactValueOkUptoSaid : Prop := fnExactValueOkUptoRow.holds Try.pinned (OpenSpec.upto fnExactValueOkSpec)

/-- 'laws.FnExactTruth', WHERE WHAT IT READS IS OF BULK AT MOST 1048576: true; the input reads as it did. -/
def fnExactTruthUptoRow : OpenClaim := { program := "ytdjlbfaiccdbfaa", sum := "eb42c3009d11e12cbd3f64b438f491015336b127c2d0f394a2b5a814c0115cf7", func := "loop.example/punch/laws.FnExactTruth", spec := "fnExactTruth", apart := false, narrowed := true }
def FnExactTruthUptoSaid : Prop := fnExactTruthUptoRow.holds Try.pinned (OpenSpec.upto fnExactTruthSpec)

/-- 'laws.FnExactInputOk', WHERE WHAT IT READS IS OF BULK AT MOST 1048576: true; the input reads as it did. -/
def fnExactInputOkUptoRow : OpenClaim := { program := "ytdjlbfaiccdbfaa", sum := "eb42c3009d11e12cbd3f64b438f491015336b127c2d0f394a2b5a814c0115cf7", func := "loop.example/punch/laws.FnExactInputOk", spec := "fnExactInputOk", apart := false, narrowed := true }
def FnExactInputOkUptoSaid : Prop := fnExactInputOkUptoRow.holds Try.pinned (OpenSpec.upto fnExactInputOkSpec)

/-- 'laws.FnExactKey', WHERE WHAT IT READS IS OF BULK AT MOST 1048576: true; the input reads as it did. -/
def fnExactKeyUptoRow : OpenClaim := { program := "ytdjlbfaiccdbfaa", sum := "eb42c3009d11e12cbd3f64b438f491015336b127c2d0f394a2b5a814c0115cf7", func := "loop.example/punch/laws.FnExactKey", spec := "fnExactKey", inPlace := ["math.archTrunc", "math.Float64bits", "math.Float64frombits"], apart := false, narrowed := true }
def FnExactKeyUptoSaid : Prop := fnExactKeyUptoRow.holds Try.pinned (OpenSpec.upto fnExactKeySpec)

/-- 'laws.FnExactUnary', WHERE WHAT IT READS IS OF BULK AT MOST 1048576: true; the input reads as it did. -/
def fnExactUnaryUptoRow : OpenClaim := { program := "ytdjlbfaiccdbfaa", sum := "eb42c3009d11e12cbd3f64b438f491015336b127c2d0f394a2b5a814c0115cf7", func := "loop.example/punch/laws.FnExactUnary", spec := "fnExactUnary", apart := false, narrowed := true }
def FnExactUnaryUptoSaid : Prop := fnExactUnaryUptoRow.holds Try.pinned (OpenSpec.upto fnExactUnarySpec)

/-- 'laws.FnExactCompare', WHERE WHAT IT READS IS OF BULK AT MOST 1048576: true; the input reads as it did. -/
def fnExactCompareUptoRow : OpenClaim := { program := "ytdjlbfaiccdbfaa", sum := "eb42c3009d11e12cbd3f64b438f491015336b127c2d0f394a2b5a814c0115cf7", func := "loop.example/punch/laws.FnExactCompare", spec := "fnExactCompare", inPlace := ["math.archTrunc", "math.Float64bits", "math.Float64frombits"], apart := false, narrowed := true }
def FnExactCompareUptoSaid : Prop := fnExactCompareUptoRow.holds Try.pinned (OpenSpec.upto fnExactCompareSpec)

/-- 'laws.FnExactSame', WHERE WHAT IT READS IS OF BULK AT MOST 1048576: true; the input reads as it did. -/
def fnExactSameUptoRow : OpenClaim := { program := "ytdjlbfaiccdbfaa", sum := "eb42c3009d11e12cbd3f64b438f491015336b127c2d0f394a2b5a814c0115cf7", func := "loop.example/punch/laws.FnExactSame", spec := "fnExactSame", inPlace := ["math.archTrunc", "math.Float64bits", "math.Float64frombits"], apart := false, narrowed := true }
def FnExactSameUptoSaid : Prop := fnExactSameUptoRow.holds Try.pinned (OpenSpec.upto fnExactSameSpec)

/-- 'laws.FnExactTableOk', WHERE WHAT IT READS IS OF BULK AT MOST 1048576: true; the input reads as it did. -/
def fnExactTableOkUptoRow : OpenClaim := { program := "ytdjlbfaiccdbfaa", sum := "eb42c3009d11e12cbd3f64b438f491015336b127c2d0f394a2b5a814c0115cf7", func := "loop.example/punch/laws.FnExactTableOk", spec := "fnExactTableOk", inPlace := ["math.archTrunc", "math.Float64bits", "math.Float64frombits"], apart := false, narrowed := true }
def FnExactTableOkUptoSaid : Prop := fnExactTableOkUptoRow.holds Try.pinned (OpenSpec.upto fnExactTableOkSpec)

/-- 'laws.FnExactAfter', WHERE WHAT IT READS IS OF BULK AT MOST 1048576: true; the input reads as it did. -/
def fnExactAfterUptoRow : OpenClaim := { program := "ytdjlbfaiccdbfaa", sum := "eb42c3009d11e12cbd3f64b438f491015336b127c2d0f394a2b5a814c0115cf7", func := "loop.example/punch/laws.FnExactAfter", spec := "fnExactAfter", inPlace := ["math.archTrunc", "math.Float64bits", "math.Float64frombits"], apart := false, narrowed := true }
def FnExactAfterUptoSaid : Prop := fnExactAfterUptoRow.holds Try.pinned (OpenSpec.upto fnExactAfterSpec)

/-- 'laws.FnExactLength', WHERE WHAT IT READS IS OF BULK AT MOST 1048576: true; the input reads as it did. -/
def fnExactLengthUptoRow : OpenClaim := { program := "ytdjlbfaiccdbfaa", sum := "eb42c3009d11e12cbd3f64b438f491015336b127c2d0f394a2b5a814c0115cf7", func := "loop.example/punch/laws.FnExactLength", spec := "fnExactLength", inPlace := ["math.archTrunc", "math.Float64bits", "math.Float64frombits"], apart := false, narrowed := true }
def FnExactLengthUptoSaid : Prop := fnExactLengthUptoRow.holds Try.pinned (OpenSpec.upto fnExactLengthSpec)

/-- 'laws.FnExactGet', WHERE WHAT IT READS IS OF BULK AT MOST 1048576: true; the input reads as it did. -/
def fnExactGetUptoRow : OpenClaim := { program := "ytdjlbfaiccdbfaa", sum := "eb42c3009d11e12cbd3f64b438f491015336b127c2d0f394a2b5a814c0115cf7", func := "loop.example/punch/laws.FnExactGet", spec := "fnExactGet", inPlace := ["math.archTrunc", "math.Float64bits", "math.Float64frombits"], apart := false, narrowed := true }
def FnExactGetUptoSaid : Prop := fnExactGetUptoRow.holds Try.pinned (OpenSpec.upto fnExactGetSpec)

/-- 'laws.FnExactPut', WHERE WHAT IT READS IS OF BULK AT MOST 1048576: true; the input reads as it did. -/
def fnExactPutUptoRow : OpenClaim := { program := "ytdjlbfaiccdbfaa", sum := "eb42c3009d11e12cbd3f64b438f491015336b127c2d0f394a2b5a814c0115cf7", func := "loop.example/punch/laws.FnExactPut", spec := "fnExactPut", inPlace := ["math.archTrunc", "math.Float64bits", "math.Float64frombits"], apart := false, narrowed := true }
def FnExactPutUptoSaid : Prop := fnExactPutUptoRow.holds Try.pinned (OpenSpec.upto fnExactPutSpec)

end Rows
end Go.Proofs.Ytdjlbfaiccdbfaa
