/-
  No cell of these rows narrows 'for every input' (looked for: loops, veiled, ifaces, maps, wideKeys, modest, calm, conditions, laid).
  DERIVED. THE GIVEN ROWS OF THIS SEAT. 10 by the template 'for every input the law returns true; each argument reads behind the call as it read before'; 0 by the template 'total and deterministic' (their statements: YtekbnloceifdmaaTotals.lean).
  GIVEN WITH THE SEED: the statements are not yours to turn. If you find one false, say at which input.
  Laid BY PROGRAM, IN A SANDBOX (cutbox-rows.mjs): the forced cells as the released guide's own fill.sh prints them over the translation 794e92d2bf3cee7f… (all of the seat's roots in one cut). By AI agents, Wed Nov 11 2026. No macro, syntax, notation, axiom, sorry.
-/
import Derived.Test.YtekbnloceifdmaaChecked
import GoSem.Claim
import GoSem.ClaimJoined
import GoSem.ClaimMapViews
import Derived.JoinedTies
import Derived.KernelRfl
namespace Go.Proofs.Ytekbnloceifdmaa
/- THE CELL 'sum', in the pinned program and in every row, IS THE sha256 OF THE DUMP (.gsa) THAT YtekbnloceifdmaaProg.lean LOADS. Nothing in Lean hashes anything: it is a label: what it is worth is what the hold of that sum in a sandbox is worth. -/
noncomputable def Try.pinned : Pinned := { name := "ytekbnloceifdmaa", sum := "794e92d2bf3cee7fd1371c87d804ef9376269edf639b1daee5da92846ddb5c2d", checked := Try.checked }
namespace Rows
def none {H : Type} : Left H := { results := [], args := [] }

/-- 'laws.FnExactReadCartridge': WHATEVER THE INPUT: true; the input reads as it did. -/
def fnExactReadCartridgeSpec : ChangeSpec := { name := "fnExactReadCartridge", fn := fun _ => fun
  | [d] => { results := [.lit (.bool true)], args := [d] }
  | _ => none }
def fnExactReadCartridgeRow : OpenClaim := { program := "ytekbnloceifdmaa", sum := "794e92d2bf3cee7fd1371c87d804ef9376269edf639b1daee5da92846ddb5c2d", func := "loop.example/homeconsole/laws.FnExactReadCartridge", spec := "fnExactReadCartridge", plainKeys := false, apart := false }
def FnExactReadCartridgeSaid : Prop := fnExactReadCartridgeRow.holds Try.pinned (OpenSpec.ofChange fnExactReadCartridgeSpec)

/-- ITS FALSE NEIGHBOUR: 'it returns false'. Refute it at one input. -/
def fnExactReadCartridgeWrong : ChangeSpec := { name := "fnExactReadCartridge", fn := fun _ => fun
  | [d] => { results := [.lit (.bool false)], args := [d] }
  | _ => none }
def FnExactReadCartridgeWrongFalsely : Prop := fnExactReadCartridgeRow.holds Try.pinned (OpenSpec.ofChange fnExactReadCartridgeWrong)

/-- 'laws.FnExactBuildCartridge': WHATEVER THE INPUT: true; the input reads as it did. -/
def fnExactBuildCartridgeSpec : ChangeSpec := { name := "fnExactBuildCartridge", fn := fun _ => fun
  | [d] => { results := [.lit (.bool true)], args := [d] }
  | _ => none }
def fnExactBuildCartridgeRow : OpenClaim := { program := "ytekbnloceifdmaa", sum := "794e92d2bf3cee7fd1371c87d804ef9376269edf639b1daee5da92846ddb5c2d", func := "loop.example/homeconsole/laws.FnExactBuildCartridge", spec := "fnExactBuildCartridge", plainKeys := false, apart := false }
def FnExactBuildCartridgeSaid : Prop := fnExactBuildCartridgeRow.holds Try.pinned (OpenSpec.ofChange fnExactBuildCartridgeSpec)

/-- ITS FALSE NEIGHBOUR: 'it returns false'. Refute it at one input. -/
def fnExactBuildCartridgeWrong : ChangeSpec := { name := "fnExactBuildCartridge", fn := fun _ => fun
  | [d] => { results := [.lit (.bool false)], args := [d] }
  | _ => none }
def FnExactBuildCartridgeWrongFalsely : Prop := fnExactBuildCartridgeRow.holds Try.pinned (OpenSpec.ofChange fnExactBuildCartridgeWrong)

/-- 'laws.FnReadCartridge': WHATEVER THE INPUT: true; the input reads as it did. -/
def fnReadCartridgeSpec : ChangeSpec := { name := "fnReadCartridge", fn := fun _ => fun
  | [d1, d2] => { results := [.lit (.bool true)], args := [d1, d2] }
  | _ => none }
def fnReadCartridgeRow : OpenClaim := { program := "ytekbnloceifdmaa", sum := "794e92d2bf3cee7fd1371c87d804ef9376269edf639b1daee5da92846ddb5c2d", func := "loop.example/homeconsole/laws.FnReadCartridge", spec := "fnReadCartridge", plainKeys := false, apart := false }
def FnReadCartridgeSaid : Prop := fnReadCartridgeRow.holds Try.pinned (OpenSpec.ofChange fnReadCartridgeSpec)

/-- ITS FALSE NEIGHBOUR: 'it returns false'. Refute it at one input. -/
def fnReadCartridgeWrong : ChangeSpec := { name := "fnReadCartridge", fn := fun _ => fun
  | [d1, d2] => { results := [.lit (.bool false)], args := [d1, d2] }
  | _ => none }
def FnReadCartridgeWrongFalsely : Prop := fnReadCartridgeRow.holds Try.pinned (OpenSpec.ofChange fnReadCartridgeWrong)

/-- 'laws.FnBuildCartridge': WHATEVER THE INPUT: true; the input reads as it did. -/
def fnBuildCartridgeSpec : ChangeSpec := { name := "fnBuildCartridge", fn := fun _ => fun
  | [d] => { results := [.lit (.bool true)], args := [d] }
  | _ => none }
def fnBuildCartridgeRow : OpenClaim := { program := "ytekbnloceifdmaa", sum := "794e92d2bf3cee7fd1371c87d804ef9376269edf639b1daee5da92846ddb5c2d", func := "loop.example/homeconsole/laws.FnBuildCartridge", spec := "fnBuildCartridge", plainKeys := false, apart := false }
def FnBuildCartridgeSaid : Prop := fnBuildCartridgeRow.holds Try.pinned (OpenSpec.ofChange fnBuildCartridgeSpec)

/-- ITS FALSE NEIGHBOUR: 'it returns false'. Refute it at one input. -/
def fnBuildCartridgeWrong : ChangeSpec := { name := "fnBuildCartridge", fn := fun _ => fun
  | [d] => { results := [.lit (.bool false)], args := [d] }
  | _ => none }
def FnBuildCartridgeWrongFalsely : Prop := fnBuildCartridgeRow.holds Try.pinned (OpenSpec.ofChange fnBuildCartridgeWrong)

/-- 'laws.FnExactReadCheated': WHATEVER THE INPUT: true; the input reads as it did. -/
def fnExactReadCheatedSpec : ChangeSpec := { name := "fnExactReadCheated", fn := fun _ => fun
  | [d1, d2, d3] => { results := [.lit (.bool true)], args := [d1, d2, d3] }
  | _ => none }
def fnExactReadCheatedRow : OpenClaim := { program := "ytekbnloceifdmaa", sum := "794e92d2bf3cee7fd1371c87d804ef9376269edf639b1daee5da92846ddb5c2d", func := "loop.example/homeconsole/laws.FnExactReadCheated", spec := "fnExactReadCheated", plainKeys := false, apart := false }
def FnExactReadCheatedSaid : Prop := fnExactReadCheatedRow.holds Try.pinned (OpenSpec.ofChange fnExactReadCheatedSpec)

/-- ITS FALSE NEIGHBOUR: 'it returns false'. Refute it at one input. -/
def fnExactReadCheatedWrong : ChangeSpec := { name := "fnExactReadCheated", fn := fun _ => fun
  | [d1, d2, d3] => { results := [.lit (.bool false)], args := [d1, d2, d3] }
  | _ => none }
def FnExactReadCheatedWrongFalsely : Prop := fnExactReadCheatedRow.holds Try.pinned (OpenSpec.ofChange fnExactReadCheatedWrong)

/-- 'laws.FnCheatsOrder': WHATEVER THE INPUT: true; the input reads as it did. -/
def fnCheatsOrderSpec : ChangeSpec := { name := "fnCheatsOrder", fn := fun _ => fun
  | [d] => { results := [.lit (.bool true)], args := [d] }
  | _ => none }
def fnCheatsOrderRow : OpenClaim := { program := "ytekbnloceifdmaa", sum := "794e92d2bf3cee7fd1371c87d804ef9376269edf639b1daee5da92846ddb5c2d", func := "loop.example/homeconsole/laws.FnCheatsOrder", spec := "fnCheatsOrder", plainKeys := false, apart := false }
def FnCheatsOrderSaid : Prop := fnCheatsOrderRow.holds Try.pinned (OpenSpec.ofChange fnCheatsOrderSpec)

/-- ITS FALSE NEIGHBOUR: 'it returns false'. Refute it at one input. -/
def fnCheatsOrderWrong : ChangeSpec := { name := "fnCheatsOrder", fn := fun _ => fun
  | [d] => { results := [.lit (.bool false)], args := [d] }
  | _ => none }
def FnCheatsOrderWrongFalsely : Prop := fnCheatsOrderRow.holds Try.pinned (OpenSpec.ofChange fnCheatsOrderWrong)

/-- 'laws.FnReadCheated': WHATEVER THE INPUT: true; the input reads as it did. -/
def fnReadCheatedSpec : ChangeSpec := { name := "fnReadCheated", fn := fun _ => fun
  | [d] => { results := [.lit (.bool true)], args := [d] }
  | _ => none }
def fnReadCheatedRow : OpenClaim := { program := "ytekbnloceifdmaa", sum := "794e92d2bf3cee7fd1371c87d804ef9376269edf639b1daee5da92846ddb5c2d", func := "loop.example/homeconsole/laws.FnReadCheated", spec := "fnReadCheated", plainKeys := false, apart := false }
def FnReadCheatedSaid : Prop := fnReadCheatedRow.holds Try.pinned (OpenSpec.ofChange fnReadCheatedSpec)

/-- ITS FALSE NEIGHBOUR: 'it returns false'. Refute it at one input. -/
def fnReadCheatedWrong : ChangeSpec := { name := "fnReadCheated", fn := fun _ => fun
  | [d] => { results := [.lit (.bool false)], args := [d] }
  | _ => none }
def FnReadCheatedWrongFalsely : Prop := fnReadCheatedRow.holds Try.pinned (OpenSpec.ofChange fnReadCheatedWrong)

/-- 'laws.FnExactShareTiles': WHATEVER THE INPUT: true; the input reads as it did. -/
def fnExactShareTilesSpec : ChangeSpec := { name := "fnExactShareTiles", fn := fun _ => fun
  | [d] => { results := [.lit (.bool true)], args := [d] }
  | _ => none }
def fnExactShareTilesRow : OpenClaim := { program := "ytekbnloceifdmaa", sum := "794e92d2bf3cee7fd1371c87d804ef9376269edf639b1daee5da92846ddb5c2d", func := "loop.example/homeconsole/laws.FnExactShareTiles", spec := "fnExactShareTiles", plainKeys := false, apart := false }
def FnExactShareTilesSaid : Prop := fnExactShareTilesRow.holds Try.pinned (OpenSpec.ofChange fnExactShareTilesSpec)

/-- ITS FALSE NEIGHBOUR: 'it returns false'. Refute it at one input. -/
def fnExactShareTilesWrong : ChangeSpec := { name := "fnExactShareTiles", fn := fun _ => fun
  | [d] => { results := [.lit (.bool false)], args := [d] }
  | _ => none }
def FnExactShareTilesWrongFalsely : Prop := fnExactShareTilesRow.holds Try.pinned (OpenSpec.ofChange fnExactShareTilesWrong)

/-- 'laws.FnShareTiles': WHATEVER THE INPUT: true; the input reads as it did. -/
def fnShareTilesSpec : ChangeSpec := { name := "fnShareTiles", fn := fun _ => fun
  | [d] => { results := [.lit (.bool true)], args := [d] }
  | _ => none }
def fnShareTilesRow : OpenClaim := { program := "ytekbnloceifdmaa", sum := "794e92d2bf3cee7fd1371c87d804ef9376269edf639b1daee5da92846ddb5c2d", func := "loop.example/homeconsole/laws.FnShareTiles", spec := "fnShareTiles", plainKeys := false, apart := false }
def FnShareTilesSaid : Prop := fnShareTilesRow.holds Try.pinned (OpenSpec.ofChange fnShareTilesSpec)

/-- ITS FALSE NEIGHBOUR: 'it returns false'. Refute it at one input. -/
def fnShareTilesWrong : ChangeSpec := { name := "fnShareTiles", fn := fun _ => fun
  | [d] => { results := [.lit (.bool false)], args := [d] }
  | _ => none }
def FnShareTilesWrongFalsely : Prop := fnShareTilesRow.holds Try.pinned (OpenSpec.ofChange fnShareTilesWrong)

/-- 'laws.FnTilesShared': WHATEVER THE INPUT: true; the input reads as it did. -/
def fnTilesSharedSpec : ChangeSpec := { name := "fnTilesShared", fn := fun _ => fun
  | [d] => { results := [.lit (.bool true)], args := [d] }
  | _ => none }
def fnTilesSharedRow : OpenClaim := { program := "ytekbnloceifdmaa", sum := "794e92d2bf3cee7fd1371c87d804ef9376269edf639b1daee5da92846ddb5c2d", func := "loop.example/homeconsole/laws.FnTilesShared", spec := "fnTilesShared", plainKeys := false, apart := false }
def FnTilesSharedSaid : Prop := fnTilesSharedRow.holds Try.pinned (OpenSpec.ofChange fnTilesSharedSpec)

/-- ITS FALSE NEIGHBOUR: 'it returns false'. Refute it at one input. -/
def fnTilesSharedWrong : ChangeSpec := { name := "fnTilesShared", fn := fun _ => fun
  | [d] => { results := [.lit (.bool false)], args := [d] }
  | _ => none }
def FnTilesSharedWrongFalsely : Prop := fnTilesSharedRow.holds Try.pinned (OpenSpec.ofChange fnTilesSharedWrong)

/- THE SECOND FORM. 'bulk': how many values and letters a reading holds, each counted each time it is reached (what is shared counts as often as it is met; a slice's spare places count too). A statement '..UptoSaid' is the law's where the arguments, and the package variables that the reading takes, are together of bulk at most 1048576: NARROWER than '..Said'. Prove '..Said' where nothing that the law and all that it calls make is longer than what came in: it says more and counts as full. Else prove '..UptoSaid'. A law counts once. -/
mutual
def uptoBulk {H : Type} : DataW H → Nat
  | .lit (.string bytes) => bytes.length + 1
  | .lit _ => 1
  | .nil => 1
  | .ptr d => uptoBulk d + 1
  | .slice elems spare => uptoBulkAll elems + uptoBulkAll spare + 1
  | .agg parts => uptoBulkAll parts + 1
  | .iface _ d => uptoBulk d + 1
  | .map entries => uptoBulkEntries entries + 1
  | .held _ => 1
def uptoBulkAll {H : Type} : List (DataW H) → Nat
  | [] => 0
  | d :: r => uptoBulk d + uptoBulkAll r
def uptoBulkEntries {H : Type} : List (Lit × DataW H) → Nat
  | [] => 0
  | x :: r => uptoBulkEntry x + uptoBulkEntries r
def uptoBulkEntry {H : Type} : Lit × DataW H → Nat
  | (.string bytes, d) => bytes.length + uptoBulk d + 1
  | (_, d) => uptoBulk d + 1
 end
def uptoSmall : (H : Type) → List (DataW H) → Bool := fun _ ds => decide (uptoBulkAll ds ≤ 1048576)
def OpenSpec.upto (s : _root_.Go.ChangeSpec) : _root_.Go.OpenSpec := { _root_.Go.OpenSpec.ofChange s with cond := some uptoSmall }

/-- 'laws.FnExactReadCartridge', WHERE WHAT IT READS IS OF BULK AT MOST 1048576: true; the input reads as it did. -/
def fnExactReadCartridgeUptoRow : OpenClaim := { program := "ytekbnloceifdmaa", sum := "794e92d2bf3cee7fd1371c87d804ef9376269edf639b1daee5da92846ddb5c2d", func := "loop.example/homeconsole/laws.FnExactReadCartridge", spec := "fnExactReadCartridge", plainKeys := false, apart := false, narrowed := true }
def FnExactReadCartridgeUptoSaid : Prop := fnExactReadCartridgeUptoRow.holds Try.pinned (OpenSpec.upto fnExactReadCartridgeSpec)

/-- 'laws.FnExactBuildCartridge', WHERE WHAT IT READS IS OF BULK AT MOST 1048576: true; the input reads as it did. -/
def fnExactBuildCartridgeUptoRow : OpenClaim := { program := "ytekbnloceifdmaa", sum := "794e92d2bf3cee7fd1371c87d804ef9376269edf639b1daee5da92846ddb5c2d", func := "loop.example/homeconsole/laws.FnExactBuildCartridge", spec := "fnExactBuildCartridge", plainKeys := false, apart := false, narrowed := true }
def FnExactBuildCartridgeUptoSaid : Prop := fnExactBuildCartridgeUptoRow.holds Try.pinned (OpenSpec.upto fnExactBuildCartridgeSpec)

/-- 'laws.FnReadCartridge', WHERE WHAT IT READS IS OF BULK AT MOST 1048576: true; the input reads as it did. -/
def fnReadCartridgeUptoRow : OpenClaim := { program := "ytekbnloceifdmaa", sum := "794e92d2bf3cee7fd1371c87d804ef9376269edf639b1daee5da92846ddb5c2d", func := "loop.example/homeconsole/laws.FnReadCartridge", spec := "fnReadCartridge", plainKeys := false, apart := false, narrowed := true }
def FnReadCartridgeUptoSaid : Prop := fnReadCartridgeUptoRow.holds Try.pinned (OpenSpec.upto fnReadCartridgeSpec)

/-- 'laws.FnBuildCartridge', WHERE WHAT IT READS IS OF BULK AT MOST 1048576: true; the input reads as it did. -/
def fnBuildCartridgeUptoRow : OpenClaim := { program := "ytekbnloceifdmaa", sum := "794e92d2bf3cee7fd1371c87d804ef9376269edf639b1daee5da92846ddb5c2d", func := "loop.example/homeconsole/laws.FnBuildCartridge", spec := "fnBuildCartridge", plainKeys := false, apart := false, narrowed := true }
def FnBuildCartridgeUptoSaid : Prop := fnBuildCartridgeUptoRow.holds Try.pinned (OpenSpec.upto fnBuildCartridgeSpec)

/-- 'laws.FnExactReadCheated', WHERE WHAT IT READS IS OF BULK AT MOST 1048576: true; the input reads as it did. -/
def fnExactReadCheatedUptoRow : OpenClaim := { program := "ytekbnloceifdmaa", sum := "794e92d2bf3cee7fd1371c87d804ef9376269edf639b1daee5da92846ddb5c2d", func := "loop.example/homeconsole/laws.FnExactReadCheated", spec := "fnExactReadCheated", plainKeys := false, apart := false, narrowed := true }
def FnExactReadCheatedUptoSaid : Prop := fnExactReadCheatedUptoRow.holds Try.pinned (OpenSpec.upto fnExactReadCheatedSpec)

/-- 'laws.FnCheatsOrder', WHERE WHAT IT READS IS OF BULK AT MOST 1048576: true; the input reads as it did. -/
def fnCheatsOrderUptoRow : OpenClaim := { program := "ytekbnloceifdmaa", sum := "794e92d2bf3cee7fd1371c87d804ef9376269edf639b1daee5da92846ddb5c2d", func := "loop.example/homeconsole/laws.FnCheatsOrder", spec := "fnCheatsOrder", plainKeys := false, apart := false, narrowed := true }
def FnCheatsOrderUptoSaid : Prop := fnCheatsOrderUptoRow.holds Try.pinned (OpenSpec.upto fnCheatsOrderSpec)

/-- 'laws.FnReadCheated', WHERE WHAT IT READS IS OF BULK AT MOST 1048576: true; the input reads as it did. -/
def fnReadCheatedUptoRow : OpenClaim := { program := "ytekbnloceifdmaa", sum := "794e92d2bf3cee7fd1371c87d804ef9376269edf639b1daee5da92846ddb5c2d", func := "loop.example/homeconsole/laws.FnReadCheated", spec := "fnReadCheated", plainKeys := false, apart := false, narrowed := true }
def FnReadCheatedUptoSaid : Prop := fnReadCheatedUptoRow.holds Try.pinned (OpenSpec.upto fnReadCheatedSpec)

/-- 'laws.FnExactShareTiles', WHERE WHAT IT READS IS OF BULK AT MOST 1048576: true; the input reads as it did. -/
def fnExactShareTilesUptoRow : OpenClaim := { program := "ytekbnloceifdmaa", sum := "794e92d2bf3cee7fd1371c87d804ef9376269edf639b1daee5da92846ddb5c2d", func := "loop.example/homeconsole/laws.FnExactShareTiles", spec := "fnExactShareTiles", plainKeys := false, apart := false, narrowed := true }
def FnExactShareTilesUptoSaid : Prop := fnExactShareTilesUptoRow.holds Try.pinned (OpenSpec.upto fnExactShareTilesSpec)

/-- 'laws.FnShareTiles', WHERE WHAT IT READS IS OF BULK AT MOST 1048576: true; the input reads as it did. -/
def fnShareTilesUptoRow : OpenClaim := { program := "ytekbnloceifdmaa", sum := "794e92d2bf3cee7fd1371c87d804ef9376269edf639b1daee5da92846ddb5c2d", func := "loop.example/homeconsole/laws.FnShareTiles", spec := "fnShareTiles", plainKeys := false, apart := false, narrowed := true }
def FnShareTilesUptoSaid : Prop := fnShareTilesUptoRow.holds Try.pinned (OpenSpec.upto fnShareTilesSpec)

/-- 'laws.FnTilesShared', WHERE WHAT IT READS IS OF BULK AT MOST 1048576: true; the input reads as it did. -/
def fnTilesSharedUptoRow : OpenClaim := { program := "ytekbnloceifdmaa", sum := "794e92d2bf3cee7fd1371c87d804ef9376269edf639b1daee5da92846ddb5c2d", func := "loop.example/homeconsole/laws.FnTilesShared", spec := "fnTilesShared", plainKeys := false, apart := false, narrowed := true }
def FnTilesSharedUptoSaid : Prop := fnTilesSharedUptoRow.holds Try.pinned (OpenSpec.upto fnTilesSharedSpec)

end Rows
end Go.Proofs.Ytekbnloceifdmaa
