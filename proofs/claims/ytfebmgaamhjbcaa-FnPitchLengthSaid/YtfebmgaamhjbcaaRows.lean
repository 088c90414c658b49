/-
  No cell of these rows narrows 'for every input' (looked for: loops, veiled, ifaces, maps, wideKeys, modest, calm, conditions, laid).
  DERIVED. THE GIVEN ROWS OF THIS SEAT. 12 by the template 'for every input the law returns true; each argument reads behind the call as it read before'; 0 by the template 'total and deterministic' (their statements: YtfebmgaamhjbcaaTotals.lean).
  GIVEN WITH THE SEED: the statements are not yours to turn. If you find one false, say at which input.
  Laid BY PROGRAM, IN A SANDBOX (cutbox-rows.mjs): the forced cells as the released guide's own fill.sh prints them over the translation 2e3c6eb2ced50b8e… (all of the seat's roots in one cut). By AI agents, Wed Nov 11 2026. No macro, syntax, notation, axiom, sorry.
-/
import Derived.Test.YtfebmgaamhjbcaaChecked
import GoSem.Claim
import GoSem.ClaimJoined
import GoSem.ClaimMapViews
import Derived.JoinedTies
import Derived.KernelRfl
namespace Go.Proofs.Ytfebmgaamhjbcaa
/- THE CELL 'sum', in the pinned program and in every row, IS THE sha256 OF THE DUMP (.gsa) THAT YtfebmgaamhjbcaaProg.lean LOADS. Nothing in Lean hashes anything: it is a label: what it is worth is what the hold of that sum in a sandbox is worth. -/
noncomputable def Try.pinned : Pinned := { name := "ytfebmgaamhjbcaa", sum := "2e3c6eb2ced50b8e09f85d1c175b3d97a636a89923cece9b6782b25939f480df", checked := Try.checked }
namespace Rows
def none {H : Type} : Left H := { results := [], args := [] }

/-- 'laws.FnExactPitchLength': WHATEVER THE INPUT: true; the input reads as it did. -/
def fnExactPitchLengthSpec : ChangeSpec := { name := "fnExactPitchLength", fn := fun _ => fun
  | [d] => { results := [.lit (.bool true)], args := [d] }
  | _ => none }
def fnExactPitchLengthRow : OpenClaim := { program := "ytfebmgaamhjbcaa", sum := "2e3c6eb2ced50b8e09f85d1c175b3d97a636a89923cece9b6782b25939f480df", func := "loop.example/homeconsole/laws.FnExactPitchLength", spec := "fnExactPitchLength", apart := false }
def FnExactPitchLengthSaid : Prop := fnExactPitchLengthRow.holds Try.pinned (OpenSpec.ofChange fnExactPitchLengthSpec)

/-- ITS FALSE NEIGHBOUR: 'it returns false'. Refute it at one input. -/
def fnExactPitchLengthWrong : ChangeSpec := { name := "fnExactPitchLength", fn := fun _ => fun
  | [d] => { results := [.lit (.bool false)], args := [d] }
  | _ => none }
def FnExactPitchLengthWrongFalsely : Prop := fnExactPitchLengthRow.holds Try.pinned (OpenSpec.ofChange fnExactPitchLengthWrong)

/-- 'laws.FnExactBoxValid': WHATEVER THE INPUT: true; the input reads as it did. -/
def fnExactBoxValidSpec : ChangeSpec := { name := "fnExactBoxValid", fn := fun _ => fun
  | [d] => { results := [.lit (.bool true)], args := [d] }
  | _ => none }
def fnExactBoxValidRow : OpenClaim := { program := "ytfebmgaamhjbcaa", sum := "2e3c6eb2ced50b8e09f85d1c175b3d97a636a89923cece9b6782b25939f480df", func := "loop.example/homeconsole/laws.FnExactBoxValid", spec := "fnExactBoxValid", apart := false }
def FnExactBoxValidSaid : Prop := fnExactBoxValidRow.holds Try.pinned (OpenSpec.ofChange fnExactBoxValidSpec)

/-- ITS FALSE NEIGHBOUR: 'it returns false'. Refute it at one input. -/
def fnExactBoxValidWrong : ChangeSpec := { name := "fnExactBoxValid", fn := fun _ => fun
  | [d] => { results := [.lit (.bool false)], args := [d] }
  | _ => none }
def FnExactBoxValidWrongFalsely : Prop := fnExactBoxValidRow.holds Try.pinned (OpenSpec.ofChange fnExactBoxValidWrong)

/-- 'laws.FnExactBoxesTouch': WHATEVER THE INPUT: true; the input reads as it did. -/
def fnExactBoxesTouchSpec : ChangeSpec := { name := "fnExactBoxesTouch", fn := fun _ => fun
  | [d1, d2] => { results := [.lit (.bool true)], args := [d1, d2] }
  | _ => none }
def fnExactBoxesTouchRow : OpenClaim := { program := "ytfebmgaamhjbcaa", sum := "2e3c6eb2ced50b8e09f85d1c175b3d97a636a89923cece9b6782b25939f480df", func := "loop.example/homeconsole/laws.FnExactBoxesTouch", spec := "fnExactBoxesTouch", apart := false }
def FnExactBoxesTouchSaid : Prop := fnExactBoxesTouchRow.holds Try.pinned (OpenSpec.ofChange fnExactBoxesTouchSpec)

/-- ITS FALSE NEIGHBOUR: 'it returns false'. Refute it at one input. -/
def fnExactBoxesTouchWrong : ChangeSpec := { name := "fnExactBoxesTouch", fn := fun _ => fun
  | [d1, d2] => { results := [.lit (.bool false)], args := [d1, d2] }
  | _ => none }
def FnExactBoxesTouchWrongFalsely : Prop := fnExactBoxesTouchRow.holds Try.pinned (OpenSpec.ofChange fnExactBoxesTouchWrong)

/-- 'laws.FnExactCheatFrom': WHATEVER THE INPUT: true; the input reads as it did. -/
def fnExactCheatFromSpec : ChangeSpec := { name := "fnExactCheatFrom", fn := fun _ => fun
  | [d] => { results := [.lit (.bool true)], args := [d] }
  | _ => none }
def fnExactCheatFromRow : OpenClaim := { program := "ytfebmgaamhjbcaa", sum := "2e3c6eb2ced50b8e09f85d1c175b3d97a636a89923cece9b6782b25939f480df", func := "loop.example/homeconsole/laws.FnExactCheatFrom", spec := "fnExactCheatFrom", apart := false }
def FnExactCheatFromSaid : Prop := fnExactCheatFromRow.holds Try.pinned (OpenSpec.ofChange fnExactCheatFromSpec)

/-- ITS FALSE NEIGHBOUR: 'it returns false'. Refute it at one input. -/
def fnExactCheatFromWrong : ChangeSpec := { name := "fnExactCheatFrom", fn := fun _ => fun
  | [d] => { results := [.lit (.bool false)], args := [d] }
  | _ => none }
def FnExactCheatFromWrongFalsely : Prop := fnExactCheatFromRow.holds Try.pinned (OpenSpec.ofChange fnExactCheatFromWrong)

/-- 'laws.FnExactCheatNumber': WHATEVER THE INPUT: true; the input reads as it did. -/
def fnExactCheatNumberSpec : ChangeSpec := { name := "fnExactCheatNumber", fn := fun _ => fun
  | [d] => { results := [.lit (.bool true)], args := [d] }
  | _ => none }
def fnExactCheatNumberRow : OpenClaim := { program := "ytfebmgaamhjbcaa", sum := "2e3c6eb2ced50b8e09f85d1c175b3d97a636a89923cece9b6782b25939f480df", func := "loop.example/homeconsole/laws.FnExactCheatNumber", spec := "fnExactCheatNumber", apart := false }
def FnExactCheatNumberSaid : Prop := fnExactCheatNumberRow.holds Try.pinned (OpenSpec.ofChange fnExactCheatNumberSpec)

/-- ITS FALSE NEIGHBOUR: 'it returns false'. Refute it at one input. -/
def fnExactCheatNumberWrong : ChangeSpec := { name := "fnExactCheatNumber", fn := fun _ => fun
  | [d] => { results := [.lit (.bool false)], args := [d] }
  | _ => none }
def FnExactCheatNumberWrongFalsely : Prop := fnExactCheatNumberRow.holds Try.pinned (OpenSpec.ofChange fnExactCheatNumberWrong)

/-- 'laws.FnPitchLength': WHATEVER THE INPUT: true; the input reads as it did. -/
def fnPitchLengthSpec : ChangeSpec := { name := "fnPitchLength", fn := fun _ => fun
  | [d] => { results := [.lit (.bool true)], args := [d] }
  | _ => none }
def fnPitchLengthRow : OpenClaim := { program := "ytfebmgaamhjbcaa", sum := "2e3c6eb2ced50b8e09f85d1c175b3d97a636a89923cece9b6782b25939f480df", func := "loop.example/homeconsole/laws.FnPitchLength", spec := "fnPitchLength", apart := false }
def FnPitchLengthSaid : Prop := fnPitchLengthRow.holds Try.pinned (OpenSpec.ofChange fnPitchLengthSpec)

/-- ITS FALSE NEIGHBOUR: 'it returns false'. Refute it at one input. -/
def fnPitchLengthWrong : ChangeSpec := { name := "fnPitchLength", fn := fun _ => fun
  | [d] => { results := [.lit (.bool false)], args := [d] }
  | _ => none }
def FnPitchLengthWrongFalsely : Prop := fnPitchLengthRow.holds Try.pinned (OpenSpec.ofChange fnPitchLengthWrong)

/-- 'laws.FnBoxValid': WHATEVER THE INPUT: true; the input reads as it did. -/
def fnBoxValidSpec : ChangeSpec := { name := "fnBoxValid", fn := fun _ => fun
  | [d] => { results := [.lit (.bool true)], args := [d] }
  | _ => none }
def fnBoxValidRow : OpenClaim := { program := "ytfebmgaamhjbcaa", sum := "2e3c6eb2ced50b8e09f85d1c175b3d97a636a89923cece9b6782b25939f480df", func := "loop.example/homeconsole/laws.FnBoxValid", spec := "fnBoxValid", apart := false }
def FnBoxValidSaid : Prop := fnBoxValidRow.holds Try.pinned (OpenSpec.ofChange fnBoxValidSpec)

/-- ITS FALSE NEIGHBOUR: 'it returns false'. Refute it at one input. -/
def fnBoxValidWrong : ChangeSpec := { name := "fnBoxValid", fn := fun _ => fun
  | [d] => { results := [.lit (.bool false)], args := [d] }
  | _ => none }
def FnBoxValidWrongFalsely : Prop := fnBoxValidRow.holds Try.pinned (OpenSpec.ofChange fnBoxValidWrong)

/-- 'laws.FnExactSongValid': WHATEVER THE INPUT: true; the input reads as it did. -/
def fnExactSongValidSpec : ChangeSpec := { name := "fnExactSongValid", fn := fun _ => fun
  | [d] => { results := [.lit (.bool true)], args := [d] }
  | _ => none }
def fnExactSongValidRow : OpenClaim := { program := "ytfebmgaamhjbcaa", sum := "2e3c6eb2ced50b8e09f85d1c175b3d97a636a89923cece9b6782b25939f480df", func := "loop.example/homeconsole/laws.FnExactSongValid", spec := "fnExactSongValid", apart := false }
def FnExactSongValidSaid : Prop := fnExactSongValidRow.holds Try.pinned (OpenSpec.ofChange fnExactSongValidSpec)

/-- ITS FALSE NEIGHBOUR: 'it returns false'. Refute it at one input. -/
def fnExactSongValidWrong : ChangeSpec := { name := "fnExactSongValid", fn := fun _ => fun
  | [d] => { results := [.lit (.bool false)], args := [d] }
  | _ => none }
def FnExactSongValidWrongFalsely : Prop := fnExactSongValidRow.holds Try.pinned (OpenSpec.ofChange fnExactSongValidWrong)

/-- 'laws.FnExactCheatsValid': WHATEVER THE INPUT: true; the input reads as it did. -/
def fnExactCheatsValidSpec : ChangeSpec := { name := "fnExactCheatsValid", fn := fun _ => fun
  | [d] => { results := [.lit (.bool true)], args := [d] }
  | _ => none }
def fnExactCheatsValidRow : OpenClaim := { program := "ytfebmgaamhjbcaa", sum := "2e3c6eb2ced50b8e09f85d1c175b3d97a636a89923cece9b6782b25939f480df", func := "loop.example/homeconsole/laws.FnExactCheatsValid", spec := "fnExactCheatsValid", apart := false }
def FnExactCheatsValidSaid : Prop := fnExactCheatsValidRow.holds Try.pinned (OpenSpec.ofChange fnExactCheatsValidSpec)

/-- ITS FALSE NEIGHBOUR: 'it returns false'. Refute it at one input. -/
def fnExactCheatsValidWrong : ChangeSpec := { name := "fnExactCheatsValid", fn := fun _ => fun
  | [d] => { results := [.lit (.bool false)], args := [d] }
  | _ => none }
def FnExactCheatsValidWrongFalsely : Prop := fnExactCheatsValidRow.holds Try.pinned (OpenSpec.ofChange fnExactCheatsValidWrong)

/-- 'laws.FnBoxesTouch': WHATEVER THE INPUT: true; the input reads as it did. -/
def fnBoxesTouchSpec : ChangeSpec := { name := "fnBoxesTouch", fn := fun _ => fun
  | [d] => { results := [.lit (.bool true)], args := [d] }
  | _ => none }
def fnBoxesTouchRow : OpenClaim := { program := "ytfebmgaamhjbcaa", sum := "2e3c6eb2ced50b8e09f85d1c175b3d97a636a89923cece9b6782b25939f480df", func := "loop.example/homeconsole/laws.FnBoxesTouch", spec := "fnBoxesTouch", apart := false }
def FnBoxesTouchSaid : Prop := fnBoxesTouchRow.holds Try.pinned (OpenSpec.ofChange fnBoxesTouchSpec)

/-- ITS FALSE NEIGHBOUR: 'it returns false'. Refute it at one input. -/
def fnBoxesTouchWrong : ChangeSpec := { name := "fnBoxesTouch", fn := fun _ => fun
  | [d] => { results := [.lit (.bool false)], args := [d] }
  | _ => none }
def FnBoxesTouchWrongFalsely : Prop := fnBoxesTouchRow.holds Try.pinned (OpenSpec.ofChange fnBoxesTouchWrong)

/-- 'laws.FnSongValid': WHATEVER THE INPUT: true; the input reads as it did. -/
def fnSongValidSpec : ChangeSpec := { name := "fnSongValid", fn := fun _ => fun
  | [d] => { results := [.lit (.bool true)], args := [d] }
  | _ => none }
def fnSongValidRow : OpenClaim := { program := "ytfebmgaamhjbcaa", sum := "2e3c6eb2ced50b8e09f85d1c175b3d97a636a89923cece9b6782b25939f480df", func := "loop.example/homeconsole/laws.FnSongValid", spec := "fnSongValid", apart := false }
def FnSongValidSaid : Prop := fnSongValidRow.holds Try.pinned (OpenSpec.ofChange fnSongValidSpec)

/-- ITS FALSE NEIGHBOUR: 'it returns false'. Refute it at one input. -/
def fnSongValidWrong : ChangeSpec := { name := "fnSongValid", fn := fun _ => fun
  | [d] => { results := [.lit (.bool false)], args := [d] }
  | _ => none }
def FnSongValidWrongFalsely : Prop := fnSongValidRow.holds Try.pinned (OpenSpec.ofChange fnSongValidWrong)

/-- 'laws.FnExactSongTicks': WHATEVER THE INPUT: true; the input reads as it did. -/
def fnExactSongTicksSpec : ChangeSpec := { name := "fnExactSongTicks", fn := fun _ => fun
  | [d] => { results := [.lit (.bool true)], args := [d] }
  | _ => none }
def fnExactSongTicksRow : OpenClaim := { program := "ytfebmgaamhjbcaa", sum := "2e3c6eb2ced50b8e09f85d1c175b3d97a636a89923cece9b6782b25939f480df", func := "loop.example/homeconsole/laws.FnExactSongTicks", spec := "fnExactSongTicks", apart := false }
def FnExactSongTicksSaid : Prop := fnExactSongTicksRow.holds Try.pinned (OpenSpec.ofChange fnExactSongTicksSpec)

/-- ITS FALSE NEIGHBOUR: 'it returns false'. Refute it at one input. -/
def fnExactSongTicksWrong : ChangeSpec := { name := "fnExactSongTicks", fn := fun _ => fun
  | [d] => { results := [.lit (.bool false)], args := [d] }
  | _ => none }
def FnExactSongTicksWrongFalsely : Prop := fnExactSongTicksRow.holds Try.pinned (OpenSpec.ofChange fnExactSongTicksWrong)

/- THE SECOND FORM. 'bulk': how many values and letters a reading holds, each counted each time it is reached (what is shared counts as often as it is met; a slice's spare places count too). A statement '..UptoSaid' is the law's where the arguments, and the package variables that the reading takes, are together of bulk at most 1048576: NARROWER than '..Said'. Prove '..Said' where nothing that the law and all that it calls make is longer than what came in: it says more and counts as full. Else prove '..UptoSaid'. A law counts once. -/
mutual
def uptoBulk {H : Type} : DataW H → Nat
  | .lit (.string bytes) => bytes.length + 1
  | .lit _ => 1
  | .nil => 1
  | .ptr d => uptoBulk d + 1
  | .slice elems spare => uptoBulkAll elems + uptoBulkAll spare + 1
  | .agg parts => uptoBulkAll parts + 1
  | .iface _ d => uptoBulk d + 1
  | .map entries => uptoBulkEntries entries + 1
  | .held _ => 1
def uptoBulkAll {H : Type} : List (DataW H) → Nat
  | [] => 0
  | d :: r => uptoBulk d + uptoBulkAll r
def uptoBulkEntries {H : Type} : List (Lit × DataW H) → Nat
  | [] => 0
  | x :: r => uptoBulkEntry x + uptoBulkEntries r
def uptoBulkEntry {H : Type} : Lit × DataW H → Nat
  | (.string bytes, d) => bytes.length + uptoBulk d + 1
  | (_, d) => uptoBulk d + 1
 end
def uptoSmall : (H : Type) → List (DataW H) → Bool := fun _ ds => decide (uptoBulkAll ds ≤ 1048576)
def OpenSpec.upto (s : _root_.Go.ChangeSpec) : _root_.Go.OpenSpec := { _root_.Go.OpenSpec.ofChange s with cond := some uptoSmall }

/-- 'laws.FnExactPitchLength', WHERE WHAT IT READS IS OF BULK AT MOST 1048576: true; the input reads as it did. -/
def fnExactPitchLengthUptoRow : OpenClaim := { program := "ytfebmgaamhjbcaa", sum := "2e3c6eb2ced50b8e09f85d1c175b3d97a636a89923cece9b6782b25939f480df", func := "loop.example/homeconsole/laws.FnExactPitchLength", spec := "fnExactPitchLength", apart := false, narrowed := true }
def FnExactPitchLengthUptoSaid : Prop := fnExactPitchLengthUptoRow.holds Try.pinned (OpenSpec.upto fnExactPitchLengthSpec)

/-- 'laws.FnExactBoxValid', WHERE WHAT IT READS IS OF BULK AT MOST 1048576: true; the input reads as it did. -/
def fnExactBoxValidUptoRow : OpenClaim := { program := "ytfebmgaamhjbcaa", sum := "2e3c6eb2ced50b8e09f85d1c175b3d97a636a89923cece9b6782b25939f480df", func := "loop.example/homeconsole/laws.FnExactBoxValid", spec := "fnExactBoxValid", apart := false, narrowed := true }
def FnExactBoxValidUptoSaid : Prop := fnExactBoxValidUptoRow.holds Try.pinned (OpenSpec.upto fnExactBoxValidSpec)

/-- 'laws.FnExactBoxesTouch', WHERE WHAT IT READS IS OF BULK AT MOST 1048576: true; the input reads as it did. -/
def fnExactBoxesTouchUptoRow : OpenClaim := { program := "ytfebmgaamhjbcaa", sum := "2e3c6eb2ced50b8e09f85d1c175b3d97a636a89923cece9b6782b25939f480df", func := "loop.example/homeconsole/laws.FnExactBoxesTouch", spec := "fnExactBoxesTouch", apart := false, narrowed := true }
def FnExactBoxesTouchUptoSaid : Prop := fnExactBoxesTouchUptoRow.holds Try.pinned (OpenSpec.upto fnExactBoxesTouchSpec)

/-- 'laws.FnExactCheatFrom', WHERE WHAT IT READS IS OF BULK AT MOST 1048576: true; the input reads as it did. -/
def fnExactCheatFromUptoRow : OpenClaim := { program := "ytfebmgaamhjbcaa", sum := "2e3c6eb2ced50b8e09f85d1c175b3d97a636a89923cece9b6782b25939f480df", func := "loop.example/homeconsole/laws.FnExactCheatFrom", spec := "fnExactCheatFrom", apart := false, narrowed := true }
def FnExactCheatFromUptoSaid : Prop := fnExactCheatFromUptoRow.holds Try.pinned (OpenSpec.upto fnExactCheatFromSpec)

/-- 'laws.FnExactCheatNumber', WHERE WHAT IT READS IS OF BULK AT MOST 1048576: true; the input reads as it did. -/
def fnExactCheatNumberUptoRow : OpenClaim := { program := "ytfebmgaamhjbcaa", sum := "2e3c6eb2ced50b8e09f85d1c175b3d97a636a89923cece9b6782b25939f480df", func := "loop.example/homeconsole/laws.FnExactCheatNumber", spec := "fnExactCheatNumber", apart := false, narrowed := true }
def FnExactCheatNumberUptoSaid : Prop := fnExactCheatNumberUptoRow.holds Try.pinned (OpenSpec.upto fnExactCheatNumberSpec)

/-- 'laws.FnPitchLength', WHERE WHAT IT READS IS OF BULK AT MOST 1048576: true; the input reads as it did. -/
def fnPitchLengthUptoRow : OpenClaim := { program := "ytfebmgaamhjbcaa", sum := "2e3c6eb2ced50b8e09f85d1c175b3d97a636a89923cece9b6782b25939f480df", func := "loop.example/homeconsole/laws.FnPitchLength", spec := "fnPitchLength", apart := false, narrowed := true }
def FnPitchLengthUptoSaid : Prop := fnPitchLengthUptoRow.holds Try.pinned (OpenSpec.upto fnPitchLengthSpec)

/-- 'laws.FnBoxValid', WHERE WHAT IT READS IS OF BULK AT MOST 1048576: true; the input reads as it did. -/
def fnBoxValidUptoRow : OpenClaim := { program := "ytfebmgaamhjbcaa", sum := "2e3c6eb2ced50b8e09f85d1c175b3d97a636a89923cece9b6782b25939f480df", func := "loop.example/homeconsole/laws.FnBoxValid", spec := "fnBoxValid", apart := false, narrowed := true }
def FnBoxValidUptoSaid : Prop := fnBoxValidUptoRow.holds Try.pinned (OpenSpec.upto fnBoxValidSpec)

/-- 'laws.FnExactSongValid', WHERE WHAT IT READS IS OF BULK AT MOST 1048576: true; the input reads as it did. -/
def fnExactSongValidUptoRow : OpenClaim := { program := "ytfebmgaamhjbcaa", sum := "2e3c6eb2ced50b8e09f85d1c175b3d97a636a89923cece9b6782b25939f480df", func := "loop.example/homeconsole/laws.FnExactSongValid", spec := "fnExactSongValid", apart := false, narrowed := true }
def FnExactSongValidUptoSaid : Prop := fnExactSongValidUptoRow.holds Try.pinned (OpenSpec.upto fnExactSongValidSpec)

/-- 'laws.FnExactCheatsValid', WHERE WHAT IT READS IS OF BULK AT MOST 1048576: true; the input reads as it did. -/
def fnExactCheatsValidUptoRow : OpenClaim := { program := "ytfebmgaamhjbcaa", sum := "2e3c6eb2ced50b8e09f85d1c175b3d97a636a89923cece9b6782b25939f480df", func := "loop.example/homeconsole/laws.FnExactCheatsValid", spec := "fnExactCheatsValid", apart := false, narrowed := true }
def FnExactCheatsValidUptoSaid : Prop := fnExactCheatsValidUptoRow.holds Try.pinned (OpenSpec.upto fnExactCheatsValidSpec)

/-- 'laws.FnBoxesTouch', WHERE WHAT IT READS IS OF BULK AT MOST 1048576: true; the input reads as it did. -/
def fnBoxesTouchUptoRow : OpenClaim := { program := "ytfebmgaamhjbcaa", sum := "2e3c6eb2ced50b8e09f85d1c175b3d97a636a89923cece9b6782b25939f480df", func := "loop.example/homeconsole/laws.FnBoxesTouch", spec := "fnBoxesTouch", apart := false, narrowed := true }
def FnBoxesTouchUptoSaid : Prop := fnBoxesTouchUptoRow.holds Try.pinned (OpenSpec.upto fnBoxesTouchSpec)

/-- 'laws.FnSongValid', WHERE WHAT IT READS IS OF BULK AT MOST 1048576: true; the input reads as it did. -/
def fnSongValidUptoRow : OpenClaim := { program := "ytfebmgaamhjbcaa", sum := "2e3c6eb2ced50b8e09f85d1c175b3d97a636a89923cece9b6782b25939f480df", func := "loop.example/homeconsole/laws.FnSongValid", spec := "fnSongValid", apart := false, narrowed := true }
def FnSongValidUptoSaid : Prop := fnSongValidUptoRow.holds Try.pinned (OpenSpec.upto fnSongValidSpec)

/-- 'laws.FnExactSongTicks', WHERE WHAT IT READS IS OF BULK AT MOST 1048576: true; the input reads as it did. -/
def fnExactSongTicksUptoRow : OpenClaim := { program := "ytfebmgaamhjbcaa", sum := "2e3c6eb2ced50b8e09f85d1c175b3d97a636a89923cece9b6782b25939f480df", func := "loop.example/homeconsole/laws.FnExactSongTicks", spec := "fnExactSongTicks", apart := false, narrowed := true }
def FnExactSongTicksUptoSaid : Prop := fnExactSongTicksUptoRow.holds Try.pinned (OpenSpec.upto fnExactSongTicksSpec)

end Rows
end Go.Proofs.Ytfebmgaamhjbcaa
