/-
  No cell of these rows narrows 'for every input' (looked for: loops, veiled, ifaces, maps, wideKeys, modest, calm, conditions, laid).
  DERIVED. THE GIVEN ROWS OF THIS SEAT. 7 by the template 'for every input the law returns true; each argument reads behind the call as it read before'; 0 by the template 'total and deterministic' (their statements: YtnflmekjeehgaaaTotals.lean).
  GIVEN WITH THE SEED: the statements are not yours to turn. If you find one false, say at which input.
  Laid BY PROGRAM, IN A SANDBOX (cutbox-rows.mjs): the forced cells as the released guide's own fill.sh prints them over the translation 3adc13505b405be4… (all of the seat's roots in one cut). By AI agents, Wed Nov 11 2026. No macro, syntax, notation, axiom, sorry.
-/
import Derived.Test.YtnflmekjeehgaaaChecked
import GoSem.Claim
import GoSem.ClaimJoined
import GoSem.ClaimMapViews
import Derived.JoinedTies
import Derived.KernelRfl
namespace Go.Proofs.Ytnflmekjeehgaaa
/- THE CELL 'sum', in the pinned program and in every row, IS THE sha256 OF THE DUMP (.gsa) THAT YtnflmekjeehgaaaProg.lean LOADS. Nothing in Lean hashes anything: it is a label: what it is worth is what the hold of that sum in a sandbox is worth. -/
noncomputable def Try.pinned : Pinned := { name := "ytnflmekjeehgaaa", sum := "3adc13505b405be40916f6fc8013ec4a0866f5f32e08671c7c051cfe49859e76", checked := Try.checked }
namespace Rows
def none {H : Type} : Left H := { results := [], args := [] }

/-- 'laws.FnUnpackRuns': WHATEVER THE INPUT: true; the input reads as it did. -/
def fnUnpackRunsSpec : ChangeSpec := { name := "fnUnpackRuns", fn := fun _ => fun
  | [d] => { results := [.lit (.bool true)], args := [d] }
  | _ => none }
def fnUnpackRunsRow : OpenClaim := { program := "ytnflmekjeehgaaa", sum := "3adc13505b405be40916f6fc8013ec4a0866f5f32e08671c7c051cfe49859e76", func := "loop.example/homeconsole/laws.FnUnpackRuns", spec := "fnUnpackRuns", apart := false }
def FnUnpackRunsSaid : Prop := fnUnpackRunsRow.holds Try.pinned (OpenSpec.ofChange fnUnpackRunsSpec)

/-- ITS FALSE NEIGHBOUR: 'it returns false'. Refute it at one input. -/
def fnUnpackRunsWrong : ChangeSpec := { name := "fnUnpackRuns", fn := fun _ => fun
  | [d] => { results := [.lit (.bool false)], args := [d] }
  | _ => none }
def FnUnpackRunsWrongFalsely : Prop := fnUnpackRunsRow.holds Try.pinned (OpenSpec.ofChange fnUnpackRunsWrong)

/-- 'laws.FnExactNoteAt': WHATEVER THE INPUT: true; the input reads as it did. -/
def fnExactNoteAtSpec : ChangeSpec := { name := "fnExactNoteAt", fn := fun _ => fun
  | [d1, d2] => { results := [.lit (.bool true)], args := [d1, d2] }
  | _ => none }
def fnExactNoteAtRow : OpenClaim := { program := "ytnflmekjeehgaaa", sum := "3adc13505b405be40916f6fc8013ec4a0866f5f32e08671c7c051cfe49859e76", func := "loop.example/homeconsole/laws.FnExactNoteAt", spec := "fnExactNoteAt", unfollowed := true, recurses := true, apart := false }
def FnExactNoteAtSaid : Prop := fnExactNoteAtRow.holds Try.pinned (OpenSpec.ofChange fnExactNoteAtSpec)

/-- ITS FALSE NEIGHBOUR: 'it returns false'. Refute it at one input. -/
def fnExactNoteAtWrong : ChangeSpec := { name := "fnExactNoteAt", fn := fun _ => fun
  | [d1, d2] => { results := [.lit (.bool false)], args := [d1, d2] }
  | _ => none }
def FnExactNoteAtWrongFalsely : Prop := fnExactNoteAtRow.holds Try.pinned (OpenSpec.ofChange fnExactNoteAtWrong)

/-- 'laws.FnNoteAt': WHATEVER THE INPUT: true; the input reads as it did. -/
def fnNoteAtSpec : ChangeSpec := { name := "fnNoteAt", fn := fun _ => fun
  | [d] => { results := [.lit (.bool true)], args := [d] }
  | _ => none }
def fnNoteAtRow : OpenClaim := { program := "ytnflmekjeehgaaa", sum := "3adc13505b405be40916f6fc8013ec4a0866f5f32e08671c7c051cfe49859e76", func := "loop.example/homeconsole/laws.FnNoteAt", spec := "fnNoteAt", unfollowed := true, recurses := true, apart := false }
def FnNoteAtSaid : Prop := fnNoteAtRow.holds Try.pinned (OpenSpec.ofChange fnNoteAtSpec)

/-- ITS FALSE NEIGHBOUR: 'it returns false'. Refute it at one input. -/
def fnNoteAtWrong : ChangeSpec := { name := "fnNoteAt", fn := fun _ => fun
  | [d] => { results := [.lit (.bool false)], args := [d] }
  | _ => none }
def FnNoteAtWrongFalsely : Prop := fnNoteAtRow.holds Try.pinned (OpenSpec.ofChange fnNoteAtWrong)

/-- 'laws.FnExactShiftSong': WHATEVER THE INPUT: true; the input reads as it did. -/
def fnExactShiftSongSpec : ChangeSpec := { name := "fnExactShiftSong", fn := fun _ => fun
  | [d1, d2] => { results := [.lit (.bool true)], args := [d1, d2] }
  | _ => none }
def fnExactShiftSongRow : OpenClaim := { program := "ytnflmekjeehgaaa", sum := "3adc13505b405be40916f6fc8013ec4a0866f5f32e08671c7c051cfe49859e76", func := "loop.example/homeconsole/laws.FnExactShiftSong", spec := "fnExactShiftSong", apart := false }
def FnExactShiftSongSaid : Prop := fnExactShiftSongRow.holds Try.pinned (OpenSpec.ofChange fnExactShiftSongSpec)

/-- ITS FALSE NEIGHBOUR: 'it returns false'. Refute it at one input. -/
def fnExactShiftSongWrong : ChangeSpec := { name := "fnExactShiftSong", fn := fun _ => fun
  | [d1, d2] => { results := [.lit (.bool false)], args := [d1, d2] }
  | _ => none }
def FnExactShiftSongWrongFalsely : Prop := fnExactShiftSongRow.holds Try.pinned (OpenSpec.ofChange fnExactShiftSongWrong)

/-- 'laws.FnShiftSong': WHATEVER THE INPUT: true; the input reads as it did. -/
def fnShiftSongSpec : ChangeSpec := { name := "fnShiftSong", fn := fun _ => fun
  | [d] => { results := [.lit (.bool true)], args := [d] }
  | _ => none }
def fnShiftSongRow : OpenClaim := { program := "ytnflmekjeehgaaa", sum := "3adc13505b405be40916f6fc8013ec4a0866f5f32e08671c7c051cfe49859e76", func := "loop.example/homeconsole/laws.FnShiftSong", spec := "fnShiftSong", apart := false }
def FnShiftSongSaid : Prop := fnShiftSongRow.holds Try.pinned (OpenSpec.ofChange fnShiftSongSpec)

/-- ITS FALSE NEIGHBOUR: 'it returns false'. Refute it at one input. -/
def fnShiftSongWrong : ChangeSpec := { name := "fnShiftSong", fn := fun _ => fun
  | [d] => { results := [.lit (.bool false)], args := [d] }
  | _ => none }
def FnShiftSongWrongFalsely : Prop := fnShiftSongRow.holds Try.pinned (OpenSpec.ofChange fnShiftSongWrong)

/-- 'laws.FnSongOctave': WHATEVER THE INPUT: true; the input reads as it did. -/
def fnSongOctaveSpec : ChangeSpec := { name := "fnSongOctave", fn := fun _ => fun
  | [d] => { results := [.lit (.bool true)], args := [d] }
  | _ => none }
def fnSongOctaveRow : OpenClaim := { program := "ytnflmekjeehgaaa", sum := "3adc13505b405be40916f6fc8013ec4a0866f5f32e08671c7c051cfe49859e76", func := "loop.example/homeconsole/laws.FnSongOctave", spec := "fnSongOctave", apart := false }
def FnSongOctaveSaid : Prop := fnSongOctaveRow.holds Try.pinned (OpenSpec.ofChange fnSongOctaveSpec)

/-- ITS FALSE NEIGHBOUR: 'it returns false'. Refute it at one input. -/
def fnSongOctaveWrong : ChangeSpec := { name := "fnSongOctave", fn := fun _ => fun
  | [d] => { results := [.lit (.bool false)], args := [d] }
  | _ => none }
def FnSongOctaveWrongFalsely : Prop := fnSongOctaveRow.holds Try.pinned (OpenSpec.ofChange fnSongOctaveWrong)

/-- 'laws.FnMoveBox': WHATEVER THE INPUT: true; the input reads as it did. -/
def fnMoveBoxSpec : ChangeSpec := { name := "fnMoveBox", fn := fun _ => fun
  | [d] => { results := [.lit (.bool true)], args := [d] }
  | _ => none }
def fnMoveBoxRow : OpenClaim := { program := "ytnflmekjeehgaaa", sum := "3adc13505b405be40916f6fc8013ec4a0866f5f32e08671c7c051cfe49859e76", func := "loop.example/homeconsole/laws.FnMoveBox", spec := "fnMoveBox", apart := false }
def FnMoveBoxSaid : Prop := fnMoveBoxRow.holds Try.pinned (OpenSpec.ofChange fnMoveBoxSpec)

/-- ITS FALSE NEIGHBOUR: 'it returns false'. Refute it at one input. -/
def fnMoveBoxWrong : ChangeSpec := { name := "fnMoveBox", fn := fun _ => fun
  | [d] => { results := [.lit (.bool false)], args := [d] }
  | _ => none }
def FnMoveBoxWrongFalsely : Prop := fnMoveBoxRow.holds Try.pinned (OpenSpec.ofChange fnMoveBoxWrong)

/- THE SECOND FORM. 'bulk': how many values and letters a reading holds, each counted each time it is reached (what is shared counts as often as it is met; a slice's spare places count too). A statement '..UptoSaid' is the law's where the arguments, and the package variables that the reading takes, are together of bulk at most 1048576: NARROWER than '..Said'. Prove '..Said' where nothing that the law and all that it calls make is longer than what came in: it says more and counts as full. Else prove '..UptoSaid'. A law counts once. -/
mutual
def uptoBulk {H : Type} : DataW H → Nat
  | .lit (.string bytes) => bytes.length + 1
  | .lit _ => 1
  | .nil => 1
  | .ptr d => uptoBulk d + 1
  | .slice elems spare => uptoBulkAll elems + uptoBulkAll spare + 1
  | .agg parts => uptoBulkAll parts + 1
  | .iface _ d => uptoBulk d + 1
  | .map entries => uptoBulkEntries entries + 1
  | .held _ => 1
def uptoBulkAll {H : Type} : List (DataW H) → Nat
  | [] => 0
  | d :: r => uptoBulk d + uptoBulkAll r
def uptoBulkEntries {H : Type} : List (Lit × DataW H) → Nat
  | [] => 0
  | x :: r => uptoBulkEntry x + uptoBulkEntries r
def uptoBulkEntry {H : Type} : Lit × DataW H → Nat
  | (.string bytes, d) => bytes.length + uptoBulk d + 1
  | (_, d) => uptoBulk d + 1
 end
def uptoSmall : (H : Type) → List (DataW H) → Bool := fun _ ds => decide (uptoBulkAll ds ≤ 1048576)
def OpenSpec.upto (s : _root_.Go.ChangeSpec) : _root_.Go.OpenSpec := { _root_.Go.OpenSpec.ofChange s with cond := some uptoSmall }

/-- 'laws.FnUnpackRuns', WHERE WHAT IT READS IS OF BULK AT MOST 1048576: true; the input reads as it did. -/
def fnUnpackRunsUptoRow : OpenClaim := { program := "ytnflmekjeehgaaa", sum := "3adc13505b405be40916f6fc8013ec4a0866f5f32e08671c7c051cfe49859e76", func := "loop.example/homeconsole/laws.FnUnpackRuns", spec := "fnUnpackRuns", apart := false, narrowed := true }
def FnUnpackRunsUptoSaid : Prop := fnUnpackRunsUptoRow.holds Try.pinned (OpenSpec.upto fnUnpackRunsSpec)

/-- 'laws.FnExactNoteAt', WHERE WHAT IT READS IS OF BULK AT MOST 1048576: true; the input reads as it did. -/
def fnExactNoteAtUptoRow : OpenClaim := { program := "ytnflmekjeehgaaa", sum := "3adc13505b405be40916f6fc8013ec4a0866f5f32e08671c7c051cfe49859e76", func := "loop.example/homeconsole/laws.FnExactNoteAt", spec := "fnExactNoteAt", unfollowed := true, recurses := true, apart := false, narrowed := true }
def FnExactNoteAtUptoSaid : Prop := fnExactNoteAtUptoRow.holds Try.pinned (OpenSpec.upto fnExactNoteAtSpec)

/-- 'laws.FnNoteAt', WHERE WHAT IT READS IS OF BULK AT MOST 1048576: true; the input reads as it did. -/
def fnNoteAtUptoRow : OpenClaim := { program := "ytnflmekjeehgaaa", sum := "3adc13505b405be40916f6fc8013ec4a0866f5f32e08671c7c051cfe49859e76", func := "loop.example/homeconsole/laws.FnNoteAt", spec := "fnNoteAt", unfollowed := true, recurses := true, apart := false, narrowed := true }
def FnNoteAtUptoSaid : Prop := fnNoteAtUptoRow.holds Try.pinned (OpenSpec.upto fnNoteAtSpec)

/-- 'laws.FnExactShiftSong', WHERE WHAT IT READS IS OF BULK AT MOST 1048576: true; the input reads as it did. -/
def fnExactShiftSongUptoRow : OpenClaim := { program := "ytnflmekjeehgaaa", sum := "3adc13505b405be40916f6fc8013ec4a0866f5f32e08671c7c051cfe49859e76", func := "loop.example/homeconsole/laws.FnExactShiftSong", spec := "fnExactShiftSong", apart := false, narrowed := true }
def FnExactShiftSongUptoSaid : Prop := fnExactShiftSongUptoRow.holds Try.pinned (OpenSpec.upto fnExactShiftSongSpec)

/-- 'laws.FnShiftSong', WHERE WHAT IT READS IS OF BULK AT MOST 1048576: true; the input reads as it did. -/
def fnShiftSongUptoRow : OpenClaim := { program := "ytnflmekjeehgaaa", sum := "3adc13505b405be40916f6fc8013ec4a0866f5f32e08671c7c051cfe49859e76", func := "loop.example/homeconsole/laws.FnShiftSong", spec := "fnShiftSong", apart := false, narrowed := true }
def FnShiftSongUptoSaid : Prop := fnShiftSongUptoRow.holds Try.pinned (OpenSpec.upto fnShiftSongSpec)

/-- 'laws.FnSongOctave', WHERE WHAT IT READS IS OF BULK AT MOST 1048576: true; the input reads as it did. -/
def fnSongOctaveUptoRow : OpenClaim := { program := "ytnflmekjeehgaaa", sum := "3adc13505b405be40916f6fc8013ec4a0866f5f32e08671c7c051cfe49859e76", func := "loop.example/homeconsole/laws.FnSongOctave", spec := "fnSongOctave", apart := false, narrowed := true }
def FnSongOctaveUptoSaid : Prop := fnSongOctaveUptoRow.holds Try.pinned (OpenSpec.upto fnSongOctaveSpec)

/-- 'laws.FnMoveBox', WHERE WHAT IT READS IS OF BULK AT MOST 1048576: true; the input reads as it did. -/
def fnMoveBoxUptoRow : OpenClaim := { program := "ytnflmekjeehgaaa", sum := "3adc13505b405be40916f6fc8013ec4a0866f5f32e08671c7c051cfe49859e76", func := "loop.example/homeconsole/laws.FnMoveBox", spec := "fnMoveBox", apart := false, narrowed := true }
def FnMoveBoxUptoSaid : Prop := fnMoveBoxUptoRow.holds Try.pinned (OpenSpec.upto fnMoveBoxSpec)

end Rows
end Go.Proofs.Ytnflmekjeehgaaa
