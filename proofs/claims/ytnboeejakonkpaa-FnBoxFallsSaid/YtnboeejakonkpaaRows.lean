/-
  No cell of these rows narrows 'for every input' (looked for: loops, veiled, ifaces, maps, wideKeys, modest, calm, conditions, laid).
  DERIVED. THE GIVEN ROWS OF THIS SEAT. 11 by the template 'for every input the law returns true; each argument reads behind the call as it read before'; 0 by the template 'total and deterministic' (their statements: YtnboeejakonkpaaTotals.lean).
  GIVEN WITH THE SEED: the statements are not yours to turn. If you find one false, say at which input.
  Laid BY PROGRAM, IN A SANDBOX (cutbox-rows.mjs): the forced cells as the released guide's own fill.sh prints them over the translation e0e88321956209c1… (all of the seat's roots in one cut). By AI agents, Wed Nov 11 2026. No macro, syntax, notation, axiom, sorry.
-/
import Derived.Test.YtnboeejakonkpaaChecked
import GoSem.Claim
import GoSem.ClaimJoined
import GoSem.ClaimMapViews
import Derived.JoinedTies
import Derived.KernelRfl
namespace Go.Proofs.Ytnboeejakonkpaa
/- THE CELL 'sum', in the pinned program and in every row, IS THE sha256 OF THE DUMP (.gsa) THAT YtnboeejakonkpaaProg.lean LOADS. Nothing in Lean hashes anything: it is a label: what it is worth is what the hold of that sum in a sandbox is worth. -/
noncomputable def Try.pinned : Pinned := { name := "ytnboeejakonkpaa", sum := "e0e88321956209c10e310fe963de553b79130f79f5de3206af40781482deb172", checked := Try.checked }
namespace Rows
def none {H : Type} : Left H := { results := [], args := [] }

/-- 'laws.FnExactBoxBlocked': WHATEVER THE INPUT: true; the input reads as it did. -/
def fnExactBoxBlockedSpec : ChangeSpec := { name := "fnExactBoxBlocked", fn := fun _ => fun
  | [d1, d2] => { results := [.lit (.bool true)], args := [d1, d2] }
  | _ => none }
def fnExactBoxBlockedRow : OpenClaim := { program := "ytnboeejakonkpaa", sum := "e0e88321956209c10e310fe963de553b79130f79f5de3206af40781482deb172", func := "loop.example/homeconsole/laws.FnExactBoxBlocked", spec := "fnExactBoxBlocked", apart := false }
def FnExactBoxBlockedSaid : Prop := fnExactBoxBlockedRow.holds Try.pinned (OpenSpec.ofChange fnExactBoxBlockedSpec)

/-- ITS FALSE NEIGHBOUR: 'it returns false'. Refute it at one input. -/
def fnExactBoxBlockedWrong : ChangeSpec := { name := "fnExactBoxBlocked", fn := fun _ => fun
  | [d1, d2] => { results := [.lit (.bool false)], args := [d1, d2] }
  | _ => none }
def FnExactBoxBlockedWrongFalsely : Prop := fnExactBoxBlockedRow.holds Try.pinned (OpenSpec.ofChange fnExactBoxBlockedWrong)

/-- 'laws.FnExactStandsOn': WHATEVER THE INPUT: true; the input reads as it did. -/
def fnExactStandsOnSpec : ChangeSpec := { name := "fnExactStandsOn", fn := fun _ => fun
  | [d1, d2] => { results := [.lit (.bool true)], args := [d1, d2] }
  | _ => none }
def fnExactStandsOnRow : OpenClaim := { program := "ytnboeejakonkpaa", sum := "e0e88321956209c10e310fe963de553b79130f79f5de3206af40781482deb172", func := "loop.example/homeconsole/laws.FnExactStandsOn", spec := "fnExactStandsOn", apart := false }
def FnExactStandsOnSaid : Prop := fnExactStandsOnRow.holds Try.pinned (OpenSpec.ofChange fnExactStandsOnSpec)

/-- ITS FALSE NEIGHBOUR: 'it returns false'. Refute it at one input. -/
def fnExactStandsOnWrong : ChangeSpec := { name := "fnExactStandsOn", fn := fun _ => fun
  | [d1, d2] => { results := [.lit (.bool false)], args := [d1, d2] }
  | _ => none }
def FnExactStandsOnWrongFalsely : Prop := fnExactStandsOnRow.holds Try.pinned (OpenSpec.ofChange fnExactStandsOnWrong)

/-- 'laws.FnBoxBlocked': WHATEVER THE INPUT: true; the input reads as it did. -/
def fnBoxBlockedSpec : ChangeSpec := { name := "fnBoxBlocked", fn := fun _ => fun
  | [d] => { results := [.lit (.bool true)], args := [d] }
  | _ => none }
def fnBoxBlockedRow : OpenClaim := { program := "ytnboeejakonkpaa", sum := "e0e88321956209c10e310fe963de553b79130f79f5de3206af40781482deb172", func := "loop.example/homeconsole/laws.FnBoxBlocked", spec := "fnBoxBlocked", apart := false }
def FnBoxBlockedSaid : Prop := fnBoxBlockedRow.holds Try.pinned (OpenSpec.ofChange fnBoxBlockedSpec)

/-- ITS FALSE NEIGHBOUR: 'it returns false'. Refute it at one input. -/
def fnBoxBlockedWrong : ChangeSpec := { name := "fnBoxBlocked", fn := fun _ => fun
  | [d] => { results := [.lit (.bool false)], args := [d] }
  | _ => none }
def FnBoxBlockedWrongFalsely : Prop := fnBoxBlockedRow.holds Try.pinned (OpenSpec.ofChange fnBoxBlockedWrong)

/-- 'laws.FnExactMoveBox': WHATEVER THE INPUT: true; the input reads as it did. -/
def fnExactMoveBoxSpec : ChangeSpec := { name := "fnExactMoveBox", fn := fun _ => fun
  | [d1, d2, d3, d4] => { results := [.lit (.bool true)], args := [d1, d2, d3, d4] }
  | _ => none }
def fnExactMoveBoxRow : OpenClaim := { program := "ytnboeejakonkpaa", sum := "e0e88321956209c10e310fe963de553b79130f79f5de3206af40781482deb172", func := "loop.example/homeconsole/laws.FnExactMoveBox", spec := "fnExactMoveBox", apart := false }
def FnExactMoveBoxSaid : Prop := fnExactMoveBoxRow.holds Try.pinned (OpenSpec.ofChange fnExactMoveBoxSpec)

/-- ITS FALSE NEIGHBOUR: 'it returns false'. Refute it at one input. -/
def fnExactMoveBoxWrong : ChangeSpec := { name := "fnExactMoveBox", fn := fun _ => fun
  | [d1, d2, d3, d4] => { results := [.lit (.bool false)], args := [d1, d2, d3, d4] }
  | _ => none }
def FnExactMoveBoxWrongFalsely : Prop := fnExactMoveBoxRow.holds Try.pinned (OpenSpec.ofChange fnExactMoveBoxWrong)

/-- 'laws.FnBoxHalves': WHATEVER THE INPUT: true; the input reads as it did. -/
def fnBoxHalvesSpec : ChangeSpec := { name := "fnBoxHalves", fn := fun _ => fun
  | [d] => { results := [.lit (.bool true)], args := [d] }
  | _ => none }
def fnBoxHalvesRow : OpenClaim := { program := "ytnboeejakonkpaa", sum := "e0e88321956209c10e310fe963de553b79130f79f5de3206af40781482deb172", func := "loop.example/homeconsole/laws.FnBoxHalves", spec := "fnBoxHalves", apart := false }
def FnBoxHalvesSaid : Prop := fnBoxHalvesRow.holds Try.pinned (OpenSpec.ofChange fnBoxHalvesSpec)

/-- ITS FALSE NEIGHBOUR: 'it returns false'. Refute it at one input. -/
def fnBoxHalvesWrong : ChangeSpec := { name := "fnBoxHalves", fn := fun _ => fun
  | [d] => { results := [.lit (.bool false)], args := [d] }
  | _ => none }
def FnBoxHalvesWrongFalsely : Prop := fnBoxHalvesRow.holds Try.pinned (OpenSpec.ofChange fnBoxHalvesWrong)

/-- 'laws.FnMoveBox': WHATEVER THE INPUT: true; the input reads as it did. -/
def fnMoveBoxSpec : ChangeSpec := { name := "fnMoveBox", fn := fun _ => fun
  | [d] => { results := [.lit (.bool true)], args := [d] }
  | _ => none }
def fnMoveBoxRow : OpenClaim := { program := "ytnboeejakonkpaa", sum := "e0e88321956209c10e310fe963de553b79130f79f5de3206af40781482deb172", func := "loop.example/homeconsole/laws.FnMoveBox", spec := "fnMoveBox", apart := false }
def FnMoveBoxSaid : Prop := fnMoveBoxRow.holds Try.pinned (OpenSpec.ofChange fnMoveBoxSpec)

/-- ITS FALSE NEIGHBOUR: 'it returns false'. Refute it at one input. -/
def fnMoveBoxWrong : ChangeSpec := { name := "fnMoveBox", fn := fun _ => fun
  | [d] => { results := [.lit (.bool false)], args := [d] }
  | _ => none }
def FnMoveBoxWrongFalsely : Prop := fnMoveBoxRow.holds Try.pinned (OpenSpec.ofChange fnMoveBoxWrong)

/-- 'laws.FnBoxFalls': WHATEVER THE INPUT: true; the input reads as it did. -/
def fnBoxFallsSpec : ChangeSpec := { name := "fnBoxFalls", fn := fun _ => fun
  | [d] => { results := [.lit (.bool true)], args := [d] }
  | _ => none }
def fnBoxFallsRow : OpenClaim := { program := "ytnboeejakonkpaa", sum := "e0e88321956209c10e310fe963de553b79130f79f5de3206af40781482deb172", func := "loop.example/homeconsole/laws.FnBoxFalls", spec := "fnBoxFalls", apart := false }
def FnBoxFallsSaid : Prop := fnBoxFallsRow.holds Try.pinned (OpenSpec.ofChange fnBoxFallsSpec)

/-- ITS FALSE NEIGHBOUR: 'it returns false'. Refute it at one input. -/
def fnBoxFallsWrong : ChangeSpec := { name := "fnBoxFalls", fn := fun _ => fun
  | [d] => { results := [.lit (.bool false)], args := [d] }
  | _ => none }
def FnBoxFallsWrongFalsely : Prop := fnBoxFallsRow.holds Try.pinned (OpenSpec.ofChange fnBoxFallsWrong)

/-- 'laws.FnStandsOn': WHATEVER THE INPUT: true; the input reads as it did. -/
def fnStandsOnSpec : ChangeSpec := { name := "fnStandsOn", fn := fun _ => fun
  | [d] => { results := [.lit (.bool true)], args := [d] }
  | _ => none }
def fnStandsOnRow : OpenClaim := { program := "ytnboeejakonkpaa", sum := "e0e88321956209c10e310fe963de553b79130f79f5de3206af40781482deb172", func := "loop.example/homeconsole/laws.FnStandsOn", spec := "fnStandsOn", apart := false }
def FnStandsOnSaid : Prop := fnStandsOnRow.holds Try.pinned (OpenSpec.ofChange fnStandsOnSpec)

/-- ITS FALSE NEIGHBOUR: 'it returns false'. Refute it at one input. -/
def fnStandsOnWrong : ChangeSpec := { name := "fnStandsOn", fn := fun _ => fun
  | [d] => { results := [.lit (.bool false)], args := [d] }
  | _ => none }
def FnStandsOnWrongFalsely : Prop := fnStandsOnRow.holds Try.pinned (OpenSpec.ofChange fnStandsOnWrong)

/-- 'laws.FnExactShiftSong': WHATEVER THE INPUT: true; the input reads as it did. -/
def fnExactShiftSongSpec : ChangeSpec := { name := "fnExactShiftSong", fn := fun _ => fun
  | [d1, d2] => { results := [.lit (.bool true)], args := [d1, d2] }
  | _ => none }
def fnExactShiftSongRow : OpenClaim := { program := "ytnboeejakonkpaa", sum := "e0e88321956209c10e310fe963de553b79130f79f5de3206af40781482deb172", func := "loop.example/homeconsole/laws.FnExactShiftSong", spec := "fnExactShiftSong", apart := false }
def FnExactShiftSongSaid : Prop := fnExactShiftSongRow.holds Try.pinned (OpenSpec.ofChange fnExactShiftSongSpec)

/-- ITS FALSE NEIGHBOUR: 'it returns false'. Refute it at one input. -/
def fnExactShiftSongWrong : ChangeSpec := { name := "fnExactShiftSong", fn := fun _ => fun
  | [d1, d2] => { results := [.lit (.bool false)], args := [d1, d2] }
  | _ => none }
def FnExactShiftSongWrongFalsely : Prop := fnExactShiftSongRow.holds Try.pinned (OpenSpec.ofChange fnExactShiftSongWrong)

/-- 'laws.FnShiftSong': WHATEVER THE INPUT: true; the input reads as it did. -/
def fnShiftSongSpec : ChangeSpec := { name := "fnShiftSong", fn := fun _ => fun
  | [d] => { results := [.lit (.bool true)], args := [d] }
  | _ => none }
def fnShiftSongRow : OpenClaim := { program := "ytnboeejakonkpaa", sum := "e0e88321956209c10e310fe963de553b79130f79f5de3206af40781482deb172", func := "loop.example/homeconsole/laws.FnShiftSong", spec := "fnShiftSong", apart := false }
def FnShiftSongSaid : Prop := fnShiftSongRow.holds Try.pinned (OpenSpec.ofChange fnShiftSongSpec)

/-- ITS FALSE NEIGHBOUR: 'it returns false'. Refute it at one input. -/
def fnShiftSongWrong : ChangeSpec := { name := "fnShiftSong", fn := fun _ => fun
  | [d] => { results := [.lit (.bool false)], args := [d] }
  | _ => none }
def FnShiftSongWrongFalsely : Prop := fnShiftSongRow.holds Try.pinned (OpenSpec.ofChange fnShiftSongWrong)

/-- 'laws.FnSongOctave': WHATEVER THE INPUT: true; the input reads as it did. -/
def fnSongOctaveSpec : ChangeSpec := { name := "fnSongOctave", fn := fun _ => fun
  | [d] => { results := [.lit (.bool true)], args := [d] }
  | _ => none }
def fnSongOctaveRow : OpenClaim := { program := "ytnboeejakonkpaa", sum := "e0e88321956209c10e310fe963de553b79130f79f5de3206af40781482deb172", func := "loop.example/homeconsole/laws.FnSongOctave", spec := "fnSongOctave", apart := false }
def FnSongOctaveSaid : Prop := fnSongOctaveRow.holds Try.pinned (OpenSpec.ofChange fnSongOctaveSpec)

/-- ITS FALSE NEIGHBOUR: 'it returns false'. Refute it at one input. -/
def fnSongOctaveWrong : ChangeSpec := { name := "fnSongOctave", fn := fun _ => fun
  | [d] => { results := [.lit (.bool false)], args := [d] }
  | _ => none }
def FnSongOctaveWrongFalsely : Prop := fnSongOctaveRow.holds Try.pinned (OpenSpec.ofChange fnSongOctaveWrong)

/- THE SECOND FORM. 'bulk': how many values and letters a reading holds, each counted each time it is reached (what is shared counts as often as it is met; a slice's spare places count too). A statement '..UptoSaid' is the law's where the arguments, and the package variables that the reading takes, are together of bulk at most 1048576: NARROWER than '..Said'. Prove '..Said' where nothing that the law and all that it calls make is longer than what came in: it says more and counts as full. Else prove '..UptoSaid'. A law counts once. -/
mutual
def uptoBulk {H : Type} : DataW H → Nat
  | .lit (.string bytes) => bytes.length + 1
  | .lit _ => 1
  | .nil => 1
  | .ptr d => uptoBulk d + 1
  | .slice elems spare => uptoBulkAll elems + uptoBulkAll spare + 1
  | .agg parts => uptoBulkAll parts + 1
  | .iface _ d => uptoBulk d + 1
  | .map entries => uptoBulkEntries entries + 1
  | .held _ => 1
def uptoBulkAll {H : Type} : List (DataW H) → Nat
  | [] => 0
  | d :: r => uptoBulk d + uptoBulkAll r
def uptoBulkEntries {H : Type} : List (Lit × DataW H) → Nat
  | [] => 0
  | x :: r => uptoBulkEntry x + uptoBulkEntries r
def uptoBulkEntry {H : Type} : Lit × DataW H → Nat
  | (.string bytes, d) => bytes.length + uptoBulk d + 1
  | (_, d) => uptoBulk d + 1
 end
def uptoSmall : (H : Type) → List (DataW H) → Bool := fun _ ds => decide (uptoBulkAll ds ≤ 1048576)
def OpenSpec.upto (s : _root_.Go.ChangeSpec) : _root_.Go.OpenSpec := { _root_.Go.OpenSpec.ofChange s with cond := some uptoSmall }

/-- 'laws.FnExactBoxBlocked', WHERE WHAT IT READS IS OF BULK AT MOST 1048576: true; the input reads as it did. -/
def fnExactBoxBlockedUptoRow : OpenClaim := { program := "ytnboeejakonkpaa", sum := "e0e88321956209c10e310fe963de553b79130f79f5de3206af40781482deb172", func := "loop.example/homeconsole/laws.FnExactBoxBlocked", spec := "fnExactBoxBlocked", apart := false, narrowed := true }
def FnExactBoxBlockedUptoSaid : Prop := fnExactBoxBlockedUptoRow.holds Try.pinned (OpenSpec.upto fnExactBoxBlockedSpec)

/-- 'laws.FnExactStandsOn', WHERE WHAT IT READS IS OF BULK AT MOST 1048576: true; the input reads as it did. -/
def fnExactStandsOnUptoRow : OpenClaim := { program := "ytnboeejakonkpaa", sum := "e0e88321956209c10e310fe963de553b79130f79f5de3206af40781482deb172", func := "loop.example/homeconsole/laws.FnExactStandsOn", spec := "fnExactStandsOn", apart := false, narrowed := true }
def FnExactStandsOnUptoSaid : Prop := fnExactStandsOnUptoRow.holds Try.pinned (OpenSpec.upto fnExactStandsOnSpec)

/-- 'laws.FnBoxBlocked', WHERE WHAT IT READS IS OF BULK AT MOST 1048576: true; the input reads as it did. -/
def fnBoxBlockedUptoRow : OpenClaim := { program := "ytnboeejakonkpaa", sum := "e0e88321956209c10e310fe963de553b79130f79f5de3206af40781482deb172", func := "loop.example/homeconsole/laws.FnBoxBlocked", spec := "fnBoxBlocked", apart := false, narrowed := true }
def FnBoxBlockedUptoSaid : Prop := fnBoxBlockedUptoRow.holds Try.pinned (OpenSpec.upto fnBoxBlockedSpec)

/-- 'laws.FnExactMoveBox', WHERE WHAT IT READS IS OF BULK AT MOST 1048576: true; the input reads as it did. -/
def fnExactMoveBoxUptoRow : OpenClaim := { program := "ytnboeejakonkpaa", sum := "e0e88321956209c10e310fe963de553b79130f79f5de3206af40781482deb172", func := "loop.example/homeconsole/laws.FnExactMoveBox", spec := "fnExactMoveBox", apart := false, narrowed := true }
def FnExactMoveBoxUptoSaid : Prop := fnExactMoveBoxUptoRow.holds Try.pinned (OpenSpec.upto fnExactMoveBoxSpec)

/-- 'laws.FnBoxHalves', WHERE WHAT IT READS IS OF BULK AT MOST 1048576: true; the input reads as it did. -/
def fnBoxHalvesUptoRow : OpenClaim := { program := "ytnboeejakonkpaa", sum := "e0e88321956209c10e310fe963de553b79130f79f5de3206af40781482deb172", func := "loop.example/homeconsole/laws.FnBoxHalves", spec := "fnBoxHalves", apart := false, narrowed := true }
def FnBoxHalvesUptoSaid : Prop := fnBoxHalvesUptoRow.holds Try.pinned (OpenSpec.upto fnBoxHalvesSpec)

/-- 'laws.FnMoveBox', WHERE WHAT IT READS IS OF BULK AT MOST 1048576: true; the input reads as it did. -/
def fnMoveBoxUptoRow : OpenClaim := { program := "ytnboeejakonkpaa", sum := "e0e88321956209c10e310fe963de553b79130f79f5de3206af40781482deb172", func := "loop.example/homeconsole/laws.FnMoveBox", spec := "fnMoveBox", apart := false, narrowed := true }
def FnMoveBoxUptoSaid : Prop := fnMoveBoxUptoRow.holds Try.pinned (OpenSpec.upto fnMoveBoxSpec)

/-- 'laws.FnBoxFalls', WHERE WHAT IT READS IS OF BULK AT MOST 1048576: true; the input reads as it did. -/
def fnBoxFallsUptoRow : OpenClaim := { program := "ytnboeejakonkpaa", sum := "e0e88321956209c10e310fe963de553b79130f79f5de3206af40781482deb172", func := "loop.example/homeconsole/laws.FnBoxFalls", spec := "fnBoxFalls", apart := false, narrowed := true }
def FnBoxFallsUptoSaid : Prop := fnBoxFallsUptoRow.holds Try.pinned (OpenSpec.upto fnBoxFallsSpec)

/-- 'laws.FnStandsOn', WHERE WHAT IT READS IS OF BULK AT MOST 1048576: true; the input reads as it did. -/
def fnStandsOnUptoRow : OpenClaim := { program := "ytnboeejakonkpaa", sum := "e0e88321956209c10e310fe963de553b79130f79f5de3206af40781482deb172", func := "loop.example/homeconsole/laws.FnStandsOn", spec := "fnStandsOn", apart := false, narrowed := true }
def FnStandsOnUptoSaid : Prop := fnStandsOnUptoRow.holds Try.pinned (OpenSpec.upto fnStandsOnSpec)

/-- 'laws.FnExactShiftSong', WHERE WHAT IT READS IS OF BULK AT MOST 1048576: true; the input reads as it did. -/
def fnExactShiftSongUptoRow : OpenClaim := { program := "ytnboeejakonkpaa", sum := "e0e88321956209c10e310fe963de553b79130f79f5de3206af40781482deb172", func := "loop.example/homeconsole/laws.FnExactShiftSong", spec := "fnExactShiftSong", apart := false, narrowed := true }
def FnExactShiftSongUptoSaid : Prop := fnExactShiftSongUptoRow.holds Try.pinned (OpenSpec.upto fnExactShiftSongSpec)

/-- 'laws.FnShiftSong', WHERE WHAT IT READS IS OF BULK AT MOST 1048576: true; the input reads as it did. -/
def fnShiftSongUptoRow : OpenClaim := { program := "ytnboeejakonkpaa", sum := "e0e88321956209c10e310fe963de553b79130f79f5de3206af40781482deb172", func := "loop.example/homeconsole/laws.FnShiftSong", spec := "fnShiftSong", apart := false, narrowed := true }
def FnShiftSongUptoSaid : Prop := fnShiftSongUptoRow.holds Try.pinned (OpenSpec.upto fnShiftSongSpec)

/-- 'laws.FnSongOctave', WHERE WHAT IT READS IS OF BULK AT MOST 1048576: true; the input reads as it did. -/
def fnSongOctaveUptoRow : OpenClaim := { program := "ytnboeejakonkpaa", sum := "e0e88321956209c10e310fe963de553b79130f79f5de3206af40781482deb172", func := "loop.example/homeconsole/laws.FnSongOctave", spec := "fnSongOctave", apart := false, narrowed := true }
def FnSongOctaveUptoSaid : Prop := fnSongOctaveUptoRow.holds Try.pinned (OpenSpec.upto fnSongOctaveSpec)

end Rows
end Go.Proofs.Ytnboeejakonkpaa
