/-
  No cell of these rows narrows 'for every input' (looked for: loops, veiled, ifaces, maps, wideKeys, modest, calm, conditions, laid).
  DERIVED. THE GIVEN ROWS OF THIS SEAT. 11 by the template 'for every input the law returns true; each argument reads behind the call as it read before'; 0 by the template 'total and deterministic' (their statements: YtdbgdnjfolgkbaaTotals.lean).
  GIVEN WITH THE SEED: the statements are not yours to turn. If you find one false, say at which input.
  Laid BY PROGRAM, IN A SANDBOX (cutbox-rows.mjs): the forced cells as the released guide's own fill.sh prints them over the translation f7ed941332e388c2… (all of the seat's roots in one cut). By AI agents, Wed Nov 11 2026. No macro, syntax, notation, axiom, sorry.
-/
import Derived.Test.YtdbgdnjfolgkbaaChecked
import GoSem.Claim
import GoSem.ClaimJoined
import GoSem.ClaimMapViews
import Derived.JoinedTies
import Derived.KernelRfl
namespace Go.Proofs.Ytdbgdnjfolgkbaa
/- THE CELL 'sum', in the pinned program and in every row, IS THE sha256 OF THE DUMP (.gsa) THAT YtdbgdnjfolgkbaaProg.lean LOADS. Nothing in Lean hashes anything: it is a label: what it is worth is what the hold of that sum in a sandbox is worth. -/
noncomputable def Try.pinned : Pinned := { name := "ytdbgdnjfolgkbaa", sum := "f7ed941332e388c2a6628ec853575272a603c609268eebb0f87960974a450c04", checked := Try.checked }
namespace Rows
def none {H : Type} : Left H := { results := [], args := [] }

/-- 'laws.FnExactPackRuns': WHATEVER THE INPUT: true; the input reads as it did. -/
def fnExactPackRunsSpec : ChangeSpec := { name := "fnExactPackRuns", fn := fun _ => fun
  | [d] => { results := [.lit (.bool true)], args := [d] }
  | _ => none }
def fnExactPackRunsRow : OpenClaim := { program := "ytdbgdnjfolgkbaa", sum := "f7ed941332e388c2a6628ec853575272a603c609268eebb0f87960974a450c04", func := "loop.example/homeconsole/laws.FnExactPackRuns", spec := "fnExactPackRuns", apart := false }
def FnExactPackRunsSaid : Prop := fnExactPackRunsRow.holds Try.pinned (OpenSpec.ofChange fnExactPackRunsSpec)

/-- ITS FALSE NEIGHBOUR: 'it returns false'. Refute it at one input. -/
def fnExactPackRunsWrong : ChangeSpec := { name := "fnExactPackRuns", fn := fun _ => fun
  | [d] => { results := [.lit (.bool false)], args := [d] }
  | _ => none }
def FnExactPackRunsWrongFalsely : Prop := fnExactPackRunsRow.holds Try.pinned (OpenSpec.ofChange fnExactPackRunsWrong)

/-- 'laws.FnExactUnpackRuns': WHATEVER THE INPUT: true; the input reads as it did. -/
def fnExactUnpackRunsSpec : ChangeSpec := { name := "fnExactUnpackRuns", fn := fun _ => fun
  | [d] => { results := [.lit (.bool true)], args := [d] }
  | _ => none }
def fnExactUnpackRunsRow : OpenClaim := { program := "ytdbgdnjfolgkbaa", sum := "f7ed941332e388c2a6628ec853575272a603c609268eebb0f87960974a450c04", func := "loop.example/homeconsole/laws.FnExactUnpackRuns", spec := "fnExactUnpackRuns", apart := false }
def FnExactUnpackRunsSaid : Prop := fnExactUnpackRunsRow.holds Try.pinned (OpenSpec.ofChange fnExactUnpackRunsSpec)

/-- ITS FALSE NEIGHBOUR: 'it returns false'. Refute it at one input. -/
def fnExactUnpackRunsWrong : ChangeSpec := { name := "fnExactUnpackRuns", fn := fun _ => fun
  | [d] => { results := [.lit (.bool false)], args := [d] }
  | _ => none }
def FnExactUnpackRunsWrongFalsely : Prop := fnExactUnpackRunsRow.holds Try.pinned (OpenSpec.ofChange fnExactUnpackRunsWrong)

/-- 'laws.FnPackJoin': WHATEVER THE INPUT: true; the input reads as it did. -/
def fnPackJoinSpec : ChangeSpec := { name := "fnPackJoin", fn := fun _ => fun
  | [d1, d2] => { results := [.lit (.bool true)], args := [d1, d2] }
  | _ => none }
def fnPackJoinRow : OpenClaim := { program := "ytdbgdnjfolgkbaa", sum := "f7ed941332e388c2a6628ec853575272a603c609268eebb0f87960974a450c04", func := "loop.example/homeconsole/laws.FnPackJoin", spec := "fnPackJoin", apart := false }
def FnPackJoinSaid : Prop := fnPackJoinRow.holds Try.pinned (OpenSpec.ofChange fnPackJoinSpec)

/-- ITS FALSE NEIGHBOUR: 'it returns false'. Refute it at one input. -/
def fnPackJoinWrong : ChangeSpec := { name := "fnPackJoin", fn := fun _ => fun
  | [d1, d2] => { results := [.lit (.bool false)], args := [d1, d2] }
  | _ => none }
def FnPackJoinWrongFalsely : Prop := fnPackJoinRow.holds Try.pinned (OpenSpec.ofChange fnPackJoinWrong)

/-- 'laws.FnPackRuns': WHATEVER THE INPUT: true; the input reads as it did. -/
def fnPackRunsSpec : ChangeSpec := { name := "fnPackRuns", fn := fun _ => fun
  | [d] => { results := [.lit (.bool true)], args := [d] }
  | _ => none }
def fnPackRunsRow : OpenClaim := { program := "ytdbgdnjfolgkbaa", sum := "f7ed941332e388c2a6628ec853575272a603c609268eebb0f87960974a450c04", func := "loop.example/homeconsole/laws.FnPackRuns", spec := "fnPackRuns", apart := false }
def FnPackRunsSaid : Prop := fnPackRunsRow.holds Try.pinned (OpenSpec.ofChange fnPackRunsSpec)

/-- ITS FALSE NEIGHBOUR: 'it returns false'. Refute it at one input. -/
def fnPackRunsWrong : ChangeSpec := { name := "fnPackRuns", fn := fun _ => fun
  | [d] => { results := [.lit (.bool false)], args := [d] }
  | _ => none }
def FnPackRunsWrongFalsely : Prop := fnPackRunsRow.holds Try.pinned (OpenSpec.ofChange fnPackRunsWrong)

/-- 'laws.FnUnpackRuns': WHATEVER THE INPUT: true; the input reads as it did. -/
def fnUnpackRunsSpec : ChangeSpec := { name := "fnUnpackRuns", fn := fun _ => fun
  | [d] => { results := [.lit (.bool true)], args := [d] }
  | _ => none }
def fnUnpackRunsRow : OpenClaim := { program := "ytdbgdnjfolgkbaa", sum := "f7ed941332e388c2a6628ec853575272a603c609268eebb0f87960974a450c04", func := "loop.example/homeconsole/laws.FnUnpackRuns", spec := "fnUnpackRuns", apart := false }
def FnUnpackRunsSaid : Prop := fnUnpackRunsRow.holds Try.pinned (OpenSpec.ofChange fnUnpackRunsSpec)

/-- ITS FALSE NEIGHBOUR: 'it returns false'. Refute it at one input. -/
def fnUnpackRunsWrong : ChangeSpec := { name := "fnUnpackRuns", fn := fun _ => fun
  | [d] => { results := [.lit (.bool false)], args := [d] }
  | _ => none }
def FnUnpackRunsWrongFalsely : Prop := fnUnpackRunsRow.holds Try.pinned (OpenSpec.ofChange fnUnpackRunsWrong)

/-- 'laws.FnCheatNumber': WHATEVER THE INPUT: true; the input reads as it did. -/
def fnCheatNumberSpec : ChangeSpec := { name := "fnCheatNumber", fn := fun _ => fun
  | [d1, d2] => { results := [.lit (.bool true)], args := [d1, d2] }
  | _ => none }
def fnCheatNumberRow : OpenClaim := { program := "ytdbgdnjfolgkbaa", sum := "f7ed941332e388c2a6628ec853575272a603c609268eebb0f87960974a450c04", func := "loop.example/homeconsole/laws.FnCheatNumber", spec := "fnCheatNumber", apart := false }
def FnCheatNumberSaid : Prop := fnCheatNumberRow.holds Try.pinned (OpenSpec.ofChange fnCheatNumberSpec)

/-- ITS FALSE NEIGHBOUR: 'it returns false'. Refute it at one input. -/
def fnCheatNumberWrong : ChangeSpec := { name := "fnCheatNumber", fn := fun _ => fun
  | [d1, d2] => { results := [.lit (.bool false)], args := [d1, d2] }
  | _ => none }
def FnCheatNumberWrongFalsely : Prop := fnCheatNumberRow.holds Try.pinned (OpenSpec.ofChange fnCheatNumberWrong)

/-- 'laws.FnCheatFrom': WHATEVER THE INPUT: true; the input reads as it did. -/
def fnCheatFromSpec : ChangeSpec := { name := "fnCheatFrom", fn := fun _ => fun
  | [d] => { results := [.lit (.bool true)], args := [d] }
  | _ => none }
def fnCheatFromRow : OpenClaim := { program := "ytdbgdnjfolgkbaa", sum := "f7ed941332e388c2a6628ec853575272a603c609268eebb0f87960974a450c04", func := "loop.example/homeconsole/laws.FnCheatFrom", spec := "fnCheatFrom", apart := false }
def FnCheatFromSaid : Prop := fnCheatFromRow.holds Try.pinned (OpenSpec.ofChange fnCheatFromSpec)

/-- ITS FALSE NEIGHBOUR: 'it returns false'. Refute it at one input. -/
def fnCheatFromWrong : ChangeSpec := { name := "fnCheatFrom", fn := fun _ => fun
  | [d] => { results := [.lit (.bool false)], args := [d] }
  | _ => none }
def FnCheatFromWrongFalsely : Prop := fnCheatFromRow.holds Try.pinned (OpenSpec.ofChange fnCheatFromWrong)

/-- 'laws.FnCheatsValid': WHATEVER THE INPUT: true; the input reads as it did. -/
def fnCheatsValidSpec : ChangeSpec := { name := "fnCheatsValid", fn := fun _ => fun
  | [d] => { results := [.lit (.bool true)], args := [d] }
  | _ => none }
def fnCheatsValidRow : OpenClaim := { program := "ytdbgdnjfolgkbaa", sum := "f7ed941332e388c2a6628ec853575272a603c609268eebb0f87960974a450c04", func := "loop.example/homeconsole/laws.FnCheatsValid", spec := "fnCheatsValid", apart := false }
def FnCheatsValidSaid : Prop := fnCheatsValidRow.holds Try.pinned (OpenSpec.ofChange fnCheatsValidSpec)

/-- ITS FALSE NEIGHBOUR: 'it returns false'. Refute it at one input. -/
def fnCheatsValidWrong : ChangeSpec := { name := "fnCheatsValid", fn := fun _ => fun
  | [d] => { results := [.lit (.bool false)], args := [d] }
  | _ => none }
def FnCheatsValidWrongFalsely : Prop := fnCheatsValidRow.holds Try.pinned (OpenSpec.ofChange fnCheatsValidWrong)

/-- 'laws.FnSongTicks': WHATEVER THE INPUT: true; the input reads as it did. -/
def fnSongTicksSpec : ChangeSpec := { name := "fnSongTicks", fn := fun _ => fun
  | [d] => { results := [.lit (.bool true)], args := [d] }
  | _ => none }
def fnSongTicksRow : OpenClaim := { program := "ytdbgdnjfolgkbaa", sum := "f7ed941332e388c2a6628ec853575272a603c609268eebb0f87960974a450c04", func := "loop.example/homeconsole/laws.FnSongTicks", spec := "fnSongTicks", apart := false }
def FnSongTicksSaid : Prop := fnSongTicksRow.holds Try.pinned (OpenSpec.ofChange fnSongTicksSpec)

/-- ITS FALSE NEIGHBOUR: 'it returns false'. Refute it at one input. -/
def fnSongTicksWrong : ChangeSpec := { name := "fnSongTicks", fn := fun _ => fun
  | [d] => { results := [.lit (.bool false)], args := [d] }
  | _ => none }
def FnSongTicksWrongFalsely : Prop := fnSongTicksRow.holds Try.pinned (OpenSpec.ofChange fnSongTicksWrong)

/-- 'laws.FnExactNoteAt': WHATEVER THE INPUT: true; the input reads as it did. -/
def fnExactNoteAtSpec : ChangeSpec := { name := "fnExactNoteAt", fn := fun _ => fun
  | [d1, d2] => { results := [.lit (.bool true)], args := [d1, d2] }
  | _ => none }
def fnExactNoteAtRow : OpenClaim := { program := "ytdbgdnjfolgkbaa", sum := "f7ed941332e388c2a6628ec853575272a603c609268eebb0f87960974a450c04", func := "loop.example/homeconsole/laws.FnExactNoteAt", spec := "fnExactNoteAt", unfollowed := true, recurses := true, apart := false }
def FnExactNoteAtSaid : Prop := fnExactNoteAtRow.holds Try.pinned (OpenSpec.ofChange fnExactNoteAtSpec)

/-- ITS FALSE NEIGHBOUR: 'it returns false'. Refute it at one input. -/
def fnExactNoteAtWrong : ChangeSpec := { name := "fnExactNoteAt", fn := fun _ => fun
  | [d1, d2] => { results := [.lit (.bool false)], args := [d1, d2] }
  | _ => none }
def FnExactNoteAtWrongFalsely : Prop := fnExactNoteAtRow.holds Try.pinned (OpenSpec.ofChange fnExactNoteAtWrong)

/-- 'laws.FnNoteAt': WHATEVER THE INPUT: true; the input reads as it did. -/
def fnNoteAtSpec : ChangeSpec := { name := "fnNoteAt", fn := fun _ => fun
  | [d] => { results := [.lit (.bool true)], args := [d] }
  | _ => none }
def fnNoteAtRow : OpenClaim := { program := "ytdbgdnjfolgkbaa", sum := "f7ed941332e388c2a6628ec853575272a603c609268eebb0f87960974a450c04", func := "loop.example/homeconsole/laws.FnNoteAt", spec := "fnNoteAt", unfollowed := true, recurses := true, apart := false }
def FnNoteAtSaid : Prop := fnNoteAtRow.holds Try.pinned (OpenSpec.ofChange fnNoteAtSpec)

/-- ITS FALSE NEIGHBOUR: 'it returns false'. Refute it at one input. -/
def fnNoteAtWrong : ChangeSpec := { name := "fnNoteAt", fn := fun _ => fun
  | [d] => { results := [.lit (.bool false)], args := [d] }
  | _ => none }
def FnNoteAtWrongFalsely : Prop := fnNoteAtRow.holds Try.pinned (OpenSpec.ofChange fnNoteAtWrong)

/- THE SECOND FORM. 'bulk': how many values and letters a reading holds, each counted each time it is reached (what is shared counts as often as it is met; a slice's spare places count too). A statement '..UptoSaid' is the law's where the arguments, and the package variables that the reading takes, are together of bulk at most 1048576: NARROWER than '..Said'. Prove '..Said' where nothing that the law and all that it calls make is longer than what came in: it says more and counts as full. Else prove '..UptoSaid'. A law counts once. -/
mutual
def uptoBulk {H : Type} : DataW H → Nat
  | .lit (.string bytes) => bytes.length + 1
  | .lit _ => 1
  | .nil => 1
  | .ptr d => uptoBulk d + 1
  | .slice elems spare => uptoBulkAll elems + uptoBulkAll spare + 1
  | .agg parts => uptoBulkAll parts + 1
  | .iface _ d => uptoBulk d + 1
  | .map entries => uptoBulkEntries entries + 1
  | .held _ => 1
def uptoBulkAll {H : Type} : List (DataW H) → Nat
  | [] => 0
  | d :: r => uptoBulk d + uptoBulkAll r
def uptoBulkEntries {H : Type} : List (Lit × DataW H) → Nat
  | [] => 0
  | x :: r => uptoBulkEntry x + uptoBulkEntries r
def uptoBulkEntry {H : Type} : Lit × DataW H → Nat
  | (.string bytes, d) => bytes.length + uptoBulk d + 1
  | (_, d) => uptoBulk d + 1
 end
def uptoSmall : (H : Type) → List (DataW H) → Bool := fun _ ds => decide (uptoBulkAll ds ≤ 1048576)
def OpenSpec.upto (s : _root_.Go.ChangeSpec) : _root_.Go.OpenSpec := { _root_.Go.OpenSpec.ofChange s with cond := some uptoSmall }

/-- 'laws.FnExactPackRuns', WHERE WHAT IT READS IS OF BULK AT MOST 1048576: true; the input reads as it did. -/
def fnExactPackRunsUptoRow : OpenClaim := { program := "ytdbgdnjfolgkbaa", sum := "f7ed941332e388c2a6628ec853575272a603c609268eebb0f87960974a450c04", func := "loop.example/homeconsole/laws.FnExactPackRuns", spec := "fnExactPackRuns", apart := false, narrowed := true }
def FnExactPackRunsUptoSaid : Prop := fnExactPackRunsUptoRow.holds Try.pinned (OpenSpec.upto fnExactPackRunsSpec)

/-- 'laws.FnExactUnpackRuns', WHERE WHAT IT READS IS OF BULK AT MOST 1048576: true; the input reads as it did. -/
def fnExactUnpackRunsUptoRow : OpenClaim := { program := "ytdbgdnjfolgkbaa", sum := "f7ed941332e388c2a6628ec853575272a603c609268eebb0f87960974a450c04", func := "loop.example/homeconsole/laws.FnExactUnpackRuns", spec := "fnExactUnpackRuns", apart := false, narrowed := true }
def FnExactUnpackRunsUptoSaid : Prop := fnExactUnpackRunsUptoRow.holds Try.pinned (OpenSpec.upto fnExactUnpackRunsSpec)

/-- 'laws.FnPackJoin', WHERE WHAT IT READS IS OF BULK AT MOST 1048576: true; the input reads as it did. -/
def fnPackJoinUptoRow : OpenClaim := { program := "ytdbgdnjfolgkbaa", sum := "f7ed941332e388c2a6628ec853575272a603c609268eebb0f87960974a450c04", func := "loop.example/homeconsole/laws.FnPackJoin", spec := "fnPackJoin", apart := false, narrowed := true }
def FnPackJoinUptoSaid : Prop := fnPackJoinUptoRow.holds Try.pinned (OpenSpec.upto fnPackJoinSpec)

/-- 'laws.FnPackRuns', WHERE WHAT IT READS IS OF BULK AT MOST 1048576: true; the input reads as it did. -/
def fnPackRunsUptoRow : OpenClaim := { program := "ytdbgdnjfolgkbaa", sum := "f7ed941332e388c2a6628ec853575272a603c609268eebb0f87960974a450c04", func := "loop.example/homeconsole/laws.FnPackRuns", spec := "fnPackRuns", apart := false, narrowed := true }
def FnPackRunsUptoSaid : Prop := fnPackRunsUptoRow.holds Try.pinned (OpenSpec.upto fnPackRunsSpec)

/-- 'laws.FnUnpackRuns', WHERE WHAT IT READS IS OF BULK AT MOST 1048576: true; the input reads as it did. -/
def fnUnpackRunsUptoRow : OpenClaim := { program := "ytdbgdnjfolgkbaa", sum := "f7ed941332e388c2a6628ec853575272a603c609268eebb0f87960974a450c04", func := "loop.example/homeconsole/laws.FnUnpackRuns", spec := "fnUnpackRuns", apart := false, narrowed := true }
def FnUnpackRunsUptoSaid : Prop := fnUnpackRunsUptoRow.holds Try.pinned (OpenSpec.upto fnUnpackRunsSpec)

/-- 'laws.FnCheatNumber', WHERE WHAT IT READS IS OF BULK AT MOST 1048576: true; the input reads as it did. -/
def fnCheatNumberUptoRow : OpenClaim := { program := "ytdbgdnjfolgkbaa", sum := "f7ed941332e388c2a6628ec853575272a603c609268eebb0f87960974a450c04", func := "loop.example/homeconsole/laws.FnCheatNumber", spec := "fnCheatNumber", apart := false, narrowed := true }
def FnCheatNumberUptoSaid : Prop := fnCheatNumberUptoRow.holds Try.pinned (OpenSpec.upto fnCheatNumberSpec)

/-- 'laws.FnCheatFrom', WHERE WHAT IT READS IS OF BULK AT MOST 1048576: true; the input reads as it did. -/
def fnCheatFromUptoRow : OpenClaim := { program := "ytdbgdnjfolgkbaa", sum := "f7ed941332e388c2a6628ec853575272a603c609268eebb0f87960974a450c04", func := "loop.example/homeconsole/laws.FnCheatFrom", spec := "fnCheatFrom", apart := false, narrowed := true }
def FnCheatFromUptoSaid : Prop := fnCheatFromUptoRow.holds Try.pinned (OpenSpec.upto fnCheatFromSpec)

/-- 'laws.FnCheatsValid', WHERE WHAT IT READS IS OF BULK AT MOST 1048576: true; the input reads as it did. -/
def fnCheatsValidUptoRow : OpenClaim := { program := "ytdbgdnjfolgkbaa", sum := "f7ed941332e388c2a6628ec853575272a603c609268eebb0f87960974a450c04", func := "loop.example/homeconsole/laws.FnCheatsValid", spec := "fnCheatsValid", apart := false, narrowed := true }
def FnCheatsValidUptoSaid : Prop := fnCheatsValidUptoRow.holds Try.pinned (OpenSpec.upto fnCheatsValidSpec)

/-- 'laws.FnSongTicks', WHERE WHAT IT READS IS OF BULK AT MOST 1048576: true; the input reads as it did. -/
def fnSongTicksUptoRow : OpenClaim := { program := "ytdbgdnjfolgkbaa", sum := "f7ed941332e388c2a6628ec853575272a603c609268eebb0f87960974a450c04", func := "loop.example/homeconsole/laws.FnSongTicks", spec := "fnSongTicks", apart := false, narrowed := true }
def FnSongTicksUptoSaid : Prop := fnSongTicksUptoRow.holds Try.pinned (OpenSpec.upto fnSongTicksSpec)

/-- 'laws.FnExactNoteAt', WHERE WHAT IT READS IS OF BULK AT MOST 1048576: true; the input reads as it did. -/
def fnExactNoteAtUptoRow : OpenClaim := { program := "ytdbgdnjfolgkbaa", sum := "f7ed941332e388c2a6628ec853575272a603c609268eebb0f87960974a450c04", func := "loop.example/homeconsole/laws.FnExactNoteAt", spec := "fnExactNoteAt", unfollowed := true, recurses := true, apart := false, narrowed := true }
def FnExactNoteAtUptoSaid : Prop := fnExactNoteAtUptoRow.holds Try.pinned (OpenSpec.upto fnExactNoteAtSpec)

/-- 'laws.FnNoteAt', WHERE WHAT IT READS IS OF BULK AT MOST 1048576: true; the input reads as it did. -/
def fnNoteAtUptoRow : OpenClaim := { program := "ytdbgdnjfolgkbaa", sum := "f7ed941332e388c2a6628ec853575272a603c609268eebb0f87960974a450c04", func := "loop.example/homeconsole/laws.FnNoteAt", spec := "fnNoteAt", unfollowed := true, recurses := true, apart := false, narrowed := true }
def FnNoteAtUptoSaid : Prop := fnNoteAtUptoRow.holds Try.pinned (OpenSpec.upto fnNoteAtSpec)

end Rows
end Go.Proofs.Ytdbgdnjfolgkbaa
