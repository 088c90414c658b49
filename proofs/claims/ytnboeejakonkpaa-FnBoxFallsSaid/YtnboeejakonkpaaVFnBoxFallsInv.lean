-- Thinned by wip/tools/prune.py from what the print wrote for this seat.
import Derived.Test.YtnboeejakonkpaaVFnBoxFallsTab
namespace Go.Proofs.YtnboeejakonkpaaW.PrintLast
def up (b : Nat → Bool) (i : Nat) : Nat → Bool := fun j => if j = i then true else b j
section
variable {P : Program} {ops : Array Oper} {Q : Exit → Act → World → Prop} {md : Region.Mode} {T : Bool × List (List Nat × List Nat)} {B : List Nat} {O : List Nat} {b : Nat → Bool} {i j n : Nat}
end
end Go.Proofs.YtnboeejakonkpaaW.PrintLast
