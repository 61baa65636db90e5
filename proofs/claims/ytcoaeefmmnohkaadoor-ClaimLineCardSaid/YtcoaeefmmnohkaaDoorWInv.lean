-- SLIMMED by slim.py: the print's words, without what this claim does not name
import Derived.Test.YtcoaeefmmnohkaaDoorWTab
namespace Go.Proofs.YtcoaeefmmnohkaaDoorW.PrintLast
def up (b : Nat → Bool) (i : Nat) : Nat → Bool := fun j => if j = i then true else b j
end Go.Proofs.YtcoaeefmmnohkaaDoorW.PrintLast
