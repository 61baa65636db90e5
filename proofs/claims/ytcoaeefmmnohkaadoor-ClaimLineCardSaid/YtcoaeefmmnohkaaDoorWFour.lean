-- SLIMMED by slim.py: the print's words, without what this claim does not name
import Derived.Test.YtcoaeefmmnohkaaDoorWTab
namespace Go.Proofs.YtcoaeefmmnohkaaDoorW.PrintLast
end Go.Proofs.YtcoaeefmmnohkaaDoorW.PrintLast
