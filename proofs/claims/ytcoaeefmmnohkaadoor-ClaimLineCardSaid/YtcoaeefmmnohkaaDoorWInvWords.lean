-- SLIMMED by slim.py: the print's words, without what this claim does not name
import Derived.Test.YtcoaeefmmnohkaaDoorWInv
import Derived.Test.YtcoaeefmmnohkaaDoorWFootNe
namespace Go.Proofs.YtcoaeefmmnohkaaDoorW.PrintWords
open Go.RowKit
end Go.Proofs.YtcoaeefmmnohkaaDoorW.PrintWords
namespace Go.Proofs.YtcoaeefmmnohkaaDoorW.PrintLast
end Go.Proofs.YtcoaeefmmnohkaaDoorW.PrintLast
