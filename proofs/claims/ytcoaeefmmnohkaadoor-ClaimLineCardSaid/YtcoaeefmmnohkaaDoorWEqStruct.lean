-- SLIMMED by slim.py: the print's words, without what this claim does not name
import Derived.Test.YtcoaeefmmnohkaaDoorWWords
import Derived.Laws.StructEq
namespace Go.Proofs.YtcoaeefmmnohkaaDoorW.PrintWords
open Go.RowKit
end Go.Proofs.YtcoaeefmmnohkaaDoorW.PrintWords
