-- SLIMMED by slim.py: the print's words, without what this claim does not name
import Derived.Test.YtcoaeefmmnohkaaDoorWWords
namespace Go.Proofs.YtcoaeefmmnohkaaDoorW.PrintWords
open Go.RowKit
namespace Kd
end Kd
end Go.Proofs.YtcoaeefmmnohkaaDoorW.PrintWords
