/- The plain rest of the law WordShift: nothing is left, its walk says all. -/
import Derived.Test.YtcoaeefmmnohkaaDoorJLWordShift
namespace Go.Proofs.YtcoaeefmmnohkaaDoor.Q
theorem WordShift : P.foretellkeep_WordShift.Pur := trivial
end Go.Proofs.YtcoaeefmmnohkaaDoor.Q
