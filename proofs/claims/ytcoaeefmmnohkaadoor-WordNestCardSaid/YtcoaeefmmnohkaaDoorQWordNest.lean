/- The plain rest of the law WordNest: nothing is left, its walk says all. -/
import Derived.Test.YtcoaeefmmnohkaaDoorLWordNest
namespace Go.Proofs.YtcoaeefmmnohkaaDoor.Q
theorem WordNest : P.foretellkeep_WordNest.Pur := trivial
end Go.Proofs.YtcoaeefmmnohkaaDoor.Q
