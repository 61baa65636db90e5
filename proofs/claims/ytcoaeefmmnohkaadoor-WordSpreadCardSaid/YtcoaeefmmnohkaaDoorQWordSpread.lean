/- The plain rest of the law WordSpread: nothing is left, its walk says all. -/
import Derived.Test.YtcoaeefmmnohkaaDoorLWordSpread
namespace Go.Proofs.YtcoaeefmmnohkaaDoor.Q
theorem WordSpread : P.foretellkeep_WordSpread.Pur := trivial
end Go.Proofs.YtcoaeefmmnohkaaDoor.Q
