/- The plain rest of the law WordLonger: nothing is left, its walk says all. -/
import Derived.Test.YtcoaeefmmnohkaaDoorMLWordLonger
namespace Go.Proofs.YtcoaeefmmnohkaaDoor.Q
theorem WordLonger : P.foretellkeep_WordLonger.Pur := trivial
end Go.Proofs.YtcoaeefmmnohkaaDoor.Q
