/- The plain rest of the law WordNow: nothing is left, its walk says all. -/
import Derived.Test.YtcoaeefmmnohkaaDoorKLWordNow
namespace Go.Proofs.YtcoaeefmmnohkaaDoor.Q
theorem WordNow : P.foretellkeep_WordNow.Pur := trivial
end Go.Proofs.YtcoaeefmmnohkaaDoor.Q
