/- A letter of a raw number. -/
import Derived.Test.YtcoaeefmmnohkaaDoorQ
import Derived.Test.YtcoaeefmmnohkaaDoorFSpell
namespace Go.Proofs.YtcoaeefmmnohkaaDoor.Q
open Go.RowKit Go.Proofs.YtcoaeefmmnohkaaDoorW.PrintWords Go.Proofs.YtcoaeefmmnohkaaDoorW.PrintMore Go.Proofs.YtcoaeefmmnohkaaDoor.P
set_option linter.unusedVariables false
theorem letter_is {n : Int} (h : (Lit.int .i64 n).wf = true) : ∃ l, foretellkeep_letter.f n = some l ∧ l.length = 3 := by
  unfold foretellkeep_letter.f
  rw [picked_is h (by decide), Option.bind_some]
  exact ⟨_, rfl, rfl⟩
end Go.Proofs.YtcoaeefmmnohkaaDoor.Q
