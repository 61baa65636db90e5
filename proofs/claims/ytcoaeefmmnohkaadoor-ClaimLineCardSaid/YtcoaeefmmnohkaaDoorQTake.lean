/- The raw numbers that a law's generator takes, and an op that it puts. -/
import Derived.Test.YtcoaeefmmnohkaaDoorQTerm
import Derived.Test.YtcoaeefmmnohkaaDoorFGrown
namespace Go.Proofs.YtcoaeefmmnohkaaDoor.Q
open Go.RowKit Go.Proofs.YtcoaeefmmnohkaaDoorW.PrintWords Go.Proofs.YtcoaeefmmnohkaaDoorW.PrintMore Go.Proofs.YtcoaeefmmnohkaaDoor.P
set_option linter.unusedVariables false
def rawWf (raw : List Raw) : Prop := ∀ y ∈ raw, ((Lit.int .i64 y.f0).wf = true ∧ (Lit.int .i64 y.f1).wf = true)
theorem take_is {raw : List Raw} (hw : rawWf raw) (a tp : Int) (out : List Op) (h0 : 0 ≤ a) (h1 : a ≤ 1000000) : ∃ r : Raw, grown_take.f raw ⟨a, tp, out⟩ = some (r, ⟨a + 1, tp, out⟩) ∧ (Lit.int .i64 r.f0).wf = true ∧ (Lit.int .i64 r.f1).wf = true := by
  unfold grown_take.f
  simp only [w64 (n := a + 1) (by omega) (by omega)]
  by_cases c : a < (raw.length : Int)
  · rw [if_pos c, if_pos h0]
    have hm : rd_T79 raw a ∈ raw := by
      unfold rd_T79
      rw [List.getD_eq_getElem?_getD, List.getElem?_eq_getElem (show a.toNat < raw.length by omega)]
      exact List.getElem_mem _
    exact ⟨_, rfl, (hw _ hm).1, (hw _ hm).2⟩
  · rw [if_neg c]
    exact ⟨⟨0, 0⟩, rfl, by decide, by decide⟩
theorem put_ok (a tp : Int) (out : List Op) (kind value : Int) (h : out.length ≤ 1000000) : grown_put.f ⟨a, tp, out⟩ kind value = some ⟨a, tp, out ++ [⟨kind, value⟩]⟩ := by
  unfold grown_put.f
  rw [if_pos (show out.length < 8796093022208 by omega)]
end Go.Proofs.YtcoaeefmmnohkaaDoor.Q
