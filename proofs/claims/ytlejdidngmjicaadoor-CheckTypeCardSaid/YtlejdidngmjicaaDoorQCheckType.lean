/- The plain law of CheckType: a number where a truth should be is told, and the other way round. -/
import Derived.Test.YtlejdidngmjicaaDoorLCheckType
import Derived.Test.YtlejdidngmjicaaDoorQType
namespace Go.Proofs.YtlejdidngmjicaaDoor.Q
open Go.RowKit Go.Proofs.YtlejdidngmjicaaDoorW.PrintWords Go.Proofs.YtlejdidngmjicaaDoorW.PrintMore Go.Proofs.YtlejdidngmjicaaDoor.P
set_option linter.unusedVariables false
theorem CheckType : P.foretellkeep_CheckType.Pur := by
  intro x y ⟨_, hx⟩ ⟨_, hy⟩
  obtain ⟨n, hn, sn, en⟩ := number_is (raw := x) hx 3 (by decide)
  obtain ⟨t, ht, st, et⟩ := truth_is (raw := y) hy 3 (by decide)
  have v0 : (0 : Int) ≤ 3 := by decide
  have v1 : (3 : Int) ≤ 6 := by decide
  refine Ev.rounds ?_
  unfold foretellkeep_CheckType.f
  refine Ev.bind en ?_
  refine Ev.bind et ?_
  refine Ev.bind (joined2 8 t n (by omega)) ?_
  refine Ev.bind (check_bad2 v0 v1 (by decide) (by decide) ht.ty hn.ty rfl (by decide) (by simp only [Tm.size]; omega)) ?_
  refine Ev.bind (joined2 6 n t (by omega)) ?_
  refine Ev.bind (check_bad2 v0 v1 (by decide) (by decide) hn.ty ht.ty rfl (by decide) (by simp only [Tm.size]; omega)) ?_
  refine Ev.bind (joined1 10 n (by omega)) ?_
  refine Ev.bind (check_badn v0 v1 hn.ty (by simp only [Tm.size]; omega)) ?_
  refine Ev.bind (check_good v0 v1 hn.ty (by omega)) ?_
  refine Ev.bind (joined2 7 n n (by omega)) ?_
  refine Ev.bind (check_good v0 v1 (Ty.cmp 7 n n (.inr rfl) hn.ty hn.ty) (by simp only [Tm.size]; omega)) ?_
  exact Ev.now _
end Go.Proofs.YtlejdidngmjicaaDoor.Q
