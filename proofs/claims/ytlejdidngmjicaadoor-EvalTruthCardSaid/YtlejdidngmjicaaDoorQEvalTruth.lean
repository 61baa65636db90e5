/- The plain law of EvalTruth: a truth is 0 or 1, and Not turns it. -/
import Derived.Test.YtlejdidngmjicaaDoorLEvalTruth
import Derived.Test.YtlejdidngmjicaaDoorQEval
namespace Go.Proofs.YtlejdidngmjicaaDoor.Q
open Go.RowKit Go.Proofs.YtlejdidngmjicaaDoorW.PrintWords Go.Proofs.YtlejdidngmjicaaDoorW.PrintMore Go.Proofs.YtlejdidngmjicaaDoor.P
set_option linter.unusedVariables false
theorem EvalTruth : P.foretellkeep_EvalTruth.Pur := by
  intro raw x y z ⟨_, hw⟩ ⟨hx, hy, hz⟩
  obtain ⟨t, ht, st, et⟩ := truth_is (raw := raw) hw 3 (by decide)
  obtain ⟨env, he, hl, hv⟩ := env_is hx hy hz
  obtain ⟨n, hn, hb⟩ := truth_val hl hv ht
  obtain ⟨h2, hb2⟩ := val_not hn hb
  refine Ev.rounds ?_
  unfold foretellkeep_EvalTruth.f
  simp only [he, Option.bind_some]
  refine Ev.bind et ?_
  refine Ev.bind (check_good (by decide) (by decide) ht.ty (by omega)) ?_
  refine Ev.bind (eval_some hl hv ht.ty (by omega) hn) ?_
  refine Ev.bind (joined1 10 t (by omega)) ?_
  refine Ev.bind (eval_some hl hv (Ty.not t ht.ty) (by simp only [Tm.size]; omega) h2) ?_
  rcases hb with rfl | rfl
  · show Ev (fun _ => some (wrap64 (0 + (1 - 0)) == 1)) true
    exact ev_some (by rw [w64 (n := 0 + (1 - 0)) (by decide) (by decide)]; rfl)
  · show Ev (fun _ => some (wrap64 (1 + (1 - 1)) == 1)) true
    exact ev_some (by rw [w64 (n := 1 + (1 - 1)) (by decide) (by decide)]; rfl)
end Go.Proofs.YtlejdidngmjicaaDoor.Q
