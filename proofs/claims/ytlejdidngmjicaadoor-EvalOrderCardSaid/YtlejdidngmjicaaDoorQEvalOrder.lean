/- The plain law of EvalOrder: of two numbers one is the lower, or both are the same. -/
import Derived.Test.YtlejdidngmjicaaDoorLEvalOrder
import Derived.Test.YtlejdidngmjicaaDoorQEval
namespace Go.Proofs.YtlejdidngmjicaaDoor.Q
open Go.RowKit Go.Proofs.YtlejdidngmjicaaDoorW.PrintWords Go.Proofs.YtlejdidngmjicaaDoorW.PrintMore Go.Proofs.YtlejdidngmjicaaDoor.P
set_option linter.unusedVariables false
theorem EvalOrder : P.foretellkeep_EvalOrder.Pur := by
  intro r1 r2 x y z ⟨_, hw1⟩ ⟨_, hw2⟩ ⟨hx, hy, hz⟩
  obtain ⟨a, ha, sa, ea⟩ := number_is (raw := r1) hw1 3 (by decide)
  obtain ⟨b, hb, sb, eb⟩ := number_is (raw := r2) hw2 3 (by decide)
  obtain ⟨env, he, hl, hv⟩ := env_is hx hy hz
  obtain ⟨m, hm, _⟩ := num_small hl hv ha sa
  obtain ⟨n, hn, _⟩ := num_small hl hv hb sb
  refine Ev.rounds ?_
  unfold foretellkeep_EvalOrder.f
  simp only [he, Option.bind_some]
  refine Ev.bind ea ?_
  refine Ev.bind eb ?_
  refine Ev.bind (joined2 7 a b (by omega)) ?_
  refine Ev.bind (eval_some hl hv (Ty.cmp 7 a b (.inr rfl) ha.ty hb.ty) (by simp only [Tm.size]; omega) (val_lt hm hn)) ?_
  refine Ev.bind (joined2 7 b a (by omega)) ?_
  refine Ev.bind (eval_some hl hv (Ty.cmp 7 b a (.inr rfl) hb.ty ha.ty) (by simp only [Tm.size]; omega) (val_lt hn hm)) ?_
  refine Ev.bind (joined2 6 a b (by omega)) ?_
  refine Ev.bind (eval_some hl hv (Ty.cmp 6 a b (.inl rfl) ha.ty hb.ty) (by simp only [Tm.size]; omega) (val_eq hm hn)) ?_
  simp only [if_true]
  refine ev_some ?_
  have e1 : wrap64 (wrap64 (1 + 0) + 0) = 1 := by rw [w64 (n := 1 + 0) (by decide) (by decide)]; exact w64 (n := 1) (by decide) (by decide)
  have e2 : wrap64 (wrap64 (0 + 0) + 1) = 1 := by rw [w64 (n := 0 + 0) (by decide) (by decide)]; exact w64 (n := 1) (by decide) (by decide)
  have e3 : wrap64 (wrap64 (0 + 1) + 0) = 1 := by rw [w64 (n := 0 + 1) (by decide) (by decide)]; exact w64 (n := 1) (by decide) (by decide)
  rcases Int.lt_trichotomy m n with q | q | q
  · rw [if_pos q, if_neg (by omega), if_neg (by omega), e1]; rfl
  · rw [if_neg (by omega), if_neg (by omega), if_pos q, e2]; rfl
  · rw [if_neg (by omega), if_pos q, if_neg (by omega), e3]; rfl
end Go.Proofs.YtlejdidngmjicaaDoor.Q
