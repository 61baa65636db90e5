/- The plain law of EvalShift: what is added and taken away again changes nothing; one times is the same, nought times is nought. -/
import Derived.Test.YtlejdidngmjicaaDoorLEvalShift
import Derived.Test.YtlejdidngmjicaaDoorQEval
namespace Go.Proofs.YtlejdidngmjicaaDoor.Q
open Go.RowKit Go.Proofs.YtlejdidngmjicaaDoorW.PrintWords Go.Proofs.YtlejdidngmjicaaDoorW.PrintMore Go.Proofs.YtlejdidngmjicaaDoor.P
set_option linter.unusedVariables false
theorem EvalShift : P.foretellkeep_EvalShift.Pur := by
  intro raw k x y z ⟨_, hw⟩ hk ⟨hx, hy, hz⟩
  obtain ⟨a, ha, sa, ea⟩ := number_is (raw := raw) hw 3 (by decide)
  obtain ⟨env, he, hl, hv⟩ := env_is hx hy hz
  obtain ⟨m, hm, m0, m1⟩ := num_small hl hv ha sa
  have p0 := pk_lo k (m := 2001) (by decide)
  have p1 := pk_hi k (m := 2001) (by decide)
  have w1 : wrap64 (pk k 2001 - 1000) = pk k 2001 - 1000 := w64 (by omega) (by omega)
  have hp := picked_is hk (m := 2001) (by decide)
  obtain ⟨v, hvv⟩ : ∃ v, v = pk k 2001 - 1000 := ⟨_, rfl⟩
  rw [← hvv] at w1
  have tn : ∀ vars, Ty vars false (.leaf ⟨1, v⟩) := fun vars => .num v (by omega) (by omega)
  have t1 : Ty 3 false (.leaf ⟨1, 1⟩) := .num 1 (by decide) (by decide)
  have t0 : Ty 3 false (.leaf ⟨1, 0⟩) := .num 0 (by decide) (by decide)
  have vn : ∀ env, (Tm.leaf ⟨1, v⟩).val env = some v := fun env => val_num env v (by omega) (by omega)
  have v1 : (Tm.leaf ⟨1, 1⟩).val env = some 1 := val_num env 1 (by decide) (by decide)
  have v0 : (Tm.leaf ⟨1, 0⟩).val env = some 0 := val_num env 0 (by decide) (by decide)
  have q1 := val_add hm (vn env) (by omega) (by omega)
  have q2 := val_sub q1 (vn env) (by omega) (by omega)
  have q3 := val_mul v1 hm (by omega) (by omega)
  have q4 := val_mul hm v0 (by omega) (by omega)
  have n1 : ∀ n : Int, foretellkeep_num.f n = some (Tm.leaf ⟨1, n⟩).flat := fun n => rfl
  have et := eval_is (vars := 0) (by decide) (env := []) rfl (by simp) (tn 0) (show 1 ≤ 60 by decide)
  rw [vn] at et
  refine Ev.rounds ?_
  unfold foretellkeep_EvalShift.f
  simp only [he, hp, ← hvv, w1, n1, Option.bind_some]
  refine Ev.bind ea ?_
  refine Ev.bind (eval_some hl hv ha.ty (by omega) hm) ?_
  refine Ev.bind (joined2 3 a (.leaf ⟨1, v⟩) (by simp only [Tm.size]; omega)) ?_
  refine Ev.bind (joined2 4 (.bin ⟨3, 0⟩ a (.leaf ⟨1, v⟩)) (.leaf ⟨1, v⟩) (by simp only [Tm.size]; omega)) ?_
  refine Ev.bind (eval_some hl hv (Ty.arith 4 _ _ (.inr (.inl rfl)) (Ty.arith 3 _ _ (.inl rfl) ha.ty (tn 3)) (tn 3)) (by simp only [Tm.size]; omega) q2) ?_
  refine Ev.bind (joined2 5 (.leaf ⟨1, 1⟩) a (by simp only [Tm.size]; omega)) ?_
  refine Ev.bind (eval_some hl hv (Ty.arith 5 _ _ (.inr (.inr rfl)) t1 ha.ty) (by simp only [Tm.size]; omega) q3) ?_
  refine Ev.bind (joined2 5 a (.leaf ⟨1, 0⟩) (by simp only [Tm.size]; omega)) ?_
  refine Ev.bind (eval_some hl hv (Ty.arith 5 _ _ (.inr (.inr rfl)) ha.ty t0) (by simp only [Tm.size]; omega) q4) ?_
  refine Ev.bind et ?_
  simp only [res, Option.elim_some, if_true]
  rw [if_pos (by omega), if_pos (by omega), if_pos (by omega)]
  exact ev_some (by simp)
end Go.Proofs.YtlejdidngmjicaaDoor.Q
