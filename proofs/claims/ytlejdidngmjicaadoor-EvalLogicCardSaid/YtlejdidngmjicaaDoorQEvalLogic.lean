/- The plain law of EvalLogic: Not And is Or of Nots; and the other way round. -/
import Derived.Test.YtlejdidngmjicaaDoorLEvalLogic
import Derived.Test.YtlejdidngmjicaaDoorQEval
namespace Go.Proofs.YtlejdidngmjicaaDoor.Q
open Go.RowKit Go.Proofs.YtlejdidngmjicaaDoorW.PrintWords Go.Proofs.YtlejdidngmjicaaDoorW.PrintMore Go.Proofs.YtlejdidngmjicaaDoor.P
set_option linter.unusedVariables false
theorem EvalLogic : P.foretellkeep_EvalLogic.Pur := by
  intro r1 r2 x y z ⟨_, hw1⟩ ⟨_, hw2⟩ ⟨hx, hy, hz⟩
  obtain ⟨a, ha, sa, ea⟩ := truth_is (raw := r1) hw1 3 (by decide)
  obtain ⟨b, hb, sb, eb⟩ := truth_is (raw := r2) hw2 3 (by decide)
  obtain ⟨env, he, hl, hv⟩ := env_is hx hy hz
  obtain ⟨m, hm, bm⟩ := truth_val hl hv ha
  obtain ⟨n, hn, bn⟩ := truth_val hl hv hb
  obtain ⟨vab, bab⟩ := val_and hm hn bm bn
  obtain ⟨vnab, bnab⟩ := val_not vab bab
  obtain ⟨vna, bna⟩ := val_not hm bm
  obtain ⟨vnb, bnb⟩ := val_not hn bn
  obtain ⟨vq, bq⟩ := val_or vna vnb bna bnb
  obtain ⟨vr, br⟩ := val_or hm hn bm bn
  obtain ⟨vs1, bs1⟩ := val_and vna vnb bna bnb
  obtain ⟨vs, bs⟩ := val_not vs1 bs1
  obtain ⟨vt, bt⟩ := val_or hm vna bm bna
  have ta := ha.ty
  have tb := hb.ty
  have tab := Ty.log 8 _ _ (.inl rfl) ta tb
  have tna := Ty.not _ ta
  have tnb := Ty.not _ tb
  have j1 : ∀ r, Ev (fun k => foretellkeep_EvalLogic.j0 k a.flat b.flat (1 - m * n) 0 x y z) r → Ev (fun k => foretellkeep_EvalLogic.f k r1 r2 x y z) r := by
    intro r hr
    unfold foretellkeep_EvalLogic.f
    simp only [he, Option.bind_some]
    refine Ev.bind ea ?_
    refine Ev.bind eb ?_
    refine Ev.bind (joined2 8 a b (by omega)) ?_
    refine Ev.bind (joined1 10 _ (by simp only [Tm.size]; omega)) ?_
    exact Ev.bind (eval_some hl hv (Ty.not _ tab) (by simp only [Tm.size]; omega) vnab) hr
  refine Ev.rounds (j1 true ?_)
  refine Ev.step (f := fun k => (foretellkeep_joined.f k 10 [a.flat]).bind fun p => (foretellkeep_joined.f k 10 [b.flat]).bind fun q => (foretellkeep_joined.f k 9 [p, q]).bind fun s => (expr_Eval.f k s env).bind fun bt => foretellkeep_EvalLogic.j1 k a.flat b.flat (1 - m * n) 0 bt.1 bt.2 x y z) (fun k => ?_) ?_
  · simp only [foretellkeep_EvalLogic.j0, he, Option.bind_some]
  refine Ev.bind (joined1 10 a (by omega)) ?_
  refine Ev.bind (joined1 10 b (by omega)) ?_
  refine Ev.bind (joined2 9 (.un ⟨10, 0⟩ a) (.un ⟨10, 0⟩ b) (by simp only [Tm.size]; omega)) ?_
  refine Ev.bind (eval_some hl hv (Ty.log 9 _ _ (.inr rfl) tna tnb) (by simp only [Tm.size]; omega) vq) ?_
  refine Ev.step (f := fun k => (foretellkeep_joined.f k 9 [a.flat, b.flat]).bind fun s => (expr_Eval.f k s env).bind fun bt => foretellkeep_EvalLogic.j2 k a.flat b.flat (1 - m * n) 0 (1 - m + (1 - n) - (1 - m) * (1 - n)) 0 bt.1 bt.2 x y z) (fun k => ?_) ?_
  · simp only [foretellkeep_EvalLogic.j1, he, Option.bind_some]
  refine Ev.bind (joined2 9 a b (by omega)) ?_
  refine Ev.bind (eval_some hl hv (Ty.log 9 _ _ (.inr rfl) ta tb) (by simp only [Tm.size]; omega) vr) ?_
  refine Ev.step (f := fun k => (foretellkeep_joined.f k 10 [a.flat]).bind fun p => (foretellkeep_joined.f k 10 [b.flat]).bind fun q => (foretellkeep_joined.f k 8 [p, q]).bind fun s => (foretellkeep_joined.f k 10 [s]).bind fun s2 => (expr_Eval.f k s2 env).bind fun bt => foretellkeep_EvalLogic.j3 k a.flat (1 - m * n) 0 (1 - m + (1 - n) - (1 - m) * (1 - n)) 0 (m + n - m * n) 0 bt.1 bt.2 x y z) (fun k => ?_) ?_
  · simp only [foretellkeep_EvalLogic.j2, he, Option.bind_some]
  refine Ev.bind (joined1 10 a (by omega)) ?_
  refine Ev.bind (joined1 10 b (by omega)) ?_
  refine Ev.bind (joined2 8 (.un ⟨10, 0⟩ a) (.un ⟨10, 0⟩ b) (by simp only [Tm.size]; omega)) ?_
  refine Ev.bind (joined1 10 _ (by simp only [Tm.size]; omega)) ?_
  refine Ev.bind (eval_some hl hv (Ty.not _ (Ty.log 8 _ _ (.inl rfl) tna tnb)) (by simp only [Tm.size]; omega) vs) ?_
  refine Ev.step (f := fun k => (foretellkeep_joined.f k 10 [a.flat]).bind fun p => (foretellkeep_joined.f k 9 [a.flat, p]).bind fun s => (expr_Eval.f k s env).bind fun bt => foretellkeep_EvalLogic.j4 k (1 - m * n) 0 (1 - m + (1 - n) - (1 - m) * (1 - n)) 0 (m + n - m * n) 0 (1 - (1 - m) * (1 - n)) 0 bt.1 bt.2) (fun k => ?_) ?_
  · simp only [foretellkeep_EvalLogic.j3, he, Option.bind_some]
  refine Ev.bind (joined1 10 a (by omega)) ?_
  refine Ev.bind (joined2 9 a (.un ⟨10, 0⟩ a) (by simp only [Tm.size]; omega)) ?_
  refine Ev.bind (eval_some hl hv (Ty.log 9 _ _ (.inr rfl) ta tna) (by simp only [Tm.size]; omega) vt) ?_
  refine Ev.step (f := fun _ => some true) (fun k => ?_) (Ev.now _)
  rcases bm with rfl | rfl <;> rcases bn with rfl | rfl <;> rfl
end Go.Proofs.YtlejdidngmjicaaDoor.Q
