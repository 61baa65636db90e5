/- The law CodeBack: states and codes are one to one. -/
import Derived.Test.YteennleoieafiaaDoorKLCodeBack
import Derived.Test.YteennleoieafiaaDoorK6
namespace Go.Proofs.YteennleoieafiaaDoor.Q
open Go.RowKit Go.Proofs.YteennleoieafiaaDoorW.PrintWords Go.Proofs.YteennleoieafiaaDoorW.PrintMore Go.Proofs.YteennleoieafiaaDoor.P
set_option linter.unusedVariables false
theorem CodeBack : P.foretellkeep_CodeBack.Pur := by
  intro a b c d e f l code hw hcode
  obtain ⟨vs, rs, hm, ho⟩ := own_model hw
  obtain ⟨hp, p0, p1⟩ := pick_code ho hcode
  have hc := ho.cnt
  have hin := valS_in (l := vs) (pk code (cnt vs)) ho.m.v.le
  have hlen : (valS vs (pk code (cnt vs))).length = 2 := by rw [valS_len, ho.len]
  refine Ev.rounds (r := true) ?_
  unfold foretellkeep_CodeBack.f
  refine Ev.bind hm (Ev.bind (count_is ho.m) ?_)
  simp only [if_true, decide_eq_false (show ¬ cnt vs < 1 by omega)]
  refine Ev.step (fun k => by rw [foretellkeep_CodeBack.j0, if_neg (by decide)]) ?_
  refine Ev.bind hp (Ev.bind (values_is ho.m p0 p1) (Ev.bind (code_is ho.m hin) (Ev.bind (values_out ho.m (.inr (Int.le_refl _))) ?_)))
  simp only [if_true, codeS_valS ho.m.v.le p0 p1, hlen]
  refine Ev.congr (fun k => by rw [if_pos (by decide)]) (Ev.bind (model_good ho.m) (Ev.now _))
end Go.Proofs.YteennleoieafiaaDoor.Q
