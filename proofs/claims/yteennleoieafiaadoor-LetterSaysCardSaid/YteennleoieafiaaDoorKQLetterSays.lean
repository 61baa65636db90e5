/- The law LetterSays: a letter says what the values say. -/
import Derived.Test.YteennleoieafiaaDoorKLLetterSays
import Derived.Test.YteennleoieafiaaDoorK15
import Derived.Test.YteennleoieafiaaDoorK23
namespace Go.Proofs.YteennleoieafiaaDoor.Q
open Go.RowKit Go.Proofs.YteennleoieafiaaDoorW.PrintWords Go.Proofs.YteennleoieafiaaDoorW.PrintMore Go.Proofs.YteennleoieafiaaDoor.P
set_option linter.unusedVariables false
theorem LetterSays : P.foretellkeep_LetterSays.Pur := by
  intro a b c d e f l code hw hcode
  obtain ⟨vs, rs, hm, ho⟩ := own_model hw
  obtain ⟨hp, p0, p1⟩ := pick_code ho hcode
  have hc := ho.cnt
  have hv := values_is ho.m p0 p1
  have hl := letter_is ho.m (ps := ownProps) (by rw [ho.len]; exact ownProps_ok) p0 p1
  refine Ev.rounds (r := true) ?_
  unfold foretellkeep_LetterSays.f
  refine Ev.bind hm (Ev.bind (count_is ho.m) ?_)
  simp only [if_true, decide_eq_false (show ¬ cnt vs < 1 by omega)]
  refine Ev.step (fun k => by rw [foretellkeep_LetterSays.j0, if_neg (by decide)]) ?_
  refine Ev.bind hp (Ev.bind hv (Ev.bind props_is (Ev.bind hl ?_)))
  have hin := valS_in (l := vs) (pk code (cnt vs)) ho.m.v.le
  have hw2 := in_wide ho.m.v hin
  have hlen : (valS vs (pk code (cnt vs))).length = 2 := by rw [valS_len, ho.len]
  generalize valS vs (pk code (cnt vs)) = env at *
  match env, hlen, hw2 with
  | [x, y], _, hw2 =>
    have hx := hw2 x (by simp)
    have hy := hw2 y (by simp)
    rw [ownProps_tr hx hy]
    have r0 : ∀ s t : Int, rd [s, t] 0 = s := fun _ _ => rfl
    have r1 : ∀ s t : Int, rd [s, t] 1 = t := fun _ _ => rfl
    have b0 : ∀ s t u : Bool, rdOf false [s, t, u] 0 = s := fun _ _ _ => rfl
    have b1 : ∀ s t u : Bool, rdOf false [s, t, u] 1 = t := fun _ _ _ => rfl
    have b2 : ∀ s t u : Bool, rdOf false [s, t, u] 2 = u := fun _ _ _ => rfl
    simp only [r0, r1, b0, b1, b2, List.length_cons, List.length_nil, if_true, beq_self_eq_true]
    exact Ev.congr (fun k => by rw [if_pos (by decide), if_pos (by decide), if_pos (by decide), if_pos (by decide), if_pos (by decide), if_pos (by decide), if_pos (by decide)]) (Ev.now _)
end Go.Proofs.YteennleoieafiaaDoor.Q
