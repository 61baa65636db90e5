/- What 'joined' makes. -/
import Derived.Test.YtcoaeefmmnohkaaDoorQTerm
import Derived.Test.YtcoaeefmmnohkaaDoorFSpell
namespace Go.Proofs.YtcoaeefmmnohkaaDoor.Q
open Go.RowKit Go.Proofs.YtcoaeefmmnohkaaDoorW.PrintWords Go.Proofs.YtcoaeefmmnohkaaDoorW.PrintMore Go.Proofs.YtcoaeefmmnohkaaDoor.P
set_option linter.unusedVariables false
theorem joined2 (o : Int) (a b : Tm) (h : a.size + b.size ≤ 100000) : Ev (fun k => foretellkeep_joined.f k o [a.flat, b.flat]) (Tm.bin ⟨o, 0⟩ a b).flat := by
  have la := a.flat_len
  have lb := b.flat_len
  unfold foretellkeep_joined.f
  refine Ev.step (f := fun k => foretellkeep_joined.l0 k [a.flat, b.flat] ([⟨o, 0⟩] ++ a.flat) 1) (fun k => ?_) (Ev.step (f := fun k => foretellkeep_joined.l0 k [a.flat, b.flat] ([⟨o, 0⟩] ++ a.flat ++ b.flat) 2) (fun k => ?_) (Ev.step (f := fun _ => some ([⟨o, 0⟩] ++ a.flat ++ b.flat)) (fun k => ?_) (ev_some (by simp [Tm.flat]))))
  · simp only [foretellkeep_joined.l0, show rd_L4 [a.flat, b.flat] 0 = a.flat from rfl, show wrap64 ((0 : Int) + 1) = 1 from w64 (n := (0 : Int) + 1) (by decide) (by decide)]
    rw [if_pos (by simp), if_pos (by decide), if_pos (by simp; omega)]
  · simp only [foretellkeep_joined.l0, show rd_L4 [a.flat, b.flat] 1 = b.flat from rfl, show wrap64 ((1 : Int) + 1) = 2 from w64 (n := (1 : Int) + 1) (by decide) (by decide)]
    rw [if_pos (by simp), if_pos (by decide), if_pos (by simp; omega)]
  · simp only [foretellkeep_joined.l0]
    rw [if_neg (by simp)]
theorem joined1 (o : Int) (a : Tm) (h : a.size ≤ 100000) : Ev (fun k => foretellkeep_joined.f k o [a.flat]) (Tm.un ⟨o, 0⟩ a).flat := by
  have la := a.flat_len
  unfold foretellkeep_joined.f
  refine Ev.step (f := fun k => foretellkeep_joined.l0 k [a.flat] ([⟨o, 0⟩] ++ a.flat) 1) (fun k => ?_) (Ev.step (f := fun _ => some ([⟨o, 0⟩] ++ a.flat)) (fun k => ?_) (ev_some (by simp [Tm.flat])))
  · simp only [foretellkeep_joined.l0, show rd_L4 [a.flat] 0 = a.flat from rfl, show wrap64 ((0 : Int) + 1) = 1 from w64 (n := (0 : Int) + 1) (by decide) (by decide)]
    rw [if_pos (by simp), if_pos (by decide), if_pos (by simp; omega)]
  · simp only [foretellkeep_joined.l0]
    rw [if_neg (by simp)]
end Go.Proofs.YtcoaeefmmnohkaaDoor.Q
