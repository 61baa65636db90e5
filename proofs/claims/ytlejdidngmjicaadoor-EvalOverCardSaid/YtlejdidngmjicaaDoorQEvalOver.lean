/- The plain law of EvalOver: a number too great is refused wherever it comes of, though nothing is made of it. -/
import Derived.Test.YtlejdidngmjicaaDoorLEvalOver
import Derived.Test.YtlejdidngmjicaaDoorQEval
namespace Go.Proofs.YtlejdidngmjicaaDoor.Q
open Go.RowKit Go.Proofs.YtlejdidngmjicaaDoorW.PrintWords Go.Proofs.YtlejdidngmjicaaDoorW.PrintMore Go.Proofs.YtlejdidngmjicaaDoor.P
set_option linter.unusedVariables false
theorem EvalOver : P.foretellkeep_EvalOver.Pur := by
  intro raw x y z ⟨_, hw⟩ ⟨hx, hy, hz⟩
  obtain ⟨t, ht, st, et⟩ := truth_is (raw := raw) hw 3 (by decide)
  obtain ⟨env, he, hl, hv⟩ := env_is hx hy hz
  obtain ⟨n, hn, hb⟩ := truth_val hl hv ht
  have tk : Ty 3 false (.leaf ⟨1, 1000⟩) := .num 1000 (by decide) (by decide)
  have t2 : Ty 3 false (.leaf ⟨1, 2⟩) := .num 2 (by decide) (by decide)
  have vk : (Tm.leaf ⟨1, 1000⟩).val env = some 1000 := val_num env 1000 (by decide) (by decide)
  have v2 : (Tm.leaf ⟨1, 2⟩).val env = some 2 := val_num env 2 (by decide) (by decide)
  have tm := Ty.arith 5 _ _ (.inr (.inr rfl)) tk tk
  have vm := val_mul vk vk (by decide) (by decide)
  have tb := Ty.arith 5 _ _ (.inr (.inr rfl)) tm t2
  have vb : (Tm.bin ⟨5, 0⟩ (Tm.bin ⟨5, 0⟩ (.leaf ⟨1, 1000⟩) (.leaf ⟨1, 1000⟩)) (.leaf ⟨1, 2⟩)).val env = none := by
    rw [val_bin vm v2, show mach_bin 5 (1000 * 1000) 2 = 2000000 from w64 (n := 2000000) (by decide) (by decide)]
    unfold lim
    exact if_pos (.inr (by decide))
  have sb : (Tm.bin ⟨5, 0⟩ (Tm.bin ⟨5, 0⟩ (.leaf ⟨1, 1000⟩) (.leaf ⟨1, 1000⟩)) (.leaf ⟨1, 2⟩)).size = 5 := rfl
  have jk := joined2 5 (.leaf ⟨1, 1000⟩) (.leaf ⟨1, 1000⟩) (by decide)
  have jb := joined2 5 (Tm.bin ⟨5, 0⟩ (.leaf ⟨1, 1000⟩) (.leaf ⟨1, 1000⟩)) (.leaf ⟨1, 2⟩) (by decide)
  generalize Tm.bin ⟨5, 0⟩ (Tm.bin ⟨5, 0⟩ (.leaf ⟨1, 1000⟩) (.leaf ⟨1, 1000⟩)) (.leaf ⟨1, 2⟩) = big at *
  have tl := Ty.cmp 7 big big (.inr rfl) tb tb
  have vl : (Tm.bin ⟨7, 0⟩ big big).val env = none := by simp only [Tm.val, vb, Option.bind_none]
  have v1 : (Tm.bin ⟨9, 0⟩ t (Tm.bin ⟨7, 0⟩ big big)).val env = none := by rw [Tm.val, vl]; rfl
  have v3 : (Tm.bin ⟨9, 0⟩ (Tm.bin ⟨7, 0⟩ big big) t).val env = none := by rw [Tm.val, hn, Option.bind_some, vl]; rfl
  refine Ev.rounds ?_
  unfold foretellkeep_EvalOver.f
  simp only [he, Option.bind_some]
  refine Ev.bind et ?_
  refine Ev.bind jk ?_
  refine Ev.bind jb ?_
  refine Ev.bind (joined2 7 big big (by omega)) ?_
  refine Ev.bind (joined2 9 t (Tm.bin ⟨7, 0⟩ big big) (by simp only [Tm.size]; omega)) ?_
  refine Ev.bind (eval_none hl hv (Ty.log 9 _ _ (.inr rfl) ht.ty tl) (by simp only [Tm.size]; omega) v1) ?_
  refine Ev.bind (joined2 7 big big (by omega)) ?_
  refine Ev.bind (joined2 9 (Tm.bin ⟨7, 0⟩ big big) t (by simp only [Tm.size]; omega)) ?_
  refine Ev.bind (eval_none hl hv (Ty.log 9 _ _ (.inr rfl) tl ht.ty) (by simp only [Tm.size]; omega) v3) ?_
  refine Ev.bind (eval_some hl hv ht.ty (by omega) hn) ?_
  exact Ev.now _
end Go.Proofs.YtlejdidngmjicaaDoor.Q
