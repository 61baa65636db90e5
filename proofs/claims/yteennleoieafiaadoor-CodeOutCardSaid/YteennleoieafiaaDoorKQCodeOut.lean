/- The law CodeOut: values out of their bounds are no state; the first state is one. -/
import Derived.Test.YteennleoieafiaaDoorKLCodeOut
import Derived.Test.YteennleoieafiaaDoorK15
namespace Go.Proofs.YteennleoieafiaaDoor.Q
open Go.RowKit Go.Proofs.YteennleoieafiaaDoorW.PrintWords Go.Proofs.YteennleoieafiaaDoorW.PrintMore Go.Proofs.YteennleoieafiaaDoor.P
set_option linter.unusedVariables false
theorem CodeOut : P.foretellkeep_CodeOut.Pur := by
  intro a b c d e f l at_ by_ hw ha hb
  obtain ⟨vs, rs, hm, ho⟩ := own_model hw
  have q0 := pk_lo at_ (m := 2) (by decide)
  have q1 := pk_hi at_ (m := 2) (by decide)
  have p0 := pk_lo by_ (m := 100) (by decide)
  have p1 := pk_hi by_ (m := 100) (by decide)
  have pa := picked_is ha (m := 2) (by decide)
  have pb := picked_is hb (m := 100) (by decide)
  generalize pk at_ 2 = i at *
  generalize pk by_ 100 = n at *
  have hf := frst_rng ho.m.v
  refine Ev.rounds (r := true) ?_
  unfold foretellkeep_CodeOut.f
  have hval : valS vs (frst vs) = vs.map fun v => v.f3 := valS_codeS (init_in ho.m.v)
  have hv := values_is ho.m hf.1 hf.2
  rw [hval] at hv
  refine Ev.bind hm (Ev.bind (first_is ho.m) (Ev.bind hv ?_))
  obtain ⟨x, y, rfl, ox, oy⟩ := ho.two
  have r0 : ∀ s t : Int, rd [s, t] 0 = s := fun _ _ => rfl
  have r1 : ∀ s t : Int, rd [s, t] 1 = t := fun _ _ => rfl
  have v0 : ∀ u v : Vr, rd_T32 [u, v] 0 = u := fun _ _ => rfl
  have v1 : ∀ u v : Vr, rd_T32 [u, v] 1 = v := fun _ _ => rfl
  simp only [List.map_cons, List.map_nil, r0, r1, v0, v1, if_true, List.length_cons, List.length_nil, bne_self_eq_false]
  refine Ev.congr (fun k => by rw [if_pos (by decide), if_pos (by decide), if_pos (by decide), if_pos (by decide), if_pos (by decide)]) ?_
  refine Ev.step (fun k => by rw [foretellkeep_CodeOut.j0, if_neg (by decide)]) ?_
  refine Ev.bind (a := i) (Ev.congr (fun _ => pa) (Ev.now _)) ?_
  simp only [List.length_cons, List.length_nil, if_pos q0, if_pos (show i < ((0 + 1 + 1 : Nat) : Int) by omega)]
  refine Ev.bind (a := n) (Ev.congr (fun _ => pb) (Ev.now _)) ?_
  have bl := ox.lo
  have bh := ox.hi
  have bl' := oy.lo
  have bh' := oy.hi
  have hone : ∀ (z : Int), Ev (fun k => model_Code.f k [x, y] rs [z]) (0, 9) := fun z => code_out ho.m (fun h => by have := inR_len h; simp at this)
  have hi : i = 0 ∨ i = 1 := by omega
  rcases hi with rfl | rfl
  · have w1 : wrap64 (wrap64 (x.f2 + 1) + n) = x.f2 + 1 + n := by rw [w64 (n := x.f2 + 1) (by omega) (by omega)]; exact w64 (by omega) (by omega)
    have w2 : wrap64 (wrap64 (x.f1 - 1) - n) = x.f1 - 1 - n := by rw [w64 (n := x.f1 - 1) (by omega) (by omega)]; exact w64 (by omega) (by omega)
    have h1 : Ev (fun k => model_Code.f k [x, y] rs [x.f2 + 1 + n, y.f3]) (0, 9) := code_out ho.m (fun h => by have := h.2.1; omega)
    have h2 : Ev (fun k => model_Code.f k [x, y] rs [x.f1 - 1 - n, y.f3]) (0, 9) := code_out ho.m (fun h => by have := h.1; omega)
    simp only [Option.bind_some, v0, w1, w2, show (0 : Int).toNat = 0 from rfl, List.set_cons_zero, List.take_succ_cons, List.take_zero]
    refine Ev.bind h1 (Ev.bind (a := n) (Ev.congr (fun _ => pb) (Ev.now _)) ?_)
    simp only [w2]
    refine Ev.bind h2 ?_
    refine Ev.congr (fun k => by rw [if_pos (by decide)]) (Ev.bind (hone _) ?_)
    exact Ev.now _
  · have w1 : wrap64 (wrap64 (y.f2 + 1) + n) = y.f2 + 1 + n := by rw [w64 (n := y.f2 + 1) (by omega) (by omega)]; exact w64 (by omega) (by omega)
    have w2 : wrap64 (wrap64 (y.f1 - 1) - n) = y.f1 - 1 - n := by rw [w64 (n := y.f1 - 1) (by omega) (by omega)]; exact w64 (by omega) (by omega)
    have h1 : Ev (fun k => model_Code.f k [x, y] rs [x.f3, y.f2 + 1 + n]) (0, 9) := code_out ho.m (fun h => by have := h.2.2.2.1; omega)
    have h2 : Ev (fun k => model_Code.f k [x, y] rs [x.f3, y.f1 - 1 - n]) (0, 9) := code_out ho.m (fun h => by have := h.2.2.1; omega)
    simp only [Option.bind_some, v1, w1, w2, show (1 : Int).toNat = 1 from rfl, List.set_cons_succ, List.set_cons_zero, List.take_succ_cons, List.take_zero]
    refine Ev.bind h1 (Ev.bind (a := n) (Ev.congr (fun _ => pb) (Ev.now _)) ?_)
    simp only [w2]
    refine Ev.bind h2 ?_
    refine Ev.congr (fun k => by rw [if_pos (by decide)]) (Ev.bind (hone _) ?_)
    exact Ev.now _
end Go.Proofs.YteennleoieafiaaDoor.Q
