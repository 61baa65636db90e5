/- The plain law of EvalTurns: Add, Mul, Eq, And, Or do not care for the order of their parts; Sub and Lt turn. -/
import Derived.Test.YtlejdidngmjicaaDoorLEvalTurns
import Derived.Test.YtlejdidngmjicaaDoorQEval
namespace Go.Proofs.YtlejdidngmjicaaDoor.Q
open Go.RowKit Go.Proofs.YtlejdidngmjicaaDoorW.PrintWords Go.Proofs.YtlejdidngmjicaaDoorW.PrintMore Go.Proofs.YtlejdidngmjicaaDoor.P
set_option linter.unusedVariables false
theorem EvalTurns : P.foretellkeep_EvalTurns.Pur := by
  intro r1 r2 x y z ⟨_, hw1⟩ ⟨_, hw2⟩ ⟨hx, hy, hz⟩
  obtain ⟨a, ha, sa, ea⟩ := number_is (raw := r1) hw1 3 (by decide)
  obtain ⟨b, hb, sb, eb⟩ := number_is (raw := r2) hw2 3 (by decide)
  obtain ⟨env, he, hl, hv⟩ := env_is hx hy hz
  obtain ⟨m, hm, m0, m1⟩ := num_small hl hv ha sa
  obtain ⟨n, hn, n0, n1⟩ := num_small hl hv hb sb
  have ta := ha.ty
  have tb := hb.ty
  have hty : ∀ (o : Int) (s t : Tm), 3 ≤ o → o ≤ 7 → Ty 3 false s → Ty 3 false t → ∃ ty, Ty 3 ty (.bin ⟨o, 0⟩ s t) := by
    intro o s t h0 h1 hs ht
    by_cases c : o ≤ 5
    · exact ⟨false, .arith o s t (by omega) hs ht⟩
    · exact ⟨true, .cmp o s t (by omega) hs ht⟩
  have hev : ∀ (o : Int) (s t : Tm), 3 ≤ o → o ≤ 7 → Ty 3 false s → Ty 3 false t → s.size ≤ 7 → t.size ≤ 7 → Ev (fun k => expr_Eval.f k (Tm.bin ⟨o, 0⟩ s t).flat env) (res ((Tm.bin ⟨o, 0⟩ s t).val env)) := by
    intro o s t h0 h1 hs ht ss st
    obtain ⟨ty, hty⟩ := hty o s t h0 h1 hs ht
    exact eval_is (by decide) hl (wide_env hv) hty (by simp only [Tm.size]; omega)
  have hstep : ∀ (o p q : Int) (e f : Int), 3 ≤ o → o ≤ 7 → res ((Tm.bin ⟨o, 0⟩ a b).val env) = (p, e) → res ((Tm.bin ⟨o, 0⟩ b a).val env) = (q, f) →
      (∀ k, foretellkeep_EvalTurns.j2 (k + 1) a.flat b.flat o p e q f x y z = foretellkeep_EvalTurns.l0 k a.flat b.flat (o + 1) x y z) → Ev (fun k => foretellkeep_EvalTurns.l0 k a.flat b.flat (o + 1) x y z) true → Ev (fun k => foretellkeep_EvalTurns.l0 k a.flat b.flat o x y z) true := by
    intro o p q e f h0 h1 hp hq hj hr
    have e1 := hev o a b h0 h1 ta tb sa sb
    have e2 := hev o b a h0 h1 tb ta sb sa
    rw [hp] at e1
    rw [hq] at e2
    refine Ev.step (f := fun k => (foretellkeep_joined.f k o [a.flat, b.flat]).bind fun t => (expr_Eval.f k t env).bind fun bt => foretellkeep_EvalTurns.j1 k a.flat b.flat o bt.1 bt.2 x y z) (fun k => ?_) ?_
    · simp only [foretellkeep_EvalTurns.l0, he, Option.bind_some]
      rw [if_pos h1]
    refine Ev.bind (joined2 o a b (by omega)) ?_
    refine Ev.bind e1 ?_
    refine Ev.step (f := fun k => (foretellkeep_joined.f k o [b.flat, a.flat]).bind fun t => (expr_Eval.f k t env).bind fun bt => foretellkeep_EvalTurns.j2 k a.flat b.flat o p e bt.1 bt.2 x y z) (fun k => ?_) ?_
    · simp only [foretellkeep_EvalTurns.j1, he, Option.bind_some]
    refine Ev.bind (joined2 o b a (by omega)) ?_
    refine Ev.bind e2 ?_
    exact Ev.step hj hr
  have c3 : wrap64 ((3 : Int) + 1) = 3 + 1 := w64 (by decide) (by decide)
  have c4 : wrap64 ((4 : Int) + 1) = 4 + 1 := w64 (by decide) (by decide)
  have c5 : wrap64 ((5 : Int) + 1) = 5 + 1 := w64 (by decide) (by decide)
  have c6 : wrap64 ((6 : Int) + 1) = 6 + 1 := w64 (by decide) (by decide)
  have c7 : wrap64 ((7 : Int) + 1) = 7 + 1 := w64 (by decide) (by decide)
  have vsub := val_sub hm hm (by omega) (by omega)
  have veq := val_eq hm hm
  have hend : Ev (fun k => foretellkeep_EvalTurns.l0 k a.flat b.flat 8 x y z) true := by
    refine Ev.step (f := fun k => (foretellkeep_joined.f k 4 [a.flat, a.flat]).bind fun t => (expr_Eval.f k t env).bind fun bt => foretellkeep_EvalTurns.j3 k a.flat bt.1 bt.2 x y z) (fun k => ?_) ?_
    · simp only [foretellkeep_EvalTurns.l0, he, Option.bind_some]
      rw [if_neg (by decide)]
    refine Ev.bind (joined2 4 a a (by omega)) ?_
    refine Ev.bind (eval_some hl hv (Ty.arith 4 a a (.inr (.inl rfl)) ta ta) (by simp only [Tm.size]; omega) vsub) ?_
    refine Ev.step (f := fun k => (foretellkeep_joined.f k 6 [a.flat, a.flat]).bind fun t => (expr_Eval.f k t env).bind fun bt => foretellkeep_EvalTurns.j4 k (m - m) 0 bt.1 bt.2) (fun k => ?_) ?_
    · simp only [foretellkeep_EvalTurns.j3, he, Option.bind_some]
    refine Ev.bind (joined2 6 a a (by omega)) ?_
    refine Ev.bind (eval_some hl hv (Ty.cmp 6 a a (.inl rfl) ta ta) (by simp only [Tm.size]; omega) veq) ?_
    refine Ev.step (f := fun _ => some true) (fun k => ?_) (Ev.now _)
    simp only [foretellkeep_EvalTurns.j4, Int.sub_self, if_true]
    rfl
  refine Ev.rounds ?_
  unfold foretellkeep_EvalTurns.f
  refine Ev.bind ea ?_
  refine Ev.bind eb ?_
  -- Add
  refine hstep 3 (m + n) (n + m) 0 0 (by decide) (by decide) (by rw [val_add hm hn (by omega) (by omega)]; rfl) (by rw [val_add hn hm (by omega) (by omega)]; rfl) (fun k => ?_) ?_
  · simp only [foretellkeep_EvalTurns.j2, c3, Int.add_comm n m, if_true]
    rfl
  -- Sub
  refine hstep 4 (m - n) (n - m) 0 0 (by decide) (by decide) (by rw [val_sub hm hn (by omega) (by omega)]; rfl) (by rw [val_sub hn hm (by omega) (by omega)]; rfl) (fun k => ?_) ?_
  · have e : wrap64 (-(n - m)) = m - n := by rw [w64 (n := -(n - m)) (by omega) (by omega)]; omega
    simp only [foretellkeep_EvalTurns.j2, c4, e, if_true]
    rfl
  -- Mul
  have hmul : (Tm.bin ⟨5, 0⟩ b a).val env = (Tm.bin ⟨5, 0⟩ a b).val env := by
    rw [val_bin hn hm, val_bin hm hn, show mach_bin 5 n m = mach_bin 5 m n from congrArg wrap64 (Int.mul_comm n m)]
  obtain ⟨⟨p, e⟩, hpe⟩ : ∃ pe, res ((Tm.bin ⟨5, 0⟩ a b).val env) = pe := ⟨_, rfl⟩
  refine hstep 5 p p e e (by decide) (by decide) hpe (by rw [hmul]; exact hpe) (fun k => ?_) ?_
  · simp only [foretellkeep_EvalTurns.j2, c5, if_true]
    by_cases c : e = 0
    · rw [if_pos c, if_neg (show ¬ (5 : Int) = 4 by decide), if_neg (show ¬ (5 : Int) = 7 by decide)]
    · rw [if_neg c]
  -- Eq
  refine hstep 6 (if m = n then 1 else 0) (if n = m then 1 else 0) 0 0 (by decide) (by decide) (by rw [val_eq hm hn]; rfl) (by rw [val_eq hn hm]; rfl) (fun k => ?_) ?_
  · have e : (if n = m then (1 : Int) else 0) = if m = n then 1 else 0 := by
      by_cases q : m = n
      · rw [if_pos q, if_pos q.symm]
      · rw [if_neg q, if_neg (fun h => q h.symm)]
    simp only [foretellkeep_EvalTurns.j2, c6, e, if_true]
    rfl
  -- Lt
  refine hstep 7 (if m < n then 1 else 0) (if n < m then 1 else 0) 0 0 (by decide) (by decide) (by rw [val_lt hm hn]; rfl) (by rw [val_lt hn hm]; rfl) (fun k => ?_) hend
  · by_cases q : m < n
    · rw [if_pos q, if_neg (by omega)]
      simp only [foretellkeep_EvalTurns.j2, c7]
      rfl
    · rw [if_neg q]
      simp only [foretellkeep_EvalTurns.j2, c7]
      rfl
end Go.Proofs.YtlejdidngmjicaaDoor.Q
