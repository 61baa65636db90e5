/- The plain law of WordDual: Globally is never Not, Release is the turned Until. -/
import Derived.Test.YtcoaeefmmnohkaaDoorLWordDual
import Derived.Test.YtcoaeefmmnohkaaDoorQSpell
namespace Go.Proofs.YtcoaeefmmnohkaaDoor.Q
open Go.RowKit Go.Proofs.YtcoaeefmmnohkaaDoorW.PrintWords Go.Proofs.YtcoaeefmmnohkaaDoorW.PrintMore Go.Proofs.YtcoaeefmmnohkaaDoor.P
set_option linter.unusedVariables false
theorem WordDual : P.foretellkeep_WordDual.Pur := by
  intro x y s0 s1 ⟨_, hx⟩ ⟨_, hy⟩ ⟨⟨_, hs0⟩, ⟨_, hs1⟩⟩
  obtain ⟨stem, loop, z1, z2, z3, z4, ew⟩ := word_is hs0 hs1
  have hw := ok_of (by omega) z2 (by omega) z4
  obtain ⟨f, hf, sf, tf, ef⟩ := form_is (raw := x) hx 2 (by decide) (by decide)
  obtain ⟨g, hg, sg, tg, eg⟩ := form_is (raw := y) hy 2 (by decide) (by decide)
  have n1 : ∀ t : Tm, (Tm.un ⟨10, 0⟩ t).tempo = t.tempo := fun t => by rw [Tm.tempo]; simp
  have n2 : ∀ t : Tm, (Tm.un ⟨17, 0⟩ t).tempo = 1 + t.tempo := fun t => by rw [Tm.tempo]; simp
  have n3 : ∀ t : Tm, (Tm.un ⟨18, 0⟩ t).tempo = 1 + t.tempo := fun t => by rw [Tm.tempo]; simp
  have n4 : ∀ t u : Tm, (Tm.bin ⟨15, 0⟩ t u).tempo = 1 + t.tempo + u.tempo := fun t u => by rw [Tm.tempo]; simp
  have n5 : ∀ t u : Tm, (Tm.bin ⟨16, 0⟩ t u).tempo = 1 + t.tempo + u.tempo := fun t u => by rw [Tm.tempo]; simp
  have n6 : ∀ t u : Tm, (Tm.bin ⟨9, 0⟩ t u).tempo = t.tempo + u.tempo := fun t u => by rw [Tm.tempo]; simp
  have m1 : ∀ (o : Op) (t : Tm), (Tm.un o t).size = t.size + 1 := fun _ _ => rfl
  have m2 : ∀ (o : Op) (t u : Tm), (Tm.bin o t u).size = t.size + u.size + 1 := fun _ _ _ => rfl
  have hnf : FormT 3 (.un ⟨10, 0⟩ f) := .not _ hf
  have hng : FormT 3 (.un ⟨10, 0⟩ g) := .not _ hg
  obtain ⟨a, ea, ia⟩ := holds_is hw (.look 18 _ (.inr (.inr rfl)) hf : FormT 3 _) (by rw [m1]; omega) (by rw [n3]; omega)
  obtain ⟨b, eb, ib⟩ := holds_is hw (.not _ (.look 17 _ (.inr (.inl rfl)) hnf) : FormT 3 _) (by rw [m1, m1, m1]; omega) (by rw [n1, n2, n1]; omega)
  obtain ⟨c, ec, ic⟩ := holds_is hw (.unto 16 _ _ (.inr rfl) hf hg : FormT 3 _) (by rw [m2]; omega) (by rw [n5]; omega)
  obtain ⟨d, ed, id_⟩ := holds_is hw (.not _ (.unto 15 _ _ (.inl rfl) hnf hng) : FormT 3 _) (by rw [m1, m2, m1, m1]; omega) (by rw [n1, n4, n1, n1]; omega)
  obtain ⟨e, ee, ie⟩ := holds_is hw (.log 9 _ _ (.inr rfl) hf hnf : FormT 3 _) (by rw [m2, m1]; omega) (by rw [n6, n1]; omega)
  have jb : b = a := by
    have h1 : a = true ↔ ∀ j, f.says ((uw (stem ++ loop) stem.length 0).from_ j) := ia
    have h2 : b = true ↔ ¬ ∃ j, ¬ f.says ((uw (stem ++ loop) stem.length 0).from_ j) := ib
    refine Bool.eq_iff_iff.mpr (h2.trans (Iff.trans ?_ h1.symm))
    exact ⟨fun h j => Classical.byContradiction fun q => h ⟨j, q⟩, fun h ⟨j, q⟩ => q (h j)⟩
  have jd : d = c := by
    have h1 : c = true ↔ ∀ j, g.says ((uw (stem ++ loop) stem.length 0).from_ j) ∨ ∃ m, m < j ∧ f.says ((uw (stem ++ loop) stem.length 0).from_ m) := ic
    have h2 : d = true ↔ ¬ ∃ j, ¬ g.says ((uw (stem ++ loop) stem.length 0).from_ j) ∧ ∀ m, m < j → ¬ f.says ((uw (stem ++ loop) stem.length 0).from_ m) := id_
    refine Bool.eq_iff_iff.mpr (h2.trans (Iff.trans ?_ h1.symm))
    refine ⟨fun h j => Classical.byContradiction fun q => h ⟨j, fun hg => q (.inl hg), fun m hm hfm => q (.inr ⟨m, hm, hfm⟩)⟩, fun h ⟨j, q1, q2⟩ => ?_⟩
    rcases h j with h | ⟨m, hm, hfm⟩
    · exact q1 h
    · exact q2 m hm hfm
  have je : e = true := by
    have h1 : e = true ↔ f.says (uw (stem ++ loop) stem.length 0) ∨ ¬ f.says (uw (stem ++ loop) stem.length 0) := ie
    exact h1.mpr (Classical.em _)
  subst jb jd je
  refine Ev.rounds ?_
  unfold foretellkeep_WordDual.f
  refine Ev.bind ew ?_
  refine Ev.bind ef ?_
  refine Ev.bind eg ?_
  refine Ev.bind (joined1 18 f (by omega)) ?_
  refine Ev.bind ea ?_
  refine Ev.step (fun k => by rw [foretellkeep_WordDual.j0]) ?_
  refine Ev.bind (joined1 10 f (by omega)) ?_
  refine Ev.bind (joined1 17 _ (by rw [m1]; omega)) ?_
  refine Ev.bind (joined1 10 _ (by rw [m1, m1]; omega)) ?_
  refine Ev.bind eb ?_
  refine Ev.step (fun k => by rw [foretellkeep_WordDual.j1]) ?_
  refine Ev.bind (joined2 16 f g (by omega)) ?_
  refine Ev.bind ec ?_
  refine Ev.step (fun k => by rw [foretellkeep_WordDual.j2]) ?_
  refine Ev.bind (joined1 10 f (by omega)) ?_
  refine Ev.bind (joined1 10 g (by omega)) ?_
  refine Ev.bind (joined2 15 _ _ (by rw [m1, m1]; omega)) ?_
  refine Ev.bind (joined1 10 _ (by rw [m2, m1, m1]; omega)) ?_
  refine Ev.bind ed ?_
  refine Ev.step (fun k => by rw [foretellkeep_WordDual.j3]) ?_
  refine Ev.bind (joined1 10 f (by omega)) ?_
  refine Ev.bind (joined2 9 f _ (by rw [m1]; omega)) ?_
  refine Ev.bind ee ?_
  refine Ev.step (fun k => by rw [foretellkeep_WordDual.j4]) ?_
  refine ev_some' ?_
  cases b <;> cases d <;> rfl
end Go.Proofs.YtcoaeefmmnohkaaDoor.Q
