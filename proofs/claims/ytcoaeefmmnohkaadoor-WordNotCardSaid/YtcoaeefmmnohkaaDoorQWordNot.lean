/- The plain law of WordNot: a formula or its Not holds, never both; And and Or are what they are. -/
import Derived.Test.YtcoaeefmmnohkaaDoorLWordNot
import Derived.Test.YtcoaeefmmnohkaaDoorQSpell
namespace Go.Proofs.YtcoaeefmmnohkaaDoor.Q
open Go.RowKit Go.Proofs.YtcoaeefmmnohkaaDoorW.PrintWords Go.Proofs.YtcoaeefmmnohkaaDoorW.PrintMore Go.Proofs.YtcoaeefmmnohkaaDoor.P
set_option linter.unusedVariables false
theorem WordNot : P.foretellkeep_WordNot.Pur := by
  intro x y s0 s1 ⟨_, hx⟩ ⟨_, hy⟩ ⟨⟨_, hs0⟩, ⟨_, hs1⟩⟩
  obtain ⟨stem, loop, z1, z2, z3, z4, ew⟩ := word_is hs0 hs1
  have hw := ok_of (by omega) z2 (by omega) z4
  obtain ⟨f, hf, sf, tf, ef⟩ := form_is (raw := x) hx 3 (by decide) (by decide)
  obtain ⟨g, hg, sg, tg, eg⟩ := form_is (raw := y) hy 3 (by decide) (by decide)
  have tn : (Tm.un ⟨10, 0⟩ f).tempo = f.tempo := by rw [Tm.tempo]; simp
  have ta : (Tm.bin ⟨8, 0⟩ f g).tempo = f.tempo + g.tempo := by rw [Tm.tempo]; simp
  have tor : (Tm.bin ⟨9, 0⟩ f g).tempo = f.tempo + g.tempo := by rw [Tm.tempo]; simp
  have sn : (Tm.un ⟨10, 0⟩ f).size = f.size + 1 := rfl
  have sa : (Tm.bin ⟨8, 0⟩ f g).size = f.size + g.size + 1 := rfl
  have so : (Tm.bin ⟨9, 0⟩ f g).size = f.size + g.size + 1 := rfl
  obtain ⟨a, ea, ia⟩ := holds_is hw hf (by omega) (by omega)
  obtain ⟨b, eb, ib⟩ := holds_is hw (.not _ hf : FormT 3 _) (by omega) (by omega)
  obtain ⟨c, ec, ic⟩ := holds_is hw hg (by omega) (by omega)
  obtain ⟨d, ed, id_⟩ := holds_is hw (.log 8 _ _ (.inl rfl) hf hg : FormT 3 _) (by omega) (by omega)
  obtain ⟨e, ee, ie⟩ := holds_is hw (.log 9 _ _ (.inr rfl) hf hg : FormT 3 _) (by omega) (by omega)
  have jb : b = !a := by
    have h : b = true ↔ ¬ f.says (uw (stem ++ loop) stem.length 0) := ib
    rw [← ia] at h
    clear ia ib ic id_ ie
    cases a <;> cases b <;> first | rfl | exact absurd h (by decide)
  have jd : d = (a && c) := by
    have h : d = true ↔ f.says (uw (stem ++ loop) stem.length 0) ∧ g.says (uw (stem ++ loop) stem.length 0) := id_
    rw [← ia, ← ic, ← Bool.and_eq_true] at h
    exact Bool.eq_iff_iff.mpr h
  have je : e = (a || c) := by
    have h : e = true ↔ f.says (uw (stem ++ loop) stem.length 0) ∨ g.says (uw (stem ++ loop) stem.length 0) := ie
    rw [← ia, ← ic, ← Bool.or_eq_true] at h
    exact Bool.eq_iff_iff.mpr h
  refine Ev.rounds ?_
  unfold foretellkeep_WordNot.f
  refine Ev.bind ew ?_
  refine Ev.bind ef ?_
  refine Ev.bind eg ?_
  refine Ev.bind ea ?_
  refine Ev.bind (joined1 10 f (by omega)) ?_
  refine Ev.bind eb ?_
  refine Ev.bind ec ?_
  refine Ev.bind (joined2 8 f g (by omega)) ?_
  refine Ev.bind ed ?_
  refine Ev.bind (joined2 9 f g (by omega)) ?_
  refine Ev.bind ee ?_
  refine ev_some' ?_
  subst jb jd je
  cases a <;> cases c <;> rfl
end Go.Proofs.YtcoaeefmmnohkaaDoor.Q
