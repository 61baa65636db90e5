/- The law StoreSteady: a key that is there changes nothing. -/
import Derived.Test.YtobgkjdchpokgaaKLStoreSteady
import Derived.Test.YtobgkjdchpokgaaK14
import Derived.Test.YtobgkjdchpokgaaK15
namespace Go.Proofs.Ytobgkjdchpokgaa.Q
open Go.RowKit Go.Proofs.YtobgkjdchpokgaaW.PrintWords Go.Proofs.YtobgkjdchpokgaaW.PrintMore Go.Proofs.Ytobgkjdchpokgaa.P
set_option linter.unusedVariables false

theorem has_bad {lo : List Int} {rn : List (List Int)} (h : Sane lo rn) {n : Int} (hn : n < 0) : Ev (fun k => store_Has.f k lo rn n) (false, 2) := by
  refine Ev.bind (check_is h) ?_
  have e : store_key.f n = some false := by unfold store_key.f; rw [if_neg (by omega)]
  simp only [if_true, e, Option.bind_some, Bool.false_eq_true, if_false]
  exact Ev.now _
theorem StoreSteady : P.foretellkeep_StoreSteady.Pur := by
  intro l0 a1 ⟨hl, hw⟩ ha
  obtain ⟨lo, rn, ks, hs, st⟩ := stocked_is hw
  have hfew := st.few
  have h1 : Ev (fun k => foretellkeep_StoreSteady.f k l0 a1) true := by
    refine Ev.bind hs ?_
    by_cases c : ks.length = 0
    · simp only [if_pos (show (ks.length : Int) = 0 by omega)]
      refine Ev.bind (has_bad st.kept.sane (by omega)) ?_
      simp only [if_true]
      exact Ev.now _
    · have p0 := pk_lo a1 (m := (ks.length : Int)) (by omega)
      have p1 := pk_hi a1 (m := (ks.length : Int)) (by omega)
      obtain ⟨i, hi⟩ : ∃ i : Nat, pk a1 (ks.length : Int) = (i : Int) := ⟨(pk a1 (ks.length : Int)).toNat, by omega⟩
      have hil : i < ks.length := by omega
      have hk := st.key _ (List.getElem_mem hil)
      have hrn := st.kept.sane.runs
      have hf := st.kept.sane.few
      simp only [if_neg (show ¬ (ks.length : Int) = 0 by omega), picked_is (m := (ks.length : Int)) ha (by omega), Option.bind_some, hi, if_pos (show (0 : Int) ≤ (i : Int) by omega), if_pos (show (i : Int) < (ks.length : Int) by omega), rd_eq hil]
      refine Ev.bind (add_old st.kept ⟨hk.1, by omega⟩ (List.getElem_mem hil)) ?_
      simp only [if_true, Bool.false_eq_true, if_false]
      refine Ev.bind (sameInts_is (by omega)) ?_
      simp only [if_true]
      exact Ev.bind (sameLists_is (by omega) (fun r hr => by have := st.kept.sane.run hr; omega)) (Ev.now _)
  obtain ⟨K, h⟩ := h1
  exact ⟨K, h K (Nat.le_refl _)⟩
end Go.Proofs.Ytobgkjdchpokgaa.Q
