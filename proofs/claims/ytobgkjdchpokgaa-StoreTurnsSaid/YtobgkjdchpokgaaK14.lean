-- PACKED by pack.py of this repo: QStock
import Derived.Test.YtobgkjdchpokgaaK13
import Derived.Test.YtobgkjdchpokgaaK9
section
namespace Go.Proofs.Ytobgkjdchpokgaa.Q
open Go.RowKit Go.Proofs.YtobgkjdchpokgaaW.PrintWords Go.Proofs.YtobgkjdchpokgaaW.PrintMore Go.Proofs.Ytobgkjdchpokgaa.P
set_option linter.unusedVariables false
structure Stock (l : List Int) (lo : List Int) (rn : List (List Int)) (ks : List Int) : Prop where
  kept : Kept lo rn ks
  key : ∀ x ∈ ks, 0 ≤ x ∧ x < 500
  few : ks.length ≤ 100
  none : ks = [] ↔ l = []
theorem stock_l0 {l : List Int} (hw : ∀ x ∈ l, (Lit.int .i64 x).wf = true) : ∀ (d i : Nat) (ks lo : List Int) (rn : List (List Int)), i + d = min l.length 100 → Kept lo rn ks → (∀ x ∈ ks, 0 ≤ x ∧ x < 500) → ks.length ≤ i → (ks = [] ↔ i = 0) →
    ∃ lo' rn' ks', Ev (fun k => foretellkeep_stocked.l0 k l ks (i : Int) lo rn) (lo', rn', ks', true) ∧ Stock l lo' rn' ks' := by
  intro d
  induction d with
  | zero =>
    intro i ks lo rn hi hk hx hl he
    refine ⟨lo, rn, ks, ?_, hk, hx, by omega, he.trans ⟨fun h => List.eq_nil_of_length_eq_zero (by omega), fun h => by rw [h] at hi; simp at hi; exact hi⟩⟩
    have h1 : Ev (fun k => foretellkeep_stocked.j1 k l ks (i : Int) false lo rn) (lo, rn, ks, true) := by
      refine Ev.step (f := fun k => (store_Check.f k lo rn).bind fun t299 => (some (lo, rn, ks, (t299 == 0)))) (fun k => ?_) (Ev.bind (check_is hk.sane) (Ev.now _))
      rw [foretellkeep_stocked.j1, if_neg (by decide)]
    refine Ev.step (fun k => ?_) h1
    rw [foretellkeep_stocked.l0]
    by_cases c : (i : Int) < (l.length : Int)
    · rw [if_pos c, decide_eq_false (by omega)]
    · rw [if_neg c]
  | succ d ih =>
    intro i ks lo rn hi hk hx hl he
    have hil : i < l.length := by omega
    obtain ⟨v, hv⟩ : ∃ v, v = pk l[i] 500 := ⟨_, rfl⟩
    have v0 : 0 ≤ v := by rw [hv]; exact pk_lo _ (by decide)
    have v1 : v < 500 := by rw [hv]; exact pk_hi _ (by decide)
    have hp := picked_is (m := 500) (hw l[i] (List.getElem_mem hil)) (by decide)
    rw [← hv] at hp
    have hko : keyOk v := ⟨v0, by omega⟩
    have w1 : wrap64 ((i : Int) + 1) = ((i + 1 : Nat) : Int) := w64 (by omega) (by omega)
    have hhas := hasx_is ks v (by omega)
    by_cases hm : v ∈ ks
    · obtain ⟨lo', rn', ks', h1, h2⟩ := ih (i + 1) ks lo rn (by omega) hk hx (by omega) ⟨fun h => (List.not_mem_nil (h ▸ hm)).elim, fun h => by omega⟩
      refine ⟨lo', rn', ks', ?_, h2⟩
      rw [decide_eq_true hm] at hhas
      have g1 : Ev (fun k => foretellkeep_stocked.j2 k l ks (i : Int) v false (false == true) lo rn lo rn) (lo', rn', ks', true) := by
        refine Ev.step (fun k => ?_) h1
        rw [foretellkeep_stocked.j2, if_neg (by decide), if_neg (by decide), w1]
      have g2 : Ev (fun k => foretellkeep_stocked.j1 k l ks (i : Int) true lo rn) (lo', rn', ks', true) := by
        refine Ev.step (f := fun k => (store_Add.f k lo rn v).bind fun bt302 => (if bt302.2.2.2 = 0 then ((foretellkeep_has.f k ks v).bind fun t311 => (foretellkeep_stocked.j2 k l ks (i : Int) v bt302.2.2.1 (bt302.2.2.1 == t311) lo rn bt302.1 bt302.2.1)) else (foretellkeep_stocked.j2 k l ks (i : Int) v bt302.2.2.1 true lo rn bt302.1 bt302.2.1))) (fun k => ?_) (Ev.bind (add_old hk hko hm) ?_)
        · rw [foretellkeep_stocked.j1, if_pos rfl, if_pos (by omega), if_pos (by omega), rd_eq hil, hp, Option.bind_some]
        · simp only [if_true]
          exact Ev.bind hhas g1
      refine Ev.step (fun k => ?_) g2
      rw [foretellkeep_stocked.l0, if_pos (by omega), decide_eq_true (by omega)]
    · obtain ⟨lo1, rn1, ha, hk1⟩ := add_new hk hko hm (by omega)
      obtain ⟨lo', rn', ks', h1, h2⟩ := ih (i + 1) (ks ++ [v]) lo1 rn1 (by omega) hk1 (fun x hx' => by
        rcases List.mem_append.mp hx' with hx' | hx'
        · exact hx x hx'
        · rw [List.mem_singleton.mp hx']; exact ⟨v0, v1⟩) (by rw [List.length_append, List.length_singleton]; omega) ⟨fun h => by simp at h, fun h => by omega⟩
      refine ⟨lo', rn', ks', ?_, h2⟩
      rw [decide_eq_false hm] at hhas
      have g1 : Ev (fun k => foretellkeep_stocked.j2 k l ks (i : Int) v true (true == false) lo rn lo1 rn1) (lo', rn', ks', true) := by
        refine Ev.step (fun k => ?_) h1
        rw [foretellkeep_stocked.j2, if_neg (by decide), if_pos rfl, if_pos (by omega), w1]
      have g2 : Ev (fun k => foretellkeep_stocked.j1 k l ks (i : Int) true lo rn) (lo', rn', ks', true) := by
        refine Ev.step (f := fun k => (store_Add.f k lo rn v).bind fun bt302 => (if bt302.2.2.2 = 0 then ((foretellkeep_has.f k ks v).bind fun t311 => (foretellkeep_stocked.j2 k l ks (i : Int) v bt302.2.2.1 (bt302.2.2.1 == t311) lo rn bt302.1 bt302.2.1)) else (foretellkeep_stocked.j2 k l ks (i : Int) v bt302.2.2.1 true lo rn bt302.1 bt302.2.1))) (fun k => ?_) (Ev.bind ha ?_)
        · rw [foretellkeep_stocked.j1, if_pos rfl, if_pos (by omega), if_pos (by omega), rd_eq hil, hp, Option.bind_some]
        · simp only [if_true]
          exact Ev.bind hhas g1
      refine Ev.step (fun k => ?_) g2
      rw [foretellkeep_stocked.l0, if_pos (by omega), decide_eq_true (by omega)]
theorem stocked_is {l : List Int} (hw : ∀ x ∈ l, (Lit.int .i64 x).wf = true) : ∃ lo rn ks, Ev (fun k => foretellkeep_stocked.f k l) (lo, rn, ks, true) ∧ Stock l lo rn ks :=
  stock_l0 hw (min l.length 100) 0 [] [] [] (Nat.zero_add _) kept_nil (fun x hx => by cases hx) (Nat.le_refl _) ⟨fun _ => rfl, fun _ => rfl⟩
end Go.Proofs.Ytobgkjdchpokgaa.Q
end
