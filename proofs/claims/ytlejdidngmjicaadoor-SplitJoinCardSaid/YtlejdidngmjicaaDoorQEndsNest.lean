/- The plain law of EndsNest. -/
import Derived.Test.YtlejdidngmjicaaDoorLEndsNest
import Derived.Test.YtlejdidngmjicaaDoorQGen
namespace Go.Proofs.YtlejdidngmjicaaDoor.Q
open Go.RowKit Go.Proofs.YtlejdidngmjicaaDoorW.PrintWords Go.Proofs.YtlejdidngmjicaaDoorW.PrintMore Go.Proofs.YtlejdidngmjicaaDoor.P
set_option linter.unusedVariables false
theorem nest : ∀ (t : Tm) (p : Int) (i : Nat) (e : Int), (t.ends p)[i]? = some e → p + i < e ∧ e ≤ p + t.size ∧ ∀ (k : Nat) (e' : Int), i < k → p + k < e → (t.ends p)[k]? = some e' → e' ≤ e := by
  intro t
  induction t with
  | leaf o =>
    intro p i e h
    cases i with
    | zero =>
      simp only [Tm.ends, List.getElem?_cons_zero, Option.some.injEq] at h
      subst h
      exact ⟨by omega, by simp [Tm.size], fun k e' hk hke h => by omega⟩
    | succ i => simp [Tm.ends] at h
  | un o a iha =>
    intro p i e h
    simp only [Tm.ends, Tm.size] at *
    cases i with
    | zero =>
      simp only [List.getElem?_cons_zero, Option.some.injEq] at h
      subst h
      refine ⟨by omega, by omega, fun k e' hk hke h => ?_⟩
      obtain ⟨k, rfl⟩ : ∃ j, k = j + 1 := ⟨k - 1, by omega⟩
      rw [List.getElem?_cons_succ] at h
      have := (iha (p + 1) k e' h).2.1
      omega
    | succ i =>
      rw [List.getElem?_cons_succ] at h
      obtain ⟨h1, h2, h3⟩ := iha (p + 1) i e h
      refine ⟨by omega, by omega, fun k e' hk hke h => ?_⟩
      obtain ⟨k, rfl⟩ : ∃ j, k = j + 1 := ⟨k - 1, by omega⟩
      rw [List.getElem?_cons_succ] at h
      exact h3 k e' (by omega) (by omega) h
  | bin o a b iha ihb =>
    intro p i e h
    have hA := a.ends_len (p + 1)
    simp only [Tm.ends, Tm.size] at *
    have key : ∀ (k : Nat) (e' : Int), (a.ends (p + 1) ++ b.ends (p + 1 + a.size))[k]? = some e' → (k < a.size ∧ (a.ends (p + 1))[k]? = some e') ∨ (a.size ≤ k ∧ (b.ends (p + 1 + a.size))[k - a.size]? = some e') := by
      intro k e' h
      rw [List.getElem?_append, hA] at h
      by_cases c : k < a.size
      · rw [if_pos c] at h
        exact .inl ⟨c, h⟩
      · rw [if_neg c] at h
        exact .inr ⟨by omega, h⟩
    cases i with
    | zero =>
      simp only [List.getElem?_cons_zero, Option.some.injEq] at h
      subst h
      refine ⟨by omega, by omega, fun k e' hk hke h => ?_⟩
      obtain ⟨k, rfl⟩ : ∃ j, k = j + 1 := ⟨k - 1, by omega⟩
      rw [List.getElem?_cons_succ] at h
      rcases key k e' h with ⟨_, h⟩ | ⟨_, h⟩
      · have := (iha _ _ _ h).2.1
        omega
      · have := (ihb _ _ _ h).2.1
        omega
    | succ i =>
      rw [List.getElem?_cons_succ] at h
      rcases key i e h with ⟨hi, h⟩ | ⟨hi, h⟩
      · obtain ⟨h1, h2, h3⟩ := iha _ _ _ h
        refine ⟨by omega, by omega, fun k e' hk hke h => ?_⟩
        obtain ⟨k, rfl⟩ : ∃ j, k = j + 1 := ⟨k - 1, by omega⟩
        rw [List.getElem?_cons_succ] at h
        rcases key k e' h with ⟨_, h⟩ | ⟨hk2, h⟩
        · exact h3 k e' (by omega) (by omega) h
        · omega
      · obtain ⟨h1, h2, h3⟩ := ihb _ _ _ h
        refine ⟨by omega, by omega, fun k e' hk hke h => ?_⟩
        obtain ⟨k, rfl⟩ : ∃ j, k = j + 1 := ⟨k - 1, by omega⟩
        rw [List.getElem?_cons_succ] at h
        rcases key k e' h with ⟨hk2, h⟩ | ⟨hk2, h⟩
        · omega
        · exact h3 (k - a.size) e' (by omega) (by omega) h
theorem ends_head (t : Tm) (p : Int) : (t.ends p)[0]? = some (p + t.size) := by
  cases t with
  | leaf o => simp [Tm.ends, Tm.size]
  | un o a => simp [Tm.ends, Tm.size]; omega
  | bin o a b => simp [Tm.ends, Tm.size]; omega
theorem rd_some {l : List Int} {i : Nat} (h : i < l.length) : l[i]? = some (rd l (i : Int)) := by
  rw [rd_eq h]
  exact List.getElem?_eq_getElem h
theorem EndsNest : P.foretellkeep_EndsNest.Pur := by
  intro raw ⟨hl, hw⟩
  obtain ⟨t, ht, hs, he⟩ := truth_is (raw := raw) hw 3 (by decide)
  have hpos := t.size_pos
  have hfl := t.flat_len
  have hel := t.ends_len 0
  have hends := ends_ok t ht.ok (by omega)
  have hn := nest t 0
  have hh := ends_head t 0
  generalize t.flat = l at *
  generalize t.ends 0 = es at *
  generalize t.size = n at *
  have hr0 : rd es 0 = (n : Int) := by
    have := rd_some (l := es) (i := 0) (by omega)
    rw [hh] at this
    have := Option.some.inj this
    simpa using this.symm
  refine Ev.rounds ?_
  unfold foretellkeep_EndsNest.f
  refine Ev.bind he ?_
  refine Ev.bind hends ?_
  simp only [if_true]
  rw [hfl, hel]
  simp only [if_true, if_neg (show ¬ ((n : Int) = 0) by omega), if_pos (show 0 < (n : Int) by omega), hr0]
  have hl0 : ∀ (d i : Nat), i + d = n → Ev (fun k => foretellkeep_EndsNest.l0 k l es (i : Int)) true := by
    intro d
    induction d with
    | zero =>
      intro i hi
      refine Ev.step (f := fun _ => some true) (fun k => ?_) (Ev.now _)
      simp only [foretellkeep_EndsNest.l0]
      rw [if_neg (by omega)]
    | succ d ih =>
      intro i hi
      obtain ⟨h1, h2, h3⟩ := hn i _ (rd_some (by omega))
      have hl1 : ∀ (d2 q : Nat), (q : Int) + d2 = rd es (i : Int) → i < q → Ev (fun k => foretellkeep_EndsNest.l1 k l es (i : Int) (q : Int)) true := by
        intro d2
        induction d2 with
        | zero =>
          intro q hq hiq
          refine Ev.step (f := fun k => foretellkeep_EndsNest.l0 k l es ((i + 1 : Nat) : Int)) (fun k => ?_) (ih (i + 1) (by omega))
          simp only [foretellkeep_EndsNest.l1]
          rw [if_pos (by omega), if_pos (by omega), if_neg (by omega), w64 (n := (i : Int) + 1) (by omega) (by omega)]
          rfl
        | succ d2 ih2 =>
          intro q hq hiq
          have := h3 q _ hiq (by omega) (rd_some (by omega))
          refine Ev.step (f := fun k => foretellkeep_EndsNest.l1 k l es (i : Int) ((q + 1 : Nat) : Int)) (fun k => ?_) (ih2 (q + 1) (by omega) (by omega))
          simp only [foretellkeep_EndsNest.l1]
          rw [if_pos (by omega), if_pos (by omega), if_pos (by omega), if_pos (by omega), if_pos (by omega), if_neg (by omega), w64 (n := (q : Int) + 1) (by omega) (by omega)]
          rfl
      refine Ev.step (f := fun k => foretellkeep_EndsNest.l1 k l es (i : Int) ((i + 1 : Nat) : Int)) (fun k => ?_) (hl1 (rd es (i : Int) - (i + 1 : Nat)).toNat (i + 1) (by omega) (by omega))
      simp only [foretellkeep_EndsNest.l0]
      rw [if_pos (by omega), if_pos (by omega), if_pos (by omega), if_neg (by omega), w64 (n := (i : Int) + 1) (by omega) (by omega)]
      rfl
  refine Ev.step (f := fun k => foretellkeep_EndsNest.l0 k l es ((0 : Nat) : Int)) (fun k => ?_) (hl0 n 0 (Nat.zero_add _))
  simp only [foretellkeep_EndsNest.j0]
  rw [if_neg (by simp)]
  rfl
end Go.Proofs.YtlejdidngmjicaaDoor.Q
