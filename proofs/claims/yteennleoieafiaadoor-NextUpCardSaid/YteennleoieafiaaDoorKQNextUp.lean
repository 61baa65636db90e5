/- The law NextUp: each state has a next one; they rise, and are states. -/
import Derived.Test.YteennleoieafiaaDoorKLNextUp
import Derived.Test.YteennleoieafiaaDoorK21
import Derived.Test.YteennleoieafiaaDoorK24
namespace Go.Proofs.YteennleoieafiaaDoor.Q
open Go.RowKit Go.Proofs.YteennleoieafiaaDoorW.PrintWords Go.Proofs.YteennleoieafiaaDoorW.PrintMore Go.Proofs.YteennleoieafiaaDoor.P
set_option linter.unusedVariables false
theorem up_loop (n : Int) (l : List Int) (vs : List Vr) (rs : List Rl) (hl : l.length ≤ 1000) (hr : ∀ x ∈ l, 0 ≤ x ∧ x < n) (hp : l.Pairwise (· < ·)) (hne : l ≠ []) (hlen : l.length ≤ max rs.length 1) :
    ∀ (d i : Nat), i + d = l.length → Ev (fun k => foretellkeep_NextUp.l0 k n l 0 (i : Int) vs rs) true := by
  have hpos : 0 < l.length := by
    cases l with
    | nil => exact absurd rfl hne
    | cons a l => simp
  intro d
  induction d with
  | zero =>
    intro i hi
    refine Ev.step (f := fun _ => some true) (fun k => ?_) (Ev.now _)
    rw [foretellkeep_NextUp.l0, if_neg (by omega), if_pos rfl, if_pos (by omega), mx_eq, decide_eq_true (by omega)]
  | succ d ih =>
    intro i hi
    have hil : i < l.length := by omega
    have h1 := hr _ (List.getElem_mem hil)
    refine Ev.step (f := fun k => foretellkeep_NextUp.l0 k n l 0 ((i + 1 : Nat) : Int) vs rs) (fun k => ?_) (ih (i + 1) (by omega))
    rw [foretellkeep_NextUp.l0, if_pos (by omega), if_pos (by omega), rd_eq hil, if_neg (by omega), if_neg (by omega), w64 (n := (i : Int) + 1) (by omega) (by omega)]
    by_cases c : (i : Int) > 0
    · obtain ⟨j, rfl⟩ : ∃ j, i = j + 1 := ⟨i - 1, by omega⟩
      have e : wrap64 (((j + 1 : Nat) : Int) - 1) = (j : Int) := by rw [show ((j + 1 : Nat) : Int) - 1 = (j : Int) by omega]; exact w64 (n := (j : Int)) (by omega) (by omega)
      have hlt := List.pairwise_iff_getElem.mp hp j (j + 1) (by omega) hil (by omega)
      rw [if_pos c, e, if_pos (by omega), if_pos (by omega), rd_eq (show j < l.length by omega), if_neg (by omega)]
      rfl
    · rw [if_neg c]
      rfl
theorem NextUp : P.foretellkeep_NextUp.Pur := by
  intro a b c d e f l code hw hcode
  obtain ⟨vs, rs, hm, ho⟩ := own_model hw
  obtain ⟨hp, p0, p1⟩ := pick_code ho hcode
  have hc := ho.cnt
  have hlen := nextS_len (vs := vs) (rs := rs) (pk code (cnt vs))
  have h5 := ho.few
  refine Ev.rounds (r := true) ?_
  unfold foretellkeep_NextUp.f
  refine Ev.bind hm (Ev.bind (count_is ho.m) ?_)
  simp only [if_true, decide_eq_false (show ¬ cnt vs < 1 by omega)]
  refine Ev.step (fun k => by rw [foretellkeep_NextUp.j0, if_neg (by decide)]) ?_
  refine Ev.bind hp (Ev.bind (Next_is ho.m p0 p1) ?_)
  exact up_loop (cnt vs) _ vs rs (by omega) (fun x hx => nextS_rng ho.m p0 p1 hx) (nextS_rise _) (nextS_ne _) hlen _ 0 (Nat.zero_add _)
end Go.Proofs.YteennleoieafiaaDoor.Q
