/- The law NextAfter: what comes next is what comes behind the rules, or the state itself where none can be done. -/
import Derived.Test.YteennleoieafiaaDoorKLNextAfter
import Derived.Test.YteennleoieafiaaDoorK21
import Derived.Test.YteennleoieafiaaDoorK24
import Derived.Test.YteennleoieafiaaDoorK26
namespace Go.Proofs.YteennleoieafiaaDoor.Q
open Go.RowKit Go.Proofs.YteennleoieafiaaDoorW.PrintWords Go.Proofs.YteennleoieafiaaDoorW.PrintMore Go.Proofs.YteennleoieafiaaDoor.P
set_option linter.unusedVariables false
theorem na_loop2 (l m : List Int) (hl : l.length ≤ 1000) (hm : m.length ≤ 1000) (h : ∀ x ∈ l, x ∈ m) : ∀ (d i : Nat), i + d = l.length → Ev (fun k => foretellkeep_NextAfter.l2 k l 0 m (i : Int)) true := by
  intro d
  induction d with
  | zero =>
    intro i hi
    refine Ev.step (f := fun _ => some true) (fun k => ?_) (Ev.now _)
    rw [foretellkeep_NextAfter.l2, if_neg (by omega)]
    rfl
  | succ d ih =>
    intro i hi
    have hil : i < l.length := by omega
    have hh := has_is m l[i] (by omega)
    rw [decide_eq_true (h _ (List.getElem_mem hil))] at hh
    refine Ev.step (f := fun k => (foretellkeep_has.f k m l[i]).bind fun t => if t = true then foretellkeep_NextAfter.l2 k l 0 m ((i + 1 : Nat) : Int) else some false) (fun k => ?_) (Ev.bind hh ?_)
    · rw [foretellkeep_NextAfter.l2, if_pos (by omega), if_pos (by omega), rd_eq hil, w64 (n := (i : Int) + 1) (by omega) (by omega)]
      rfl
    · simp only [if_true]
      exact ih (i + 1) (by omega)
theorem na_loop1 (l m : List Int) (hl : l.length ≤ 1000) (hm : m.length ≤ 1000) (h : ∀ x ∈ m, x ∈ l) (h2 : ∀ x ∈ l, x ∈ m) : ∀ (d i : Nat), i + d = m.length → Ev (fun k => foretellkeep_NextAfter.l1 k l 0 m (i : Int)) true := by
  intro d
  induction d with
  | zero =>
    intro i hi
    refine Ev.step (f := fun k => foretellkeep_NextAfter.l2 k l 0 m ((0 : Nat) : Int)) (fun k => ?_) (na_loop2 l m hl hm h2 l.length 0 (Nat.zero_add _))
    rw [foretellkeep_NextAfter.l1, if_neg (by omega)]
    rfl
  | succ d ih =>
    intro i hi
    have hil : i < m.length := by omega
    have hh := has_is l m[i] (by omega)
    rw [decide_eq_true (h _ (List.getElem_mem hil))] at hh
    refine Ev.step (f := fun k => (foretellkeep_has.f k l m[i]).bind fun t => if t = true then foretellkeep_NextAfter.l1 k l 0 m ((i + 1 : Nat) : Int) else some false) (fun k => ?_) (Ev.bind hh ?_)
    · rw [foretellkeep_NextAfter.l1, if_pos (by omega), if_pos (by omega), rd_eq hil, w64 (n := (i : Int) + 1) (by omega) (by omega)]
      rfl
    · simp only [if_true]
      exact ih (i + 1) (by omega)
theorem na_loop0 {vs : List Vr} {rs : List Rl} (h : ModelOk vs rs) {c : Int} (h0 : 0 ≤ c) (h1 : c < cnt vs) : ∀ (d i : Nat), i + d = rs.length → Ev (fun k => foretellkeep_NextAfter.l0 k c (nextS vs rs c) 0 (cods vs (valS vs c) (rs.take i)) (i : Int) vs rs) true := by
  have hl := h.len
  have hin := valS_in (l := vs) c h.v.le
  intro d
  induction d with
  | zero =>
    intro i hi
    rw [List.take_of_length_le (by omega)]
    have hcl := cods_len (vs := vs) (rs := rs) (valS vs c)
    have hnl := nextS_len (vs := vs) (rs := rs) c
    by_cases e : cods vs (valS vs c) rs = []
    · refine Ev.step (f := fun _ => some true) (fun k => ?_) (Ev.now _)
      have en : nextS vs rs c = [c] := by unfold nextS; rw [if_pos e]
      rw [foretellkeep_NextAfter.l0, if_neg (by omega), e, en, if_pos (by decide), if_pos rfl, if_pos (by simp), if_pos (by simp)]
      have r0 : rd [c] 0 = c := rfl
      rw [r0, beq_self_eq_true]
    · have hne : ¬ ((cods vs (valS vs c) rs).length : Int) = 0 := fun hh => e (List.eq_nil_of_length_eq_zero (by omega))
      refine Ev.step (f := fun k => foretellkeep_NextAfter.l1 k (nextS vs rs c) 0 (cods vs (valS vs c) rs) ((0 : Nat) : Int)) (fun k => ?_) (na_loop1 _ _ (by omega) (by omega) (fun x hx => nextS_mem.mpr (.inl hx)) (fun x hx => ?_) _ 0 (Nat.zero_add _))
      · rw [foretellkeep_NextAfter.l0, if_neg (by omega), if_neg hne]
        rfl
      · rcases nextS_mem.mp hx with hx | ⟨hx, _⟩
        · exact hx
        · exact absurd hx e
  | succ d ih =>
    intro i hi
    have hil : i < rs.length := by omega
    have hri := h.r _ (List.getElem_mem hil)
    have ht : rs.take (i + 1) = rs.take i ++ [rs[i]] := by rw [List.take_add_one, List.getElem?_eq_getElem hil]; rfl
    have hal : (cods vs (valS vs c) (rs.take i)).length ≤ (rs.take i).length := cods_len _
    rw [List.length_take] at hal
    have hih := ih (i + 1) (by omega)
    refine Ev.step (f := fun k => (step_After.f k vs rs c (i : Int)).bind fun b => if b.2 = 0 then (if (cods vs (valS vs c) (rs.take i)).length < 17592186044416 then foretellkeep_NextAfter.l0 k c (nextS vs rs c) 0 (cods vs (valS vs c) (rs.take i) ++ [b.1]) ((i + 1 : Nat) : Int) vs rs else none) else if b.2 = 11 then foretellkeep_NextAfter.l0 k c (nextS vs rs c) 0 (cods vs (valS vs c) (rs.take i)) ((i + 1 : Nat) : Int) vs rs else some false) (fun k => ?_) (Ev.bind (After_is h h0 h1 hil) ?_)
    · rw [foretellkeep_NextAfter.l0, if_pos (by omega), w64 (n := (i : Int) + 1) (by omega) (by omega)]
      rfl
    · cases hx : aftS vs (valS vs c) rs[i] with
      | none =>
        have e : cods vs (valS vs c) (rs.take (i + 1)) = cods vs (valS vs c) (rs.take i) := by
          rw [ht]; unfold cods; rw [List.filterMap_append, List.filterMap_cons, hx]; simp
        rw [e] at hih
        simp only [Option.elim_none, if_true]
        exact hih
      | some o =>
        have e : cods vs (valS vs c) (rs.take (i + 1)) = cods vs (valS vs c) (rs.take i) ++ [codeS vs o] := by
          rw [ht]; unfold cods; rw [List.filterMap_append, List.filterMap_cons, hx]; rfl
        rw [e] at hih
        simp only [Option.elim_some, if_true, if_pos (show (cods vs (valS vs c) (rs.take i)).length < 17592186044416 by omega)]
        exact hih
theorem NextAfter : P.foretellkeep_NextAfter.Pur := by
  intro a b c d e f l code hw hcode
  obtain ⟨vs, rs, hm, ho⟩ := own_model hw
  obtain ⟨hp, p0, p1⟩ := pick_code ho hcode
  have hc := ho.cnt
  refine Ev.rounds (r := true) ?_
  unfold foretellkeep_NextAfter.f
  refine Ev.bind hm (Ev.bind (count_is ho.m) ?_)
  simp only [if_true, decide_eq_false (show ¬ cnt vs < 1 by omega)]
  refine Ev.step (fun k => by rw [foretellkeep_NextAfter.j0, if_neg (by decide)]) ?_
  refine Ev.bind hp (Ev.bind (Next_is ho.m p0 p1) ?_)
  exact na_loop0 ho.m p0 p1 rs.length 0 (Nat.zero_add _)
end Go.Proofs.YteennleoieafiaaDoor.Q
