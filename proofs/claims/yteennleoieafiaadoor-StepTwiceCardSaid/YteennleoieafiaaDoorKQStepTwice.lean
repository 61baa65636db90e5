/- The law StepTwice: a rule that stands twice, and rules in another order, make no other next state. -/
import Derived.Test.YteennleoieafiaaDoorKLStepTwice
import Derived.Test.YteennleoieafiaaDoorK21
import Derived.Test.YteennleoieafiaaDoorK24
namespace Go.Proofs.YteennleoieafiaaDoor.Q
open Go.RowKit Go.Proofs.YteennleoieafiaaDoorW.PrintWords Go.Proofs.YteennleoieafiaaDoorW.PrintMore Go.Proofs.YteennleoieafiaaDoor.P
set_option linter.unusedVariables false
theorem cods_same {vs : List Vr} {env : List Int} {a b : List Rl} (h : ∀ r, r ∈ a ↔ r ∈ b) (x : Int) : x ∈ cods vs env a ↔ x ∈ cods vs env b := by
  unfold cods
  rw [List.mem_filterMap, List.mem_filterMap]
  constructor
  · rintro ⟨r, hr, e⟩; exact ⟨r, (h r).mp hr, e⟩
  · rintro ⟨r, hr, e⟩; exact ⟨r, (h r).mpr hr, e⟩
theorem nil_same {a b : List Int} (h : ∀ x, x ∈ a ↔ x ∈ b) : a = [] ↔ b = [] := by
  rw [List.eq_nil_iff_forall_not_mem, List.eq_nil_iff_forall_not_mem]
  constructor
  · intro ha x hx; exact ha x ((h x).mpr hx)
  · intro hb x hx; exact hb x ((h x).mp hx)
theorem nextS_same {vs : List Vr} {a b : List Rl} (h : ∀ r, r ∈ a ↔ r ∈ b) (c : Int) : nextS vs a c = nextS vs b c := by
  have hc := cods_same (vs := vs) (env := valS vs c) h
  unfold nextS
  by_cases e : cods vs (valS vs c) a = []
  · rw [if_pos e, if_pos ((nil_same hc).mp e)]
  · rw [if_neg e, if_neg (fun e2 => e ((nil_same hc).mpr e2)), uniq_ext hc]
theorem same_loop (l : List Int) (hl : l.length ≤ 1000) : ∀ (d i : Nat), i + d = l.length → Ev (fun k => foretellkeep_StepTwice.l1 k l l (i : Int)) true := by
  intro d
  induction d with
  | zero =>
    intro i hi
    refine Ev.step (f := fun _ => some true) (fun k => ?_) (Ev.now _)
    rw [foretellkeep_StepTwice.l1, if_neg (by omega)]
  | succ d ih =>
    intro i hi
    refine Ev.step (f := fun k => foretellkeep_StepTwice.l1 k l l ((i + 1 : Nat) : Int)) (fun k => ?_) (ih (i + 1) (by omega))
    rw [foretellkeep_StepTwice.l1, if_pos (by omega), if_pos (by omega), if_pos (by omega), if_pos rfl, w64 (n := (i : Int) + 1) (by omega) (by omega)]
    rfl
theorem twice_j2 {vs : List Vr} {rs rs2 : List Rl} (h : ModelOk vs rs) (h2 : ModelOk vs rs2) (hm : ∀ r, r ∈ rs2 ↔ r ∈ rs) {c : Int} (h0 : 0 ≤ c) (h1 : c < cnt vs) : Ev (fun k => foretellkeep_StepTwice.j2 k c (nextS vs rs c) 0 vs rs2) true := by
  have hn := Next_is h2 h0 h1
  rw [nextS_same hm] at hn
  have hlen := nextS_len (vs := vs) (rs := rs) c
  have hl := h.len
  have hne : ((nextS vs rs c).length : Int) ≠ 0 := fun e => nextS_ne (vs := vs) (rs := rs) c (List.eq_nil_of_length_eq_zero (by omega))
  refine Ev.step (f := fun k => (step_Next.f k vs rs2 c).bind fun b => if (0 : Int) = 0 then (if b.2 = 0 then (if ((nextS vs rs c).length : Int) = (b.1.length : Int) then foretellkeep_StepTwice.j3 k (nextS vs rs c) b.1 (((nextS vs rs c).length : Int) == 0) else foretellkeep_StepTwice.j3 k (nextS vs rs c) b.1 true) else foretellkeep_StepTwice.j3 k (nextS vs rs c) b.1 true) else foretellkeep_StepTwice.j3 k (nextS vs rs c) b.1 true) (fun k => ?_) (Ev.bind hn ?_)
  · rw [foretellkeep_StepTwice.j2]
  · simp only [if_true, beq_eq_false_iff_ne.mpr hne]
    refine Ev.step (f := fun k => foretellkeep_StepTwice.l1 k (nextS vs rs c) (nextS vs rs c) ((0 : Nat) : Int)) (fun k => ?_) (same_loop _ (by omega) _ 0 (Nat.zero_add _))
    rw [foretellkeep_StepTwice.j3, if_neg (by decide)]
    rfl
theorem twice_l0 {vs : List Vr} {rs : List Rl} (h : ModelOk vs rs) (h5 : rs.length ≤ 5) {c which : Int} (hw : wfI which) (h0 : 0 ≤ c) (h1 : c < cnt vs) : ∀ (i : Nat) (acc : List Rl), i + acc.length = rs.length → acc.reverse = rs.drop i → Ev (fun k => foretellkeep_StepTwice.l0 k which c (nextS vs rs c) 0 ((i : Int) - 1) vs rs vs acc) true := by
  intro i
  induction i with
  | zero =>
    intro acc ha hr
    have hacc : acc = rs.reverse := by rw [← List.reverse_reverse acc, hr, List.drop_zero]
    have hgood : ModelOk vs acc := ⟨h.v, by omega, fun r hr => h.r r (by rw [hacc] at hr; exact List.mem_reverse.mp hr)⟩
    by_cases hn : (rs.length : Int) > 0
    · have q0 := pk_lo which hn
      have q1 := pk_hi which hn
      have hp := picked_is hw hn
      obtain ⟨j, hj⟩ : ∃ j : Nat, pk which (rs.length : Int) = (j : Int) := ⟨(pk which (rs.length : Int)).toNat, by omega⟩
      rw [hj] at q0 q1 hp
      have hjl : j < rs.length := by omega
      have h2 : ModelOk vs (acc ++ [rs[j]]) := ⟨h.v, by rw [List.length_append, List.length_singleton]; omega, fun r hr => by
        rcases List.mem_append.mp hr with hr | hr
        · exact hgood.r r hr
        · obtain rfl := List.mem_singleton.mp hr; exact h.r _ (List.getElem_mem hjl)⟩
      refine Ev.step (f := fun k => foretellkeep_StepTwice.j2 k c (nextS vs rs c) 0 vs (acc ++ [rs[j]])) (fun k => ?_) (twice_j2 h h2 (fun r => ?_) h0 h1)
      · rw [foretellkeep_StepTwice.l0, if_neg (by omega), if_pos hn, hp, Option.bind_some, if_pos q0, if_pos q1, if_pos (by omega), rdR hjl]
      · rw [List.mem_append, hacc, List.mem_reverse, List.mem_singleton]
        constructor
        · rintro (hr | rfl)
          · exact hr
          · exact List.getElem_mem hjl
        · exact .inl
    · refine Ev.step (f := fun k => foretellkeep_StepTwice.j2 k c (nextS vs rs c) 0 vs acc) (fun k => ?_) (twice_j2 h hgood (fun r => by rw [hacc, List.mem_reverse]) h0 h1)
      rw [foretellkeep_StepTwice.l0, if_neg (by omega), if_neg hn]
  | succ i ih =>
    intro acc ha hr
    have hil : i < rs.length := by omega
    have e1 : ((i + 1 : Nat) : Int) - 1 = (i : Int) := by omega
    refine Ev.step (f := fun k => foretellkeep_StepTwice.l0 k which c (nextS vs rs c) 0 ((i : Int) - 1) vs rs vs (acc ++ [rs[i]])) (fun k => ?_) (ih (acc ++ [rs[i]]) (by rw [List.length_append, List.length_singleton]; omega) ?_)
    · rw [foretellkeep_StepTwice.l0, e1, if_pos (by omega), if_pos (by omega), if_pos (by omega), if_pos (by omega), rdR hil, w64 (n := (i : Int) - 1) (by omega) (by omega)]
    · rw [List.reverse_append, List.reverse_singleton, hr, List.singleton_append, List.drop_eq_getElem_cons hil]
theorem StepTwice : P.foretellkeep_StepTwice.Pur := by
  intro a b c d e f l code which hw hcode hwhich
  obtain ⟨vs, rs, hm, ho⟩ := own_model hw
  obtain ⟨hp, p0, p1⟩ := pick_code ho hcode
  have hc := ho.cnt
  have h5 := ho.few
  refine Ev.rounds (r := true) ?_
  unfold foretellkeep_StepTwice.f
  refine Ev.bind hm (Ev.bind (count_is ho.m) ?_)
  simp only [if_true, decide_eq_false (show ¬ cnt vs < 1 by omega)]
  refine Ev.step (fun k => by rw [foretellkeep_StepTwice.j0, if_neg (by decide)]) ?_
  refine Ev.bind hp (Ev.bind (Next_is ho.m p0 p1) ?_)
  simp only [w64 (n := (rs.length : Int) - 1) (by omega) (by omega)]
  exact twice_l0 ho.m h5 hwhich p0 p1 rs.length [] (Nat.add_zero _) (by simp)
end Go.Proofs.YteennleoieafiaaDoor.Q
