/- The law ReachClosed: what is reached reaches on, and the first state is; each other one is behind one that is. -/
import Derived.Test.YteennleoieafiaaDoorKLReachClosed
import Derived.Test.YteennleoieafiaaDoorK15
import Derived.Test.YteennleoieafiaaDoorK23
import Derived.Test.YteennleoieafiaaDoorK4
namespace Go.Proofs.YteennleoieafiaaDoor.Q
open Go.RowKit Go.Proofs.YteennleoieafiaaDoorW.PrintWords Go.Proofs.YteennleoieafiaaDoorW.PrintMore Go.Proofs.YteennleoieafiaaDoor.P
set_option linter.unusedVariables false
section
variable {vs : List Vr} {rs : List Rl} {L : List Int}
/-- What lies behind so many of the list. -/
def bhd (vs : List Vr) (rs : List Rl) (l : List Int) : List Int := (l.map (nextS vs rs)).flatten
theorem bhd_snoc (l : List Int) (x : Int) : bhd vs rs (l ++ [x]) = bhd vs rs l ++ nextS vs rs x := by simp [bhd]
theorem bhd_mem {l : List Int} {y : Int} : y ∈ bhd vs rs l ↔ ∃ x ∈ l, y ∈ nextS vs rs x := by
  unfold bhd
  rw [List.mem_flatten]
  constructor
  · rintro ⟨m, hm, hy⟩
    obtain ⟨x, hx, rfl⟩ := List.mem_map.mp hm
    exact ⟨x, hx, hy⟩
  · rintro ⟨x, hx, hy⟩
    exact ⟨_, List.mem_map.mpr ⟨x, hx, rfl⟩, hy⟩
theorem bhd_len (h : ModelOk vs rs) : ∀ l : List Int, (bhd vs rs l).length ≤ 12 * l.length
  | [] => by simp [bhd]
  | x :: l => by
    have := bhd_len h l
    have h2 := nextS_len (vs := vs) (rs := rs) x
    have := h.len
    have e : (bhd vs rs (x :: l)).length = (nextS vs rs x).length + (bhd vs rs l).length := by simp [bhd]
    rw [e, List.length_cons]
    omega
theorem rc_l2 (h : ModelOk vs rs) (hw : Whole vs rs L) (hl : L.length ≤ 4096) : ∀ (d i : Nat), i + d = L.length → Ev (fun k => foretellkeep_ReachClosed.l2 k L (frst vs) (bhd vs rs L) (i : Int)) true := by
  have hb := bhd_len h L
  intro d
  induction d with
  | zero =>
    intro i hi
    refine Ev.step (f := fun _ => some true) (fun k => ?_) (Ev.now _)
    rw [foretellkeep_ReachClosed.l2, if_neg (by omega)]
  | succ d ih =>
    intro i hi
    have hil : i < L.length := by omega
    have hih := ih (i + 1) (by omega)
    by_cases c : L[i] = frst vs
    · refine Ev.step (f := fun k => foretellkeep_ReachClosed.l2 k L (frst vs) (bhd vs rs L) ((i + 1 : Nat) : Int)) (fun k => ?_) hih
      rw [foretellkeep_ReachClosed.l2, if_pos (by omega), if_pos (by omega), rd_eq hil, if_pos c, w64 (n := (i : Int) + 1) (by omega) (by omega)]
      rfl
    · have hm : L[i] ∈ bhd vs rs L := by
        rcases hw.behind _ (List.getElem_mem hil) with e | e
        · exact absurd e c
        · exact bhd_mem.mpr e
      have hh := has_is (bhd vs rs L) L[i] (by omega)
      rw [decide_eq_true hm] at hh
      refine Ev.step (f := fun k => (foretellkeep_has.f k (bhd vs rs L) L[i]).bind fun t => if t = true then foretellkeep_ReachClosed.l2 k L (frst vs) (bhd vs rs L) ((i + 1 : Nat) : Int) else some false) (fun k => ?_) (Ev.bind hh ?_)
      · rw [foretellkeep_ReachClosed.l2, if_pos (by omega), if_pos (by omega), rd_eq hil, if_neg c, w64 (n := (i : Int) + 1) (by omega) (by omega)]
        rfl
      · simp only [if_true]
        exact hih
theorem rc_l1 (h : ModelOk vs rs) (hw : Whole vs rs L) (hl : L.length ≤ 4096) {i : Nat} (hil : i < L.length) (hnext : Ev (fun k => foretellkeep_ReachClosed.l0 k L (frst vs) (bhd vs rs (L.take (i + 1))) ((i + 1 : Nat) : Int) vs rs) true) :
    ∀ (d j : Nat), j + d = (nextS vs rs L[i]).length → Ev (fun k => foretellkeep_ReachClosed.l1 k L (frst vs) (bhd vs rs (L.take i) ++ (nextS vs rs L[i]).take j) (i : Int) (nextS vs rs L[i]) (j : Int) vs rs) true := by
  have hb := bhd_len h (L.take i)
  have hnl := nextS_len (vs := vs) (rs := rs) L[i]
  have h12 := h.len
  rw [List.length_take] at hb
  have hns : ∀ y ∈ nextS vs rs L[i], y ∈ L := hw.on _ (List.getElem_mem hil)
  have et : bhd vs rs (L.take (i + 1)) = bhd vs rs (L.take i) ++ nextS vs rs L[i] := by rw [List.take_add_one, List.getElem?_eq_getElem hil]; exact bhd_snoc _ _
  rw [et] at hnext
  generalize nextS vs rs L[i] = ns at *
  intro d
  induction d with
  | zero =>
    intro j hj
    rw [show ns.take j = ns from List.take_of_length_le (by omega)]
    refine Ev.step (fun k => ?_) hnext
    rw [foretellkeep_ReachClosed.l1, if_neg (by omega), w64 (n := (i : Int) + 1) (by omega) (by omega)]
    rfl
  | succ d ih =>
    intro j hj
    have hjl : j < ns.length := by omega
    have hh := has_is L ns[j] (by omega)
    rw [decide_eq_true (hns _ (List.getElem_mem hjl))] at hh
    have hih := ih (j + 1) (by omega)
    rw [List.take_add_one, List.getElem?_eq_getElem hjl, Option.toList_some, ← List.append_assoc] at hih
    refine Ev.step (f := fun k => (foretellkeep_has.f k L ns[j]).bind fun t => if t = true then foretellkeep_ReachClosed.l1 k L (frst vs) (bhd vs rs (L.take i) ++ ns.take j ++ [ns[j]]) (i : Int) ns ((j + 1 : Nat) : Int) vs rs else some false) (fun k => ?_) (Ev.bind hh ?_)
    · rw [foretellkeep_ReachClosed.l1, if_pos (by omega), if_pos (by omega), rd_eq hjl, w64 (n := (j : Int) + 1) (by omega) (by omega)]
      simp only [if_pos (show (bhd vs rs (L.take i) ++ ns.take j).length < 17592186044416 by rw [List.length_append, List.length_take]; omega)]
      rfl
    · simp only [if_true]
      exact hih
theorem rc_l0 (h : ModelOk vs rs) (hw : Whole vs rs L) (hl : L.length ≤ 4096) : ∀ (d i : Nat), i + d = L.length → Ev (fun k => foretellkeep_ReachClosed.l0 k L (frst vs) (bhd vs rs (L.take i)) (i : Int) vs rs) true := by
  intro d
  induction d with
  | zero =>
    intro i hi
    rw [List.take_of_length_le (by omega)]
    refine Ev.step (f := fun k => foretellkeep_ReachClosed.l2 k L (frst vs) (bhd vs rs L) ((0 : Nat) : Int)) (fun k => ?_) (rc_l2 h hw hl L.length 0 (Nat.zero_add _))
    rw [foretellkeep_ReachClosed.l0, if_neg (by omega)]
    rfl
  | succ d ih =>
    intro i hi
    have hil : i < L.length := by omega
    have hr := hw.rng _ (List.getElem_mem hil)
    have h1 := rc_l1 h hw hl hil (ih (i + 1) (by omega)) _ 0 (Nat.zero_add _)
    rw [List.take_zero, List.append_nil] at h1
    have h2 : Ev (fun k => foretellkeep_ReachClosed.j2 k L (frst vs) (bhd vs rs (L.take i)) (i : Int) (nextS vs rs L[i]) false vs rs) true := by
      refine Ev.step (fun k => ?_) h1
      rw [foretellkeep_ReachClosed.j2, if_neg (by decide)]
      rfl
    refine Ev.step (f := fun k => (step_Next.f k vs rs L[i]).bind fun b => if b.2 = 0 then foretellkeep_ReachClosed.j2 k L (frst vs) (bhd vs rs (L.take i)) (i : Int) b.1 false vs rs else foretellkeep_ReachClosed.j2 k L (frst vs) (bhd vs rs (L.take i)) (i : Int) b.1 true vs rs) (fun k => ?_) (Ev.bind (Next_is h hr.1 hr.2) ?_)
    · rw [foretellkeep_ReachClosed.l0, if_pos (by omega), if_pos (by omega), rd_eq hil]
      by_cases c : (i : Int) > 0
      · obtain ⟨j, rfl⟩ : ∃ j, i = j + 1 := ⟨i - 1, by omega⟩
        have e : wrap64 (((j + 1 : Nat) : Int) - 1) = (j : Int) := by rw [show ((j + 1 : Nat) : Int) - 1 = (j : Int) by omega]; exact w64 (n := (j : Int)) (by omega) (by omega)
        have hlt := List.pairwise_iff_getElem.mp hw.rise j (j + 1) (by omega) hil (by omega)
        simp only [if_pos c, e, if_pos (show (0 : Int) ≤ (j : Int) by omega), if_pos (show (j : Int) < (L.length : Int) by omega), rd_eq (show j < L.length by omega), decide_eq_false (show ¬ L[j + 1] ≤ L[j] by omega)]
      · simp only [if_neg c]
    · simp only [if_true]
      exact h2
end
theorem ReachClosed : P.foretellkeep_ReachClosed.Pur := by
  intro a b c d e f l hw
  obtain ⟨vs, rs, hm, ho⟩ := own_model hw
  obtain ⟨L, hL, hwh⟩ := reach_is ho.m
  have hcn := ho.cnt
  have hlen : L.length ≤ 4096 := by
    have := rise_few (a := 0) (n := cnt vs) hwh.rise hwh.rng (by omega)
    omega
  have hh := has_is L (frst vs) (by omega)
  rw [decide_eq_true hwh.first] at hh
  refine Ev.rounds (r := true) ?_
  unfold foretellkeep_ReachClosed.f
  refine Ev.bind hm (Ev.bind hL (Ev.bind (first_is ho.m) ?_))
  simp only [if_true]
  refine Ev.bind hh ?_
  refine Ev.step (f := fun k => foretellkeep_ReachClosed.l0 k L (frst vs) (bhd vs rs (L.take 0)) ((0 : Nat) : Int) vs rs) (fun k => ?_) (rc_l0 ho.m hwh hlen L.length 0 (Nat.zero_add _))
  rw [foretellkeep_ReachClosed.j0, if_neg (by decide)]
  rfl
end Go.Proofs.YteennleoieafiaaDoor.Q
