/- The law BehindNext: spots behind a spot are at next states; each next state has one at least that some claim leads to. -/
import Derived.Test.YtbokbbcoekeoaaaDoorJLBehindNext
import Derived.Test.YtbokbbcoekeoaaaDoorJ27
import Derived.Test.YtbokbbcoekeoaaaDoorJ4
namespace Go.Proofs.YtbokbbcoekeoaaaDoor.Q
open Go.RowKit Go.Proofs.YtbokbbcoekeoaaaDoorW.PrintWords Go.Proofs.YtbokbbcoekeoaaaDoorW.PrintMore Go.Proofs.YtbokbbcoekeoaaaDoor.P
set_option linter.unusedVariables false
section
variable {vs : List Vr} {rs : List Rl} {ps : List (List Op)} {t : Tm} {c : Int} {next : List Int}
theorem bn_l2 (hnl : next.length ≤ 1000) (h0 : 0 < next.length) {met : List Int} (hml : met.length ≤ 1000000) (hm : ∀ x ∈ next, x ∈ met) : ∀ (d i : Nat), i + d = next.length → Ev (fun k => foretellkeep_BehindNext.l2 k next 0 met (i : Int)) true := by
  intro d
  induction d with
  | zero =>
    intro i hi
    refine Ev.step (f := fun _ => some true) (fun k => ?_) (Ev.now _)
    rw [foretellkeep_BehindNext.l2, if_neg (by omega), if_pos rfl, decide_eq_true (by omega)]
  | succ d ih =>
    intro i hi
    have hil : i < next.length := by omega
    have hh := has_is met next[i] (by omega)
    rw [decide_eq_true (hm _ (List.getElem_mem hil))] at hh
    refine Ev.step (f := fun k => (foretellkeep_has.f k met next[i]).bind fun t534 => (if t534 = true then (foretellkeep_BehindNext.l2 k next 0 met ((i + 1 : Nat) : Int)) else (some false))) (fun k => ?_) (Ev.bind hh ?_)
    · rw [foretellkeep_BehindNext.l2, if_pos (by omega), if_pos (by omega), rd_eq hil, w64 (n := (i : Int) + 1) (by omega) (by omega)]
      rfl
    · simp only [if_true]
      exact ih (i + 1) (by omega)
theorem bn_l1 (hnl : next.length ≤ 1000) {l : List Sp} (hl : l.length ≤ 100000) (hin : ∀ x ∈ l, x.f0 ∈ next) {cl : Int} {met : List Int} (hml : met.length ≤ 1000000) (hn : Ev (fun k => foretellkeep_BehindNext.l0 k c next 0 (met ++ l.map fun x => x.f0) (wrap64 (cl + 1)) vs rs ps t.flat) true) :
    ∀ (d i : Nat), i + d = l.length → Ev (fun k => foretellkeep_BehindNext.l1 k c next 0 (met ++ (l.take i).map fun x => x.f0) cl l (i : Int) vs rs ps t.flat) true := by
  intro d
  induction d with
  | zero =>
    intro i hi
    rw [List.take_of_length_le (by omega)]
    refine Ev.step (fun k => ?_) hn
    rw [foretellkeep_BehindNext.l1, if_neg (by omega)]
  | succ d ih =>
    intro i hi
    have hil : i < l.length := by omega
    have hh := has_is next l[i].f0 (by omega)
    rw [decide_eq_true (hin _ (List.getElem_mem hil))] at hh
    have hih := ih (i + 1) (by omega)
    rw [List.take_add_one, List.getElem?_eq_getElem hil, Option.toList_some, List.map_append, ← List.append_assoc] at hih
    refine Ev.step (f := fun k => (foretellkeep_has.f k next l[i].f0).bind fun t528 => (if t528 = true then (if (met ++ (l.take i).map fun x => x.f0).length < 17592186044416 then (foretellkeep_BehindNext.l1 k c next 0 ((met ++ (l.take i).map fun x => x.f0) ++ [l[i].f0]) cl l ((i + 1 : Nat) : Int) vs rs ps t.flat) else (none)) else (some false))) (fun k => ?_) (Ev.bind hh ?_)
    · rw [foretellkeep_BehindNext.l1, if_pos (by omega), if_pos (by omega), rdSp hil, w64 (n := (i : Int) + 1) (by omega) (by omega)]
      rfl
    · simp only [if_true, if_pos (show (met ++ (l.take i).map fun x => x.f0).length < 17592186044416 by rw [List.length_append, List.length_map, List.length_take]; omega)]
      exact hih
set_option maxRecDepth 100000 in
theorem bn_l0 (h : TaskOk vs rs ps t) (ht : t.tempo ≤ 2) (hr : rs.length ≤ 100) (h0 : 0 ≤ c) (h1 : c < cnt vs) : ∀ (d q : Nat) (met : List Int), q + d = 4 → (met.length ≤ q * 1000) → (∀ p : Nat, p < q → p < 2 ^ t.tempo → ∀ x ∈ behL vs ps t c (p : Int) (nextS vs rs c), x.f0 ∈ met) →
    Ev (fun k => foretellkeep_BehindNext.l0 k c (nextS vs rs c) 0 met (q : Int) vs rs ps t.flat) true := by
  have hp4 : 2 ^ t.tempo ≤ 4 := Nat.pow_le_pow_right (n := 2) (by decide) ht
  have hnl := nextS_len (vs := vs) (rs := rs) c
  intro d
  induction d with
  | zero =>
    intro q met hq hml hm
    have hpos : 0 < (nextS vs rs c).length := List.length_pos_iff.mpr (nextS_ne c)
    have hall : ∀ x ∈ nextS vs rs c, x ∈ met := fun x hx => by
      obtain ⟨N, hN, hk⟩ := claim_ahead (ltr vs ps c) (ltr vs ps x) 0 h.f h.t
      exact hm N (by omega) hN _ (behL_mem.mpr ⟨x, hx, 0, Nat.two_pow_pos _, hk, rfl⟩)
    refine Ev.step (fun k => ?_) (bn_l2 (by omega) hpos (by omega) hall _ 0 (Nat.zero_add _))
    rw [foretellkeep_BehindNext.l0, if_neg (by omega)]
    rfl
  | succ d ih =>
    intro q met hq hml hm
    have hb := behind_is h hr h0 h1 (cl := (q : Int)) (by omega)
    refine Ev.step (f := fun k => (product_Behind.f k vs rs ps t.flat c (q : Int)).bind fun bt523 => (if bt523.2 = 9 then (foretellkeep_BehindNext.l0 k c (nextS vs rs c) 0 met ((q + 1 : Nat) : Int) vs rs ps t.flat) else (if bt523.2 = 0 then (foretellkeep_BehindNext.l1 k c (nextS vs rs c) 0 met (q : Int) bt523.1 0 vs rs ps t.flat) else (none)))) (fun k => ?_) (Ev.bind hb ?_)
    · rw [foretellkeep_BehindNext.l0, if_pos (by omega), w64 (n := (q : Int) + 1) (by omega) (by omega)]
      rfl
    · by_cases g : (q : Int) < ((2 ^ t.tempo : Nat) : Int)
      · simp only [if_pos g, if_neg (show ¬ ((0 : Int) = 9) by decide), if_true]
        have hbl := behL_len (vs := vs) (ps := ps) (t := t) c (q : Int) (nextS vs rs c)
        have hbl2 : (nextS vs rs c).length * 2 ^ t.tempo ≤ 100 * 4 := Nat.mul_le_mul (by omega) hp4
        have hnx := ih (q + 1) (met ++ (behL vs ps t c (q : Int) (nextS vs rs c)).map fun x => x.f0) (by omega) (by rw [List.length_append, List.length_map]; omega) (fun p hp hp2 x hx => by
          by_cases e : p = q
          · subst e
            exact List.mem_append_right _ (List.mem_map.mpr ⟨x, hx, rfl⟩)
          · exact List.mem_append_left _ (hm p (by omega) hp2 x hx))
        have hl1 := bn_l1 (c := c) (vs := vs) (rs := rs) (ps := ps) (t := t) (next := nextS vs rs c) (by omega) (l := behL vs ps t c (q : Int) (nextS vs rs c)) (by omega) (fun x hx => by
          obtain ⟨n, hn, p, _, _, rfl⟩ := behL_mem.mp hx
          exact hn) (cl := (q : Int)) (met := met) (by omega) (by rw [w64 (n := (q : Int) + 1) (by omega) (by omega)]; exact hnx) _ 0 (Nat.zero_add _)
        simp only [List.take_zero, List.map_nil, List.append_nil] at hl1
        exact hl1
      · simp only [if_neg g, if_true]
        exact ih (q + 1) met (by omega) (by omega) (fun p hp hp2 x hx => by
          by_cases e : p = q
          · subst e
            exact absurd (Int.ofNat_lt.mpr hp2) g
          · exact hm p (by omega) hp2 x hx)
end
theorem BehindNext : P.foretellkeep_BehindNext.Pur := by
  intro a b c d e f l raw code hw hraw hcode
  obtain ⟨vs, rs, t, hT, ho, hk, sf, tf⟩ := task_is hw hraw.2 (tp := 2) (by decide) (by decide)
  obtain ⟨hp, p0, p1⟩ := pick_code ho hcode
  have hc := ho.cnt
  have hfew := ho.few
  refine Ev.rounds (r := true) ?_
  unfold foretellkeep_BehindNext.f
  refine Ev.bind hT (Ev.bind (count_is ho.m) ?_)
  simp only [if_true, decide_eq_false (show ¬ cnt vs < 1 by omega)]
  refine Ev.step (fun k => by rw [foretellkeep_BehindNext.j0, if_neg (by decide)]) ?_
  refine Ev.bind hp (Ev.bind (Next_is ho.m p0 p1) ?_)
  exact bn_l0 hk (by omega) (by omega) p0 p1 4 0 [] (Nat.zero_add _) (Nat.le_refl _) (fun p hp => absurd hp (by omega))
end Go.Proofs.YtbokbbcoekeoaaaDoor.Q
