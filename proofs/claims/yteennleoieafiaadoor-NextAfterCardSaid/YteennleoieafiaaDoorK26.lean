-- PACKED by pack.py of this repo: FForetellkeepHas QAfter QHas
import Derived.Test.YteennleoieafiaaDoorK2
import Derived.Test.YteennleoieafiaaDoorK24
import Derived.Test.YteennleoieafiaaDoorK25
import Derived.Test.YteennleoieafiaaDoorK3
section
namespace Go.Proofs.YteennleoieafiaaDoor.P
open Go.RowKit Go.Proofs.YteennleoieafiaaDoorW.PrintWords Go.Proofs.YteennleoieafiaaDoorW.PrintLast Go.Proofs.YteennleoieafiaaDoorW.PrintMore Go.Proofs.YteennleoieafiaaDoor.G
attribute [local go_sem] max2_int min2_int max_two min_two max_three min_three max_four min_four   -- for this text's walks alone
set_option linter.unusedVariables false
set_option linter.unusedSimpArgs false

/-! ### foretellkeep_has: function 26 -/
def foretellkeep_has.l0 : Nat → List Int → Int → Int → Option (Bool)
  | 0, _, _, _ => none
  | k + 1, x0, x1, x5 => if x5 < (x0.length : Int) then (if 0 ≤ x5 then (if (rd x0 x5) = x1 then (some true) else (foretellkeep_has.l0 k x0 x1 (wrap64 (x5 + 1)))) else (none)) else (some false)
def foretellkeep_has.f (k : Nat) (l0 : List Int) (a1 : Int) : Option (Bool) := foretellkeep_has.l0 k l0 a1 0
theorem foretellkeep_has.mono_l : ∀ k, (∀ y0 y1 y2, LeO (foretellkeep_has.l0 k y0 y1 y2) (foretellkeep_has.l0 (k + 1) y0 y1 y2))
  | 0 => fun _ _ _ r h => by simp [foretellkeep_has.l0] at h
  | k + 1 => by
    have ih0 := foretellkeep_has.mono_l k
    · intro y0 y1 y2
      unfold foretellkeep_has.l0
      repeat' first
      | (with_reducible exact ih0 _ _ _)
      | (with_reducible exact LeO.refl _)
      | (with_reducible exact LeO.none _)
      | (with_reducible refine LeO.ite ?_ ?_)
      | (with_reducible refine LeO.bind ?_ (fun _ => ?_))
      | exact ih0 _ _ _
      | exact LeO.none _
      | refine LeO.ite ?_ ?_
      | refine LeO.bind ?_ (fun _ => ?_)
theorem foretellkeep_has.mono : ∀ a0 a1 k, LeO (foretellkeep_has.f k a0 a1) (foretellkeep_has.f (k + 1) a0 a1) := by
  intro a0 a1 k
  have ih0 := foretellkeep_has.mono_l k
  unfold foretellkeep_has.f
  repeat' first
      | (with_reducible exact ih0 _ _ _)
      | (with_reducible exact LeO.refl _)
      | (with_reducible exact LeO.none _)
      | (with_reducible refine LeO.ite ?_ ?_)
      | (with_reducible refine LeO.bind ?_ (fun _ => ?_))
      | exact ih0 _ _ _
      | exact LeO.none _
      | refine LeO.ite ?_ ?_
      | refine LeO.bind ?_ (fun _ => ?_)
set_option maxHeartbeats 8000000 in
set_option maxRecDepth 100000 in
theorem foretellkeep_has.calls (k : Nat) (A0 : Option Addr) (c0 : Nat) (l0 : List Int) (a1 : Int) (r : Bool) (w : World) (hr0 : Kd.C (Kd.int .i64) w A0 l0.length l0) (hc0 : l0.length ≤ c0) (h : foretellkeep_has.f k l0 a1 = some r) :
    Calls Tryd.prog 26 #[.slice A0 l0.length c0, .int .i64 a1] w fun e w' => e = .returned (.bool r) ∧ Drawn0 w w' := by
  have HR0 := Aside0.mk hr0
  have HC0 := Aside0.mk hc0
  clear hr0 hc0
  have H : (foretellkeep_has.l0 k l0 a1 0) = some r := h
  clear h
  have H' := Aside0.mk H
  clear H
  go_enter Tryd.func26, Tryd.ntmps26
  go_wp2
  go_loopg [5] k (fun kq v5 w' => ∃ (x5_1 : Int), v5 = .int .i64 x5_1 ∧ Aside0 (foretellkeep_has.l0 kq l0 a1 x5_1 = some r) ∧ Aside0 (kq ≤ k) ∧ Drawn0 w w')
  case atStart => exact ⟨(0), (by first | rfl | (simp; done) | (simp [*]; done)), H', ⟨Nat.le_refl _⟩, by repeat (first | exact Drawn0.refl _ | apply Drawn0.step)⟩
  case round =>
    clear H'
    try clear c2
    try clear p2
    obtain ⟨x5_1, rfl, HA, HK1, ⟨m1, rfl⟩⟩ := hrel
    cases gk with
    | zero => exact absurd HA.out (by simp [foretellkeep_has.l0])
    | succ k1 =>
      have H := HA.out
      clear HA
      simp only [foretellkeep_has.l0] at H
      by_cases c3 : x5_1 < (l0.length : Int)
      · rw [if_pos c3] at H
        have c3b0 : decide (x5_1 < (l0.length : Int)) = true := decide_eq_true c3
        clear c3
        by_cases c4 : 0 ≤ x5_1
        · rw [if_pos c4] at H
          have c4b0 : decide (0 ≤ x5_1) = true := decide_eq_true c4
          clear c4
          by_cases c5 : (rd l0 x5_1) = a1
          · rw [if_pos c5] at H
            have c5b0 : ((rd l0 x5_1) == a1) = true := beq_iff_eq.mpr c5
            have c5b1 : ((rd l0 x5_1) != a1) = false := bne_eq_false_iff_eq.mpr c5
            clear c5
            obtain rfl := Option.some.inj H
            have p602 : 0 ≤ (x5_1 : Int) := of_decide_eq_true (by first | (with_reducible assumption) | assumption)
            have q602 : x5_1 < (l0.length : Int) := of_decide_eq_true (by first | (with_reducible assumption) | assumption)
            obtain ⟨ad602, e602, hx602_0⟩ := Kd.at_int HR0.out x5_1 p602 q602
            cases e602
            replace p602 := eq_true p602
            replace q602 := eq_true q602
            go_wp2
            go_ret
            exact ⟨by first | rfl | (simp; done) | (simp [*]; done), by repeat (first | exact Drawn0.refl _ | apply Drawn0.step)⟩
          · rw [if_neg c5] at H
            have c5b0 : ((rd l0 x5_1) == a1) = false := beq_eq_false_iff_ne.mpr c5
            have c5b1 : ((rd l0 x5_1) != a1) = true := bne_iff_ne.mpr c5
            have H' := Aside0.mk H
            clear H
            have p602 : 0 ≤ (x5_1 : Int) := of_decide_eq_true (by first | (with_reducible assumption) | assumption)
            have q602 : x5_1 < (l0.length : Int) := of_decide_eq_true (by first | (with_reducible assumption) | assumption)
            obtain ⟨ad602, e602, hx602_0⟩ := Kd.at_int HR0.out x5_1 p602 q602
            cases e602
            replace p602 := eq_true p602
            replace q602 := eq_true q602
            go_wp2
            go_roundg k1
            case measure => have := HK1.out; omega
            case rel => exact ⟨(wrap64 (x5_1 + 1)), (by first | rfl | (simp; done) | (simp [*]; done)), H', ⟨by have := HK1.out; omega⟩, by repeat (first | exact Drawn0.refl _ | apply Drawn0.step)⟩
        · rw [if_neg c4] at H
          exact absurd H (by simp)
      · rw [if_neg c3] at H
        have c3b0 : decide (x5_1 < (l0.length : Int)) = false := decide_eq_false c3
        clear c3
        obtain rfl := Option.some.inj H
        go_wp2
        go_ret
        exact ⟨by first | rfl | (simp; done) | (simp [*]; done), by repeat (first | exact Drawn0.refl _ | apply Drawn0.step)⟩

end Go.Proofs.YteennleoieafiaaDoor.P
end
section
namespace Go.Proofs.YteennleoieafiaaDoor.Q
open Go.RowKit Go.Proofs.YteennleoieafiaaDoorW.PrintWords Go.Proofs.YteennleoieafiaaDoorW.PrintMore Go.Proofs.YteennleoieafiaaDoor.P
set_option linter.unusedVariables false
section
variable {vs : List Vr} {rs : List Rl}
theorem After_is (h : ModelOk vs rs) {c : Int} (h0 : 0 ≤ c) (h1 : c < cnt vs) {i : Nat} (hi : i < rs.length) : Ev (fun k => step_After.f k vs rs c (i : Int)) ((aftS vs (valS vs c) rs[i]).elim (0, 11) (fun o => (codeS vs o, 0))) := by
  have hl := h.len
  have hin := valS_in (l := vs) c h.v.le
  have hri := h.r _ (List.getElem_mem hi)
  refine Ev.bind (values_is h h0 h1) ?_
  simp only [if_true, if_neg (show ¬ (i : Int) < 0 by omega), decide_eq_false (show ¬ (i : Int) ≥ (rs.length : Int) by omega)]
  refine Ev.step (f := fun k => (step_after.f k vs rs rs[i].f0 rs[i].f1 (valS vs c)).bind fun b => if b.2 = true then ((model_Code.f k vs rs b.1).bind fun d => some (d.1, d.2)) else some (0, 11)) (fun k => ?_) (Ev.bind (after_is h.v hin hri) ?_)
  · rw [step_After.j0, if_neg (by decide), if_pos (by omega), if_pos (by omega), rdR hi]
  · cases ho : aftS vs (valS vs c) rs[i] with
    | none => exact Ev.now _
    | some o =>
      simp only [ans, Option.elim_some, if_true]
      exact Ev.bind (code_is h (aftS_in hri hin ho)) (Ev.now _)
end
end Go.Proofs.YteennleoieafiaaDoor.Q
end
section
namespace Go.Proofs.YteennleoieafiaaDoor.Q
open Go.RowKit Go.Proofs.YteennleoieafiaaDoorW.PrintWords Go.Proofs.YteennleoieafiaaDoorW.PrintMore Go.Proofs.YteennleoieafiaaDoor.P
set_option linter.unusedVariables false
theorem has_is (l : List Int) (n : Int) (hl : l.length ≤ 1000000000) : Ev (fun k => foretellkeep_has.f k l n) (decide (n ∈ l)) := by
  have key : ∀ (d i : Nat), i + d = l.length → n ∉ l.take i → Ev (fun k => foretellkeep_has.l0 k l n (i : Int)) (decide (n ∈ l)) := by
    intro d
    induction d with
    | zero =>
      intro i hi hn
      rw [List.take_of_length_le (by omega)] at hn
      refine Ev.step (f := fun _ => some (decide (n ∈ l))) (fun k => ?_) (Ev.now _)
      rw [foretellkeep_has.l0, if_neg (by omega), decide_eq_false hn]
    | succ d ih =>
      intro i hi hn
      have hil : i < l.length := by omega
      by_cases c : l[i] = n
      · refine Ev.step (f := fun _ => some (decide (n ∈ l))) (fun k => ?_) (Ev.now _)
        rw [foretellkeep_has.l0, if_pos (by omega), if_pos (by omega), rd_eq hil, if_pos c, decide_eq_true (by rw [← c]; exact List.getElem_mem hil)]
      · refine Ev.step (f := fun k => foretellkeep_has.l0 k l n ((i + 1 : Nat) : Int)) (fun k => ?_) (ih (i + 1) (by omega) ?_)
        · rw [foretellkeep_has.l0, if_pos (by omega), if_pos (by omega), rd_eq hil, if_neg c, w64 (n := (i : Int) + 1) (by omega) (by omega)]
          rfl
        · rw [List.take_add_one, List.getElem?_eq_getElem hil]
          intro hm
          rcases List.mem_append.mp hm with hm | hm
          · exact hn hm
          · have e : n = l[i] := by simpa using hm
            exact c e.symm
  exact key l.length 0 (Nat.zero_add _) (by simp)
end Go.Proofs.YteennleoieafiaaDoor.Q
end
