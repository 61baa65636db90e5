/- The law CodeOrder: codes grow with the first variable, then with the next one. -/
import Derived.Test.YteennleoieafiaaDoorKLCodeOrder
import Derived.Test.YteennleoieafiaaDoorK6
namespace Go.Proofs.YteennleoieafiaaDoor.Q
open Go.RowKit Go.Proofs.YteennleoieafiaaDoorW.PrintWords Go.Proofs.YteennleoieafiaaDoorW.PrintMore Go.Proofs.YteennleoieafiaaDoor.P
set_option linter.unusedVariables false
theorem val_two (x y : Vr) (c : Int) : valS [x, y] c = [x.f1 + c / spn y % spn x, y.f1 + c % spn y] := rfl
theorem lex_of {s u v : Int} (hs : 0 < s) : u < v ↔ (u / s < v / s ∨ u / s = v / s ∧ u % s < v % s) := by
  have e1 := Int.mul_ediv_add_emod u s
  have e2 := Int.mul_ediv_add_emod v s
  have a0 := Int.emod_nonneg u (show s ≠ 0 by omega)
  have a1 := Int.emod_lt_of_pos u hs
  have b0 := Int.emod_nonneg v (show s ≠ 0 by omega)
  have b1 := Int.emod_lt_of_pos v hs
  generalize u / s = p at *
  generalize v / s = q at *
  have key : ∀ p q : Int, p < q → s * p + s ≤ s * q := fun p q h => by
    have h1 : s * (p + 1) ≤ s * q := Int.mul_le_mul_of_nonneg_left h (by omega)
    rw [Int.mul_add, Int.mul_one] at h1
    exact h1
  constructor
  · intro h
    rcases Int.lt_trichotomy p q with c | c | c
    · exact .inl c
    · subst c; exact .inr ⟨rfl, by omega⟩
    · have := key q p c; omega
  · rintro (c | ⟨c, h⟩)
    · have := key p q c; omega
    · subst c; omega
theorem CodeOrder : P.foretellkeep_CodeOrder.Pur := by
  intro a b c d e f l ca cb hw hca hcb
  obtain ⟨vs, rs, hm, ho⟩ := own_model hw
  obtain ⟨hp, p0, p1⟩ := pick_code ho hca
  obtain ⟨hq, q0, q1⟩ := pick_code ho hcb
  have hc := ho.cnt
  have hvu := values_is ho.m p0 p1
  have hvv := values_is ho.m q0 q1
  refine Ev.rounds (r := true) ?_
  unfold foretellkeep_CodeOrder.f
  refine Ev.bind hm (Ev.bind (count_is ho.m) ?_)
  simp only [if_true, decide_eq_false (show ¬ cnt vs < 1 by omega)]
  refine Ev.step (fun k => by rw [foretellkeep_CodeOrder.j0, if_neg (by decide)]) ?_
  refine Ev.bind hp (Ev.bind hq (Ev.bind hvu (Ev.bind hvv ?_)))
  generalize pk ca (cnt vs) = u at *
  generalize pk cb (cnt vs) = v at *
  obtain ⟨x, y, rfl, ox, oy⟩ := ho.two
  have sx := ox.spn
  have sy := oy.spn
  have hcn : cnt [x, y] = spn y * spn x := by simp [cnt]
  rw [hcn] at p1 q1
  have dm : ∀ w : Int, 0 ≤ w → w < spn y * spn x → w / spn y % spn x = w / spn y := fun w h0 h1 =>
    Int.emod_eq_of_lt (Int.ediv_nonneg h0 (by omega)) (Int.ediv_lt_of_lt_mul (by omega) (by rw [Int.mul_comm]; exact h1))
  have hlex := lex_of (s := spn y) (u := u) (v := v) (by omega)
  simp only [val_two, if_true, dm u p0 p1, dm v q0 q1]
  have r0 : ∀ s t : Int, rd [s, t] 0 = s := fun _ _ => rfl
  have r1 : ∀ s t : Int, rd [s, t] 1 = t := fun _ _ => rfl
  simp only [r0, r1, List.length_cons, List.length_nil]
  refine Ev.congr (f := fun _ => some true) (fun k => ?_) (Ev.now _)
  rw [if_pos (by decide), if_pos (by decide), if_pos (by decide), if_pos (by decide)]
  generalize u / spn y = p at *
  generalize v / spn y = q at *
  generalize u % spn y = p' at *
  generalize v % spn y = q' at *
  by_cases c1 : x.f1 + p < x.f1 + q
  · rw [if_pos c1, decide_eq_true (hlex.mpr (.inl (by omega)))]
    rfl
  · rw [if_neg c1]
    by_cases c2 : x.f1 + p = x.f1 + q
    · rw [if_pos c2]
      by_cases c3 : y.f1 + p' < y.f1 + q'
      · rw [decide_eq_true c3, decide_eq_true (hlex.mpr (.inr ⟨by omega, by omega⟩))]
        rfl
      · rw [decide_eq_false c3, decide_eq_false (fun h => by rcases hlex.mp h with h | h <;> omega)]
        rfl
    · rw [if_neg c2, decide_eq_false (fun h => by rcases hlex.mp h with h | h <;> omega)]
      rfl
end Go.Proofs.YteennleoieafiaaDoor.Q
