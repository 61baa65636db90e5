/- Lines of claims: the true one keeps all laws and lets nothing wait, and no other does. -/
import Derived.Test.YtcoaeefmmnohkaaDoorQLine
namespace Go.Proofs.YtcoaeefmmnohkaaDoor.Q
open Go.RowKit Go.Proofs.YtcoaeefmmnohkaaDoorW.PrintWords Go.Proofs.YtcoaeefmmnohkaaDoorW.PrintMore Go.Proofs.YtcoaeefmmnohkaaDoor.P
set_option linter.unusedVariables false
theorem itn_go' {n back : Nat} : ∀ (j i : Nat), i + j < n → itn n back j i = i + j
  | 0, i, _ => rfl
  | j + 1, i, h => by
    rw [itn, show nx n back i = i + 1 by unfold nx; rw [if_pos (by omega)], itn_go' j (i + 1) (by omega)]
    omega
theorem itn_back {n back : Nat} (hb : back < n) : ∀ (j i : Nat), back ≤ i → i < n → back ≤ itn n back j i ∧ itn n back j i < n
  | 0, i, h, h2 => ⟨h, h2⟩
  | j + 1, i, h, h2 => by
    rw [itn]
    refine itn_back hb j _ ?_ (nx_lt hb)
    unfold nx
    split <;> omega
theorem itn_loop {n back : Nat} (hb : back < n) {i m : Nat} (hi : i < n) (h0 : back ≤ m) (h1 : m < n) : ∃ j, itn n back j i = m := by
  refine ⟨(n - 1 - i) + (1 + (m - back)), ?_⟩
  rw [itn_add, itn_go' (n - 1 - i) i (by omega), itn_add]
  have e : itn n back 1 (i + (n - 1 - i)) = back := by
    rw [itn, itn]
    unfold nx
    rw [if_neg (by omega)]
  rw [e, itn_go' _ _ (by omega)]
  omega
/-! ### ops over moments -/
section
variable {n back : Nat} {X A Y : Nat → Bool}
def At (n back : Nat) (A : Nat → Bool) (i j : Nat) : Prop := A (itn n back j i) = true
theorem at_succ (i j : Nat) : At n back A i (1 + j) ↔ At n back A (nx n back i) j := by rw [show 1 + j = j + 1 by omega]; exact Iff.rfl
theorem fx17 (hb : back < n) (hx : ∀ i, i < n → X i = (A i || X (nx n back i))) (hm : ∃ i, back ≤ i ∧ i < n ∧ (!X i || A i) = true) (i : Nat) (hi : i < n) : X i = true ↔ ∃ j, At n back A i j := by
  constructor
  · intro h
    refine Classical.byContradiction fun hn => ?_
    have key : ∀ (j i : Nat), i < n → X i = true → (¬ ∃ j, At n back A i j) → X (itn n back j i) = true ∧ A (itn n back j i) = false := by
      intro j
      induction j with
      | zero =>
        intro i hi h hn
        refine ⟨h, ?_⟩
        show A i = false
        cases hq : A i with
        | false => rfl
        | true => exact absurd ⟨0, hq⟩ hn
      | succ j ih =>
        intro i hi h hn
        have ha : A i = false := by
          cases hq : A i with
          | false => rfl
          | true => exact absurd ⟨0, hq⟩ hn
        rw [hx i hi, ha, Bool.false_or] at h
        exact ih _ (nx_lt hb) h (fun ⟨m, hm⟩ => hn ⟨1 + m, (at_succ i m).mpr hm⟩)
    obtain ⟨m, h0, h1, h2⟩ := hm
    obtain ⟨j, hj⟩ := itn_loop hb hi h0 h1
    have := key j i hi h hn
    rw [hj] at this
    rw [this.1, this.2] at h2
    exact absurd h2 (by decide)
  · rintro ⟨j, hj⟩
    induction j generalizing i with
    | zero => rw [hx i hi, show A i = true from hj, Bool.true_or]
    | succ j ih =>
      rw [show j + 1 = 1 + j by omega] at hj
      rw [hx i hi, ih _ (nx_lt hb) ((at_succ i j).mp hj), Bool.or_true]
theorem fx18 (hb : back < n) (hx : ∀ i, i < n → X i = (A i && X (nx n back i))) (hm : ∃ i, back ≤ i ∧ i < n ∧ (X i || !A i) = true) (i : Nat) (hi : i < n) : X i = true ↔ ∀ j, At n back A i j := by
  have h := fx17 (X := fun i => !X i) (A := fun i => !A i) hb (fun i hi => by show (!X i) = (!A i || !X _); rw [hx i hi, Bool.not_and]) (by obtain ⟨m, a, b, c⟩ := hm; exact ⟨m, a, b, by show (!(!X m) || !A m) = true; rw [Bool.not_not]; exact c⟩) i hi
  constructor
  · intro hX j
    show A _ = true
    cases hq : A (itn n back j i) with
    | true => rfl
    | false =>
      have := h.mpr ⟨j, by show (!A _) = true; rw [hq]; rfl⟩
      rw [hX] at this
      exact absurd this (by decide)
  · intro hA
    cases hq : X i with
    | true => rfl
    | false =>
      obtain ⟨j, hj⟩ := h.mp (by show (!X i) = true; rw [hq]; rfl)
      have h2 : (!A (itn n back j i)) = true := hj
      rw [show A (itn n back j i) = true from hA j] at h2
      exact absurd h2 (by decide)
theorem fx15 (hb : back < n) (hx : ∀ i, i < n → X i = (Y i || A i && X (nx n back i))) (hm : ∃ i, back ≤ i ∧ i < n ∧ (!X i || Y i) = true) (i : Nat) (hi : i < n) : X i = true ↔ ∃ j, At n back Y i j ∧ ∀ m, m < j → At n back A i m := by
  constructor
  · intro h
    refine Classical.byContradiction fun hn => ?_
    have key : ∀ (j i : Nat), i < n → X i = true → (¬ ∃ j, At n back Y i j ∧ ∀ m, m < j → At n back A i m) → X (itn n back j i) = true ∧ Y (itn n back j i) = false := by
      intro j
      induction j with
      | zero =>
        intro i hi h hn
        refine ⟨h, ?_⟩
        show Y i = false
        cases hq : Y i with
        | false => rfl
        | true => exact absurd ⟨0, hq, fun m hm => by omega⟩ hn
      | succ j ih =>
        intro i hi h hn
        have ha : Y i = false := by
          cases hq : Y i with
          | false => rfl
          | true => exact absurd ⟨0, hq, fun m hm => by omega⟩ hn
        rw [hx i hi, ha, Bool.false_or, Bool.and_eq_true] at h
        refine ih _ (nx_lt hb) h.2 (fun ⟨m, hm, hk⟩ => hn ⟨1 + m, (at_succ i m).mpr hm, fun q hq => ?_⟩)
        cases q with
        | zero => exact h.1
        | succ q => rw [show q + 1 = 1 + q by omega]; exact (at_succ i q).mpr (hk q (by omega))
    obtain ⟨m, h0, h1, h2⟩ := hm
    obtain ⟨j, hj⟩ := itn_loop hb hi h0 h1
    have := key j i hi h hn
    rw [hj] at this
    rw [this.1, this.2] at h2
    exact absurd h2 (by decide)
  · rintro ⟨j, hj, hk⟩
    induction j generalizing i with
    | zero => rw [hx i hi, show Y i = true from hj, Bool.true_or]
    | succ j ih =>
      rw [show j + 1 = 1 + j by omega] at hj
      rw [hx i hi, ih _ (nx_lt hb) ((at_succ i j).mp hj) (fun m hm => (at_succ i m).mp (hk (1 + m) (by omega))), show A i = true from hk 0 (by omega)]
      simp
theorem fx16 (hb : back < n) (hx : ∀ i, i < n → X i = (Y i && (A i || X (nx n back i)))) (hm : ∃ i, back ≤ i ∧ i < n ∧ (X i || !Y i) = true) (i : Nat) (hi : i < n) : X i = true ↔ ∀ j, At n back Y i j ∨ ∃ m, m < j ∧ At n back A i m := by
  have h := fx15 (X := fun i => !X i) (A := fun i => !A i) (Y := fun i => !Y i) hb (fun i hi => by show (!X i) = (!Y i || !A i && !X _); rw [hx i hi, Bool.not_and, Bool.not_or]) (by obtain ⟨m, a, b, c⟩ := hm; exact ⟨m, a, b, by show (!(!X m) || !Y m) = true; rw [Bool.not_not]; exact c⟩) i hi
  have hneg : ∀ (B : Nat → Bool) j, At n back (fun i => !B i) i j ↔ ¬ At n back B i j := by
    intro B j
    show (!(B (itn n back j i))) = true ↔ ¬ (B (itn n back j i) = true)
    cases B (itn n back j i) <;> decide
  constructor
  · intro hX j
    refine Classical.byContradiction fun hn => ?_
    have := h.mpr ⟨j, (hneg Y j).mpr (fun hy => hn (.inl hy)), fun m hm => (hneg A m).mpr (fun ha => hn (.inr ⟨m, hm, ha⟩))⟩
    rw [hX] at this
    exact absurd this (by decide)
  · intro hA
    cases hq : X i with
    | true => rfl
    | false =>
      obtain ⟨j, hj, hk⟩ := h.mp (by show (!X i) = true; rw [hq]; rfl)
      rcases hA j with hy | ⟨m, hm, ha⟩
      · exact absurd hy ((hneg Y j).mp hj)
      · exact absurd ha ((hneg A m).mp (hk m hm))
/-! the other way round: what ops say keeps the laws and does not wait -/
theorem gx17 (hb : back < n) (hX : ∀ i, i < n → (X i = true ↔ ∃ j, At n back A i j)) : (∀ i, i < n → X i = (A i || X (nx n back i))) ∧ ∃ i, back ≤ i ∧ i < n ∧ (!X i || A i) = true := by
  refine ⟨fun i hi => Bool.eq_iff_iff.mpr ?_, ?_⟩
  · rw [hX i hi, Bool.or_eq_true, hX _ (nx_lt hb)]
    constructor
    · rintro ⟨j, hj⟩
      cases j with
      | zero => exact .inl hj
      | succ j => rw [show j + 1 = 1 + j by omega] at hj; exact .inr ⟨j, (at_succ i j).mp hj⟩
    · rintro (h | ⟨j, hj⟩)
      · exact ⟨0, h⟩
      · exact ⟨1 + j, (at_succ i j).mpr hj⟩
  · cases hq : X back with
    | false => exact ⟨back, Nat.le_refl _, hb, by rw [hq]; rfl⟩
    | true =>
      obtain ⟨j, hj⟩ := (hX back hb).mp hq
      have := itn_back hb j back (Nat.le_refl _) hb
      exact ⟨_, this.1, this.2, by rw [show A (itn n back j back) = true from hj, Bool.or_true]⟩
theorem gx18 (hb : back < n) (hX : ∀ i, i < n → (X i = true ↔ ∀ j, At n back A i j)) : (∀ i, i < n → X i = (A i && X (nx n back i))) ∧ ∃ i, back ≤ i ∧ i < n ∧ (X i || !A i) = true := by
  refine ⟨fun i hi => Bool.eq_iff_iff.mpr ?_, ?_⟩
  · rw [hX i hi, Bool.and_eq_true, hX _ (nx_lt hb)]
    constructor
    · exact fun h => ⟨h 0, fun j => (at_succ i j).mp (h (1 + j))⟩
    · rintro ⟨h, h2⟩ j
      cases j with
      | zero => exact h
      | succ j => rw [show j + 1 = 1 + j by omega]; exact (at_succ i j).mpr (h2 j)
  · refine Classical.byContradiction fun hn => ?_
    have hall : ∀ i, back ≤ i → i < n → A i = true := by
      intro i h0 h1
      cases hq : A i with
      | true => rfl
      | false => exact absurd ⟨i, h0, h1, by rw [hq]; simp⟩ hn
    have : X back = true := (hX back hb).mpr (fun j => by have := itn_back hb j back (Nat.le_refl _) hb; exact hall _ this.1 this.2)
    exact hn ⟨back, Nat.le_refl _, hb, by rw [this]; rfl⟩
theorem gx15 (hb : back < n) (hX : ∀ i, i < n → (X i = true ↔ ∃ j, At n back Y i j ∧ ∀ m, m < j → At n back A i m)) : (∀ i, i < n → X i = (Y i || A i && X (nx n back i))) ∧ ∃ i, back ≤ i ∧ i < n ∧ (!X i || Y i) = true := by
  refine ⟨fun i hi => Bool.eq_iff_iff.mpr ?_, ?_⟩
  · rw [hX i hi, Bool.or_eq_true, Bool.and_eq_true, hX _ (nx_lt hb)]
    constructor
    · rintro ⟨j, hj, hk⟩
      cases j with
      | zero => exact .inl hj
      | succ j =>
        rw [show j + 1 = 1 + j by omega] at hj
        exact .inr ⟨hk 0 (by omega), j, (at_succ i j).mp hj, fun m hm => (at_succ i m).mp (hk (1 + m) (by omega))⟩
    · rintro (h | ⟨h, j, hj, hk⟩)
      · exact ⟨0, h, fun m hm => by omega⟩
      · refine ⟨1 + j, (at_succ i j).mpr hj, fun m hm => ?_⟩
        cases m with
        | zero => exact h
        | succ m => rw [show m + 1 = 1 + m by omega]; exact (at_succ i m).mpr (hk m (by omega))
  · cases hq : X back with
    | false => exact ⟨back, Nat.le_refl _, hb, by rw [hq]; rfl⟩
    | true =>
      obtain ⟨j, hj, _⟩ := (hX back hb).mp hq
      have := itn_back hb j back (Nat.le_refl _) hb
      exact ⟨_, this.1, this.2, by rw [show Y (itn n back j back) = true from hj, Bool.or_true]⟩
theorem gx16 (hb : back < n) (hX : ∀ i, i < n → (X i = true ↔ ∀ j, At n back Y i j ∨ ∃ m, m < j ∧ At n back A i m)) : (∀ i, i < n → X i = (Y i && (A i || X (nx n back i)))) ∧ ∃ i, back ≤ i ∧ i < n ∧ (X i || !Y i) = true := by
  refine ⟨fun i hi => Bool.eq_iff_iff.mpr ?_, ?_⟩
  · rw [hX i hi, Bool.and_eq_true, Bool.or_eq_true, hX _ (nx_lt hb)]
    constructor
    · intro h
      refine ⟨?_, ?_⟩
      · rcases h 0 with h | ⟨m, hm, _⟩
        · exact h
        · omega
      · cases hq : A i with
        | true => exact .inl rfl
        | false =>
          refine .inr (fun j => ?_)
          rcases h (1 + j) with h | ⟨m, hm, ha⟩
          · exact .inl ((at_succ i j).mp h)
          · cases m with
            | zero => exact absurd (show A i = true from ha) (by rw [hq]; decide)
            | succ m => rw [show m + 1 = 1 + m by omega] at ha; exact .inr ⟨m, by omega, (at_succ i m).mp ha⟩
    · rintro ⟨h, h2⟩ j
      cases j with
      | zero => exact .inl h
      | succ j =>
        rw [show j + 1 = 1 + j by omega]
        rcases h2 with h2 | h2
        · exact .inr ⟨0, by omega, h2⟩
        · rcases h2 j with q | ⟨m, hm, q⟩
          · exact .inl ((at_succ i j).mpr q)
          · exact .inr ⟨1 + m, by omega, (at_succ i m).mpr q⟩
  · refine Classical.byContradiction fun hn => ?_
    have hall : ∀ i, back ≤ i → i < n → Y i = true := by
      intro i h0 h1
      cases hq : Y i with
      | true => rfl
      | false => exact absurd ⟨i, h0, h1, by rw [hq]; simp⟩ hn
    have : X back = true := (hX back hb).mpr (fun j => by have := itn_back hb j back (Nat.le_refl _) hb; exact .inl (hall _ this.1 this.2))
    exact hn ⟨back, Nat.le_refl _, hb, by rw [this]; rfl⟩
end
/-! ### lines of claims -/
section
variable {xs : List (List Bool)} {back : Nat} {props : Int} {B : Nat → Nat → Bool}
def xl (xs : List (List Bool)) (i : Nat) : List Bool := xs.getD i []
theorem at_says {A : Nat → Bool} {a : Tm} (hb : back < xs.length) (ha : ∀ i, i < xs.length → (A i = true ↔ a.says (uw xs back i))) (i : Nat) (hi : i < xs.length) (j : Nat) : At xs.length back A i j ↔ a.says ((uw xs back i).from_ j) := by
  rw [uw_from]
  exact ha _ (itn_lt hb j i hi)
/-- What an op says, moment by moment, of the truths of its parts. -/
theorem op_says (hb : back < xs.length) {o : Int} (ho : 14 ≤ o ∧ o ≤ 18) {X A Y : Nat → Bool} {P : Nat → Prop} (hP : ∀ i, i < xs.length → (P i ↔ if o = 14 then At xs.length back A i 1 else if o = 17 then ∃ j, At xs.length back A i j else if o = 18 then ∀ j, At xs.length back A i j else if o = 15 then ∃ j, At xs.length back Y i j ∧ ∀ m, m < j → At xs.length back A i m else ∀ j, At xs.length back Y i j ∨ ∃ m, m < j ∧ At xs.length back A i m)) :
    ((∀ i, i < xs.length → lawB o (X i) (X (nx xs.length back i)) (A i) (A (nx xs.length back i)) (Y i) = true) → (∃ i, back ≤ i ∧ i < xs.length ∧ metB o (X i) (A i) (Y i) = true) → ∀ i, i < xs.length → (X i = true ↔ P i)) ∧
    ((∀ i, i < xs.length → (X i = true ↔ P i)) → (∀ i, i < xs.length → lawB o (X i) (X (nx xs.length back i)) (A i) (A (nx xs.length back i)) (Y i) = true) ∧ ∃ i, back ≤ i ∧ i < xs.length ∧ metB o (X i) (A i) (Y i) = true) := by
  unfold lawB metB
  by_cases k14 : o = 14
  · simp only [if_pos k14] at hP ⊢
    refine ⟨fun h _ i hi => ?_, fun h => ⟨fun i hi => ?_, ⟨back, Nat.le_refl _, hb, by first | trivial | rfl⟩⟩⟩
    · rw [eq_of_beq (h i hi), hP i hi]
      exact Iff.rfl
    · rw [beq_iff_eq]
      exact Bool.eq_iff_iff.mpr ((h i hi).trans (hP i hi))
  by_cases k17 : o = 17
  · simp only [if_neg k14, if_pos k17] at hP ⊢
    refine ⟨fun h hm i hi => (fx17 hb (fun i hi => eq_of_beq (h i hi)) hm i hi).trans (hP i hi).symm, fun h => ?_⟩
    obtain ⟨g1, g2⟩ := gx17 hb (fun i hi => (h i hi).trans (hP i hi))
    exact ⟨fun i hi => beq_iff_eq.mpr (g1 i hi), g2⟩
  by_cases k18 : o = 18
  · simp only [if_neg k14, if_neg k17, if_pos k18] at hP ⊢
    refine ⟨fun h hm i hi => (fx18 hb (fun i hi => eq_of_beq (h i hi)) hm i hi).trans (hP i hi).symm, fun h => ?_⟩
    obtain ⟨g1, g2⟩ := gx18 hb (fun i hi => (h i hi).trans (hP i hi))
    exact ⟨fun i hi => beq_iff_eq.mpr (g1 i hi), g2⟩
  by_cases k15 : o = 15
  · simp only [if_neg k14, if_neg k17, if_neg k18, if_pos k15] at hP ⊢
    refine ⟨fun h hm i hi => (fx15 hb (fun i hi => eq_of_beq (h i hi)) hm i hi).trans (hP i hi).symm, fun h => ?_⟩
    obtain ⟨g1, g2⟩ := gx15 hb (fun i hi => (h i hi).trans (hP i hi))
    exact ⟨fun i hi => beq_iff_eq.mpr (g1 i hi), g2⟩
  · simp only [if_neg k14, if_neg k17, if_neg k18, if_neg k15] at hP ⊢
    refine ⟨fun h hm i hi => (fx16 hb (fun i hi => eq_of_beq (h i hi)) hm i hi).trans (hP i hi).symm, fun h => ?_⟩
    obtain ⟨g1, g2⟩ := gx16 hb (fun i hi => (h i hi).trans (hP i hi))
    exact ⟨fun i hi => beq_iff_eq.mpr (g1 i hi), g2⟩
theorem says_un {o : Int} (ho : o = 14 ∨ o = 17 ∨ o = 18) {a : Tm} {A Y : Nat → Bool} (hb : back < xs.length) (ha : ∀ i, i < xs.length → (A i = true ↔ a.says (uw xs back i))) (i : Nat) (hi : i < xs.length) :
    (Tm.un ⟨o, 0⟩ a).says (uw xs back i) ↔ if o = 14 then At xs.length back A i 1 else if o = 17 then ∃ j, At xs.length back A i j else if o = 18 then ∀ j, At xs.length back A i j else if o = 15 then ∃ j, At xs.length back Y i j ∧ ∀ m, m < j → At xs.length back A i m else ∀ j, At xs.length back Y i j ∨ ∃ m, m < j ∧ At xs.length back A i m := by
  have h := at_says hb ha i hi
  rcases ho with rfl | rfl | rfl
  · show a.says ((uw xs back i).from_ 1) ↔ At xs.length back A i 1
    exact (h 1).symm
  · show (∃ j, a.says ((uw xs back i).from_ j)) ↔ ∃ j, At xs.length back A i j
    exact exists_congr fun j => (h j).symm
  · show (∀ j, a.says ((uw xs back i).from_ j)) ↔ ∀ j, At xs.length back A i j
    exact forall_congr' fun j => (h j).symm
theorem says_bin {o : Int} (ho : o = 15 ∨ o = 16) {a y : Tm} {A Y : Nat → Bool} (hb : back < xs.length) (ha : ∀ i, i < xs.length → (A i = true ↔ a.says (uw xs back i))) (hy : ∀ i, i < xs.length → (Y i = true ↔ y.says (uw xs back i))) (i : Nat) (hi : i < xs.length) :
    (Tm.bin ⟨o, 0⟩ a y).says (uw xs back i) ↔ if o = 14 then At xs.length back A i 1 else if o = 17 then ∃ j, At xs.length back A i j else if o = 18 then ∀ j, At xs.length back A i j else if o = 15 then ∃ j, At xs.length back Y i j ∧ ∀ m, m < j → At xs.length back A i m else ∀ j, At xs.length back Y i j ∨ ∃ m, m < j ∧ At xs.length back A i m := by
  have h := at_says hb ha i hi
  have g := at_says hb hy i hi
  rcases ho with rfl | rfl
  · show (∃ j, y.says ((uw xs back i).from_ j) ∧ ∀ m, m < j → a.says ((uw xs back i).from_ m)) ↔ ∃ j, At xs.length back Y i j ∧ ∀ m, m < j → At xs.length back A i m
    exact exists_congr fun j => and_congr (g j).symm (forall_congr' fun m => imp_congr Iff.rfl (h m).symm)
  · show (∀ j, y.says ((uw xs back i).from_ j) ∨ ∃ m, m < j ∧ a.says ((uw xs back i).from_ m)) ↔ ∀ j, At xs.length back Y i j ∨ ∃ m, m < j ∧ At xs.length back A i m
    exact forall_congr' fun j => or_congr (g j).symm (exists_congr fun m => and_congr Iff.rfl (h m).symm)
/-- Which claims of a term are true. -/
def TrueAt (xs : List (List Bool)) (back : Nat) (B : Nat → Nat → Bool) (j : Nat) (t : Tm) : Prop := ∀ k s, t.asub[k]? = some s → ∀ i, i < xs.length → (B i (j + k) = true ↔ s.says (uw xs back i))
def Fits (xs : List (List Bool)) (back : Nat) (B : Nat → Nat → Bool) (j : Nat) (t : Tm) : Prop := (∀ i, i < xs.length → keepT (xl xs i) (xl xs (nx xs.length back i)) (B i) (B (nx xs.length back i)) j t = true) ∧ ∀ k, k < t.tempo → ∃ i, back ≤ i ∧ i < xs.length ∧ (mfl (xl xs i) (B i) j t).getD k false = true
theorem TrueAt.app {j : Nat} {a b : Tm} (ha : a.asub.length = a.tempo) {l : List Tm} (h1 : TrueAt xs back B j a) (h2 : TrueAt xs back B (j + a.tempo) b) : ∀ k s, (a.asub ++ b.asub)[k]? = some s → ∀ i, i < xs.length → (B i (j + k) = true ↔ s.says (uw xs back i)) := by
  intro k s hk i hi
  rcases Nat.lt_or_ge k a.asub.length with c | c
  · rw [List.getElem?_append_left c] at hk; exact h1 k s hk i hi
  · rw [List.getElem?_append_right c] at hk
    have := h2 _ s hk i hi
    rw [show j + a.tempo + (k - a.asub.length) = j + k by omega] at this
    exact this
theorem line_true (hb : back < xs.length) {t : Tm} (h : FormT props t) : ∀ j, (Fits xs back B j t ↔ TrueAt xs back B j t) ∧ (TrueAt xs back B j t → ∀ i, i < xs.length → (tval (xl xs i) (B i) j t = true ↔ t.says (uw xs back i))) := by
  induction h with
  | prop v h0 h1 => intro j; exact ⟨⟨fun _ k s hk => by simp [Tm.asub] at hk, fun _ => ⟨fun i hi => rfl, fun k hk => absurd hk (by simp [Tm.tempo])⟩⟩, fun _ i hi => Iff.rfl⟩
  | yes o h =>
    intro j
    refine ⟨⟨fun _ k s hk => by simp [Tm.asub] at hk, fun _ => ⟨fun i hi => rfl, fun k hk => absurd hk (by simp [Tm.tempo])⟩⟩, fun _ i hi => ?_⟩
    rcases h with rfl | rfl
    · exact ⟨fun _ => rfl, fun _ => rfl⟩
    · exact ⟨fun h => absurd (show decide ((12 : Int) = 11) = true from h) (by decide), fun h => absurd (show (12 : Int) = 11 from h) (by decide)⟩
  | not a ha ih =>
    intro j
    obtain ⟨i1, i2⟩ := ih j
    have hk : ∀ L L' b b', keepT L L' b b' j (.un ⟨10, 0⟩ a) = keepT L L' b b' j a := fun L L' b b' => by rw [keepT]; exact if_pos rfl
    have hm : ∀ L b, mfl L b j (.un ⟨10, 0⟩ a) = mfl L b j a := fun L b => by rw [mfl]; exact if_pos rfl
    have ht : TrueAt xs back B j (.un ⟨10, 0⟩ a) ↔ TrueAt xs back B j a := by unfold TrueAt; rw [asub_not]
    refine ⟨?_, fun h i hi => ?_⟩
    · rw [ht, ← i1]
      unfold Fits
      simp only [hk, hm, tempo_not]
    · have hv : tval (xl xs i) (B i) j (.un ⟨10, 0⟩ a) = !(tval (xl xs i) (B i) j a) := by rw [tval]; exact if_pos rfl
      have hs : (Tm.un ⟨10, 0⟩ a).says (uw xs back i) ↔ ¬ a.says (uw xs back i) := Iff.rfl
      rw [hv, hs, ← i2 (ht.mp h) i hi]
      cases tval (xl xs i) (B i) j a <;> simp
  | log o a b h ha hb' iha ihb =>
    intro j
    obtain ⟨a1, a2⟩ := iha j
    obtain ⟨b1, b2⟩ := ihb (j + a.tempo)
    have hk : ∀ L L' c c', keepT L L' c c' j (.bin ⟨o, 0⟩ a b) = (keepT L L' c c' j a && keepT L L' c c' (j + a.tempo) b) := fun L L' c c' => by rw [keepT]; exact if_pos h
    have hm : ∀ L c, mfl L c j (.bin ⟨o, 0⟩ a b) = mfl L c j a ++ mfl L c (j + a.tempo) b := fun L c => by rw [mfl]; exact if_pos h
    have hal := asub_len ha
    have ht : TrueAt xs back B j (.bin ⟨o, 0⟩ a b) ↔ TrueAt xs back B j a ∧ TrueAt xs back B (j + a.tempo) b := by
      constructor
      · intro q
        refine ⟨fun k s hs i hi => q k s (by rw [asub_log a b h, List.getElem?_append_left (List.getElem?_eq_some_iff.1 hs).1]; exact hs) i hi, fun k s hs i hi => ?_⟩
        have := q (a.tempo + k) s (by rw [asub_log a b h, List.getElem?_append_right (by omega), hal, Nat.add_sub_cancel_left]; exact hs) i hi
        rw [show j + (a.tempo + k) = j + a.tempo + k by omega] at this
        exact this
      · rintro ⟨q1, q2⟩ k s hs
        rw [asub_log a b h] at hs
        exact q1.app (l := []) hal q2 k s hs
    refine ⟨?_, fun q i hi => ?_⟩
    · rw [ht, ← a1, ← b1]
      unfold Fits
      simp only [hk, hm, tempo_log a b h]
      constructor
      · rintro ⟨q1, q2⟩
        refine ⟨⟨fun i hi => (Bool.and_eq_true _ _ ▸ q1 i hi).1, fun k hk' => ?_⟩, ⟨fun i hi => (Bool.and_eq_true _ _ ▸ q1 i hi).2, fun k hk' => ?_⟩⟩
        · obtain ⟨i, x1, x2, x3⟩ := q2 k (by omega)
          refine ⟨i, x1, x2, ?_⟩
          rw [List.getD_eq_getElem?_getD, List.getElem?_append_left (by rw [mfl_len ha]; exact hk')] at x3
          rw [List.getD_eq_getElem?_getD]; exact x3
        · obtain ⟨i, x1, x2, x3⟩ := q2 (a.tempo + k) (by omega)
          refine ⟨i, x1, x2, ?_⟩
          rw [List.getD_eq_getElem?_getD, List.getElem?_append_right (by rw [mfl_len ha]; omega), mfl_len ha, Nat.add_sub_cancel_left] at x3
          rw [List.getD_eq_getElem?_getD]; exact x3
      · rintro ⟨⟨q1, q2⟩, ⟨q3, q4⟩⟩
        refine ⟨fun i hi => by rw [q1 i hi, q3 i hi]; rfl, fun k hk' => ?_⟩
        rcases Nat.lt_or_ge k a.tempo with c | c
        · obtain ⟨i, x1, x2, x3⟩ := q2 k c
          refine ⟨i, x1, x2, ?_⟩
          rw [List.getD_eq_getElem?_getD, List.getElem?_append_left (by rw [mfl_len ha]; exact c)]
          rw [List.getD_eq_getElem?_getD] at x3; exact x3
        · obtain ⟨i, x1, x2, x3⟩ := q4 (k - a.tempo) (by omega)
          refine ⟨i, x1, x2, ?_⟩
          rw [List.getD_eq_getElem?_getD, List.getElem?_append_right (by rw [mfl_len ha]; omega), mfl_len ha]
          rw [List.getD_eq_getElem?_getD] at x3; exact x3
    · obtain ⟨q1, q2⟩ := ht.mp q
      have va := a2 q1 i hi
      have vb := b2 q2 i hi
      rcases h with rfl | rfl
      · show (tval (xl xs i) (B i) j a && tval (xl xs i) (B i) (j + a.tempo) b) = true ↔ a.says (uw xs back i) ∧ b.says (uw xs back i)
        rw [Bool.and_eq_true, va, vb]
      · show (tval (xl xs i) (B i) j a || tval (xl xs i) (B i) (j + a.tempo) b) = true ↔ a.says (uw xs back i) ∨ b.says (uw xs back i)
        rw [Bool.or_eq_true, va, vb]
  | look o a h ha ih =>
    intro j
    have ho10 : o ≠ 10 := by omega
    obtain ⟨i1, i2⟩ := ih (j + 1)
    have hk : ∀ L L' c c', keepT L L' c c' j (.un ⟨o, 0⟩ a) = (lawB o (c j) (c' j) (tval L c (j + 1) a) (tval L' c' (j + 1) a) false && keepT L L' c c' (j + 1) a) := fun L L' c c' => by rw [keepT]; exact if_neg ho10
    have hm : ∀ L c, mfl L c j (.un ⟨o, 0⟩ a) = metB o (c j) (tval L c (j + 1) a) false :: mfl L c (j + 1) a := fun L c => by rw [mfl]; exact if_neg ho10
    have ht : TrueAt xs back B j (.un ⟨o, 0⟩ a) ↔ (∀ i, i < xs.length → (B i j = true ↔ (Tm.un ⟨o, 0⟩ a).says (uw xs back i))) ∧ TrueAt xs back B (j + 1) a := by
      unfold TrueAt
      rw [asub_look a ho10]
      constructor
      · intro q
        refine ⟨fun i hi => q 0 _ rfl i hi, fun k s hs i hi => ?_⟩
        have := q (k + 1) s hs i hi
        rw [show j + (k + 1) = j + 1 + k by omega] at this
        exact this
      · rintro ⟨q1, q2⟩ k s hs i hi
        cases k with
        | zero =>
          obtain rfl := Option.some.inj hs
          exact q1 i hi
        | succ k =>
          rw [show j + (k + 1) = j + 1 + k by omega]
          exact q2 k s hs i hi
    refine ⟨?_, fun q i hi => ?_⟩
    · have hf : Fits xs back B j (.un ⟨o, 0⟩ a) ↔ ((∀ i, i < xs.length → lawB o (B i j) (B (nx xs.length back i) j) (tval (xl xs i) (B i) (j + 1) a) (tval (xl xs (nx xs.length back i)) (B (nx xs.length back i)) (j + 1) a) false = true) ∧ ∃ i, back ≤ i ∧ i < xs.length ∧ metB o (B i j) (tval (xl xs i) (B i) (j + 1) a) false = true) ∧ Fits xs back B (j + 1) a := by
        unfold Fits
        simp only [hk, hm, tempo_look a ho10]
        constructor
        · rintro ⟨q1, q2⟩
          refine ⟨⟨fun i hi => (Bool.and_eq_true _ _ ▸ q1 i hi).1, q2 0 (by omega)⟩, ⟨fun i hi => (Bool.and_eq_true _ _ ▸ q1 i hi).2, fun k hk' => q2 (k + 1) (by omega)⟩⟩
        · rintro ⟨⟨q1, q2⟩, ⟨q3, q4⟩⟩
          refine ⟨fun i hi => by rw [q1 i hi, q3 i hi]; rfl, fun k hk' => ?_⟩
          cases k with
          | zero => exact q2
          | succ k => exact q4 k (by omega)
      rw [hf, ht, i1]
      refine and_congr_left fun q => ?_
      have hoo : 14 ≤ o ∧ o ≤ 18 := by rcases h with h | h | h <;> (rw [h]; decide)
      have hs := op_says (o := o) (X := fun i => B i j) (A := fun i => tval (xl xs i) (B i) (j + 1) a) (Y := fun _ => false) hb hoo (says_un (Y := fun _ => false) h hb (i2 q))
      exact ⟨fun ⟨x, y⟩ => hs.1 x y, fun x => hs.2 x⟩
    · have hv : tval (xl xs i) (B i) j (.un ⟨o, 0⟩ a) = B i j := by rw [tval]; exact if_neg ho10
      rw [hv]
      exact (ht.mp q).1 i hi
  | unto o a b h ha hb' iha ihb =>
    intro j
    have ho : ¬ (o = 8 ∨ o = 9) := by omega
    obtain ⟨a1, a2⟩ := iha (j + 1)
    obtain ⟨b1, b2⟩ := ihb (j + 1 + a.tempo)
    have hal := asub_len ha
    have hk : ∀ L L' c c', keepT L L' c c' j (.bin ⟨o, 0⟩ a b) = (lawB o (c j) (c' j) (tval L c (j + 1) a) false (tval L c (j + 1 + a.tempo) b) && (keepT L L' c c' (j + 1) a && keepT L L' c c' (j + 1 + a.tempo) b)) := fun L L' c c' => by rw [keepT]; exact if_neg ho
    have hm : ∀ L c, mfl L c j (.bin ⟨o, 0⟩ a b) = metB o (c j) (tval L c (j + 1) a) (tval L c (j + 1 + a.tempo) b) :: (mfl L c (j + 1) a ++ mfl L c (j + 1 + a.tempo) b) := fun L c => by rw [mfl]; exact if_neg ho
    have ht : TrueAt xs back B j (.bin ⟨o, 0⟩ a b) ↔ (∀ i, i < xs.length → (B i j = true ↔ (Tm.bin ⟨o, 0⟩ a b).says (uw xs back i))) ∧ (TrueAt xs back B (j + 1) a ∧ TrueAt xs back B (j + 1 + a.tempo) b) := by
      constructor
      · intro q
        unfold TrueAt at q
        rw [asub_unto a b ho] at q
        refine ⟨fun i hi => q 0 _ rfl i hi, fun k s hs i hi => ?_, fun k s hs i hi => ?_⟩
        · have := q (k + 1) s (by rw [List.getElem?_cons_succ, List.getElem?_append_left (List.getElem?_eq_some_iff.1 hs).1]; exact hs) i hi
          rw [show j + (k + 1) = j + 1 + k by omega] at this
          exact this
        · have := q (a.tempo + k + 1) s (by rw [List.getElem?_cons_succ, List.getElem?_append_right (by omega), hal, Nat.add_sub_cancel_left]; exact hs) i hi
          rw [show j + (a.tempo + k + 1) = j + 1 + a.tempo + k by omega] at this
          exact this
      · rintro ⟨q1, q2, q3⟩ k s hs i hi
        rw [asub_unto a b ho] at hs
        cases k with
        | zero =>
          obtain rfl := Option.some.inj hs
          exact q1 i hi
        | succ k =>
          rw [show j + (k + 1) = j + 1 + k by omega]
          exact q2.app (l := []) hal q3 k s hs i hi
    refine ⟨?_, fun q i hi => ?_⟩
    · have hf : Fits xs back B j (.bin ⟨o, 0⟩ a b) ↔ ((∀ i, i < xs.length → lawB o (B i j) (B (nx xs.length back i) j) (tval (xl xs i) (B i) (j + 1) a) (tval (xl xs (nx xs.length back i)) (B (nx xs.length back i)) (j + 1) a) (tval (xl xs i) (B i) (j + 1 + a.tempo) b) = true) ∧ ∃ i, back ≤ i ∧ i < xs.length ∧ metB o (B i j) (tval (xl xs i) (B i) (j + 1) a) (tval (xl xs i) (B i) (j + 1 + a.tempo) b) = true) ∧ (Fits xs back B (j + 1) a ∧ Fits xs back B (j + 1 + a.tempo) b) := by
        have hlaw : ∀ me la x x' y, lawB o me la x false y = lawB o me la x x' y := by
          intro me la x x' y
          unfold lawB
          rw [if_neg (show ¬ o = 14 by omega), if_neg (show ¬ o = 14 by omega)]
        unfold Fits
        simp only [hk, hm, tempo_unto a b ho]
        constructor
        · rintro ⟨q1, q2⟩
          refine ⟨⟨fun i hi => ?_, q2 0 (by omega)⟩, ⟨fun i hi => ?_, fun k hk' => ?_⟩, ⟨fun i hi => ?_, fun k hk' => ?_⟩⟩
          · have := q1 i hi
            rw [Bool.and_eq_true] at this
            rw [← hlaw]
            exact this.1
          · have := q1 i hi
            rw [Bool.and_eq_true, Bool.and_eq_true] at this
            exact this.2.1
          · obtain ⟨i, x1, x2, x3⟩ := q2 (k + 1) (by omega)
            refine ⟨i, x1, x2, ?_⟩
            rw [List.getD_cons_succ, List.getD_eq_getElem?_getD, List.getElem?_append_left (by rw [mfl_len ha]; exact hk')] at x3
            rw [List.getD_eq_getElem?_getD]; exact x3
          · have := q1 i hi
            rw [Bool.and_eq_true, Bool.and_eq_true] at this
            exact this.2.2
          · obtain ⟨i, x1, x2, x3⟩ := q2 (a.tempo + k + 1) (by omega)
            refine ⟨i, x1, x2, ?_⟩
            rw [List.getD_cons_succ, List.getD_eq_getElem?_getD, List.getElem?_append_right (by rw [mfl_len ha]; omega), mfl_len ha, Nat.add_sub_cancel_left] at x3
            rw [List.getD_eq_getElem?_getD]; exact x3
        · rintro ⟨⟨q1, q2⟩, ⟨q3, q4⟩, ⟨q5, q6⟩⟩
          refine ⟨fun i hi => ?_, fun k hk' => ?_⟩
          · have := q1 i hi
            rw [← hlaw] at this
            rw [this, q3 i hi, q5 i hi]
            rfl
          · cases k with
            | zero => exact q2
            | succ k =>
              rcases Nat.lt_or_ge k a.tempo with c | c
              · obtain ⟨i, x1, x2, x3⟩ := q4 k c
                refine ⟨i, x1, x2, ?_⟩
                rw [List.getD_cons_succ, List.getD_eq_getElem?_getD, List.getElem?_append_left (by rw [mfl_len ha]; exact c)]
                rw [List.getD_eq_getElem?_getD] at x3; exact x3
              · obtain ⟨i, x1, x2, x3⟩ := q6 (k - a.tempo) (by omega)
                refine ⟨i, x1, x2, ?_⟩
                rw [List.getD_cons_succ, List.getD_eq_getElem?_getD, List.getElem?_append_right (by rw [mfl_len ha]; omega), mfl_len ha]
                rw [List.getD_eq_getElem?_getD] at x3; exact x3
      rw [hf, ht, a1, b1]
      refine and_congr_left fun q => ?_
      have hoo : 14 ≤ o ∧ o ≤ 18 := by rcases h with h | h <;> (rw [h]; decide)
      have hs := op_says (o := o) (X := fun i => B i j) (A := fun i => tval (xl xs i) (B i) (j + 1) a) (Y := fun i => tval (xl xs i) (B i) (j + 1 + a.tempo) b) hb hoo (says_bin h hb (a2 q.1) (b2 q.2))
      exact ⟨fun ⟨x, y⟩ => hs.1 x y, fun x => hs.2 x⟩
    · have hv : tval (xl xs i) (B i) j (.bin ⟨o, 0⟩ a b) = B i j := by rw [tval]; exact if_neg ho
      rw [hv]
      exact (ht.mp q).1 i hi
end
end Go.Proofs.YtcoaeefmmnohkaaDoor.Q
