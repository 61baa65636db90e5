/- The plain law of TruthTurns: truths are what their parts make them: Not turns, a claim is told as it is. -/
import Derived.Test.YtcoaeefmmnohkaaDoorLTruthTurns
import Derived.Test.YtcoaeefmmnohkaaDoorQTruths
import Derived.Test.YtcoaeefmmnohkaaDoorQJoin
import Derived.Test.YtcoaeefmmnohkaaDoorQLetter
namespace Go.Proofs.YtcoaeefmmnohkaaDoor.Q
open Go.RowKit Go.Proofs.YtcoaeefmmnohkaaDoorW.PrintWords Go.Proofs.YtcoaeefmmnohkaaDoorW.PrintMore Go.Proofs.YtcoaeefmmnohkaaDoor.P
set_option linter.unusedVariables false
/-- Each op that looks ahead has its claim's bit. -/
def AllAt (c : Int) : Nat → List Op → List Bool → Prop
  | _, [], vs => vs = []
  | j, o :: l, vs => ∃ v vs', vs = v :: vs' ∧ if ah o = true then v = bit c j ∧ AllAt c (j + 1) l vs' else AllAt c j l vs'
theorem AllAt.app {c : Int} : ∀ {l : List Op} {vs : List Bool} {j : Nat} {l2 : List Op} {vs2 : List Bool}, AllAt c j l vs → AllAt c (j + cnt l) l2 vs2 → AllAt c j (l ++ l2) (vs ++ vs2)
  | [], vs, j, l2, vs2, h, h2 => by
    obtain rfl : vs = [] := h
    exact h2
  | o :: l, vs, j, l2, vs2, h, h2 => by
    obtain ⟨v, vs', rfl, h⟩ := h
    refine ⟨v, vs' ++ vs2, rfl, ?_⟩
    by_cases q : ah o = true
    · rw [if_pos q] at h ⊢
      refine ⟨h.1, AllAt.app h.2 ?_⟩
      rw [show j + cnt (o :: l) = j + 1 + cnt l by simp [cnt, List.countP_cons, q]; omega] at h2
      exact h2
    · rw [if_neg q] at h ⊢
      refine AllAt.app h ?_
      rw [show j + cnt (o :: l) = j + cnt l by simp [cnt, List.countP_cons, q]] at h2
      exact h2
theorem tv_all {props : Int} {letter : List Bool} {c : Int} {t : Tm} (h : FormT props t) : ∀ j, AllAt c j t.flat (t.tv letter c j) := by
  induction h with
  | prop v => intro j; exact ⟨_, [], rfl, by rw [if_neg (show ¬ (ah ⟨13, v⟩ = true) by simp [ah])]; rfl⟩
  | yes o h =>
    intro j
    refine ⟨_, [], rfl, ?_⟩
    rw [if_neg (show ¬ (ah ⟨o, 0⟩ = true) by simp [ah]; omega)]
    rfl
  | not a ha ih =>
    intro j
    refine ⟨_, _, if_pos rfl, ?_⟩
    rw [if_neg (show ¬ (ah ⟨10, 0⟩ = true) by simp [ah])]
    exact ih j
  | look o a h ha ih =>
    intro j
    refine ⟨_, _, if_neg (show ¬ o = 10 by omega), ?_⟩
    rw [if_pos (show ah ⟨o, 0⟩ = true by simp [ah]; omega)]
    exact ⟨rfl, ih (j + 1)⟩
  | log o a b h ha hb iha ihb =>
    intro j
    refine ⟨_, _, if_pos h, ?_⟩
    rw [if_neg (show ¬ (ah ⟨o, 0⟩ = true) by simp [ah]; omega)]
    refine (iha j).app ?_
    rw [ha.cnt]
    exact ihb _
  | unto o a b h ha hb iha ihb =>
    intro j
    refine ⟨_, _, if_neg (show ¬ (o = 8 ∨ o = 9) by omega), ?_⟩
    rw [if_pos (show ah ⟨o, 0⟩ = true by simp [ah]; omega)]
    refine ⟨rfl, (iha (j + 1)).app ?_⟩
    rw [ha.cnt]
    exact ihb _
theorem at_ahead {c : Int} : ∀ {l : List Op} {vs : List Bool} {j : Nat}, AllAt c j l vs → ∀ (p : Int) (i : Nat), i < (aheadL p l).length → ∃ q : Nat, (aheadL p l).getD i 0 = p + q ∧ q < vs.length ∧ vs.getD q false = bit c (j + i)
  | [], vs, j, h, p, i, hi => by simp [aheadL] at hi
  | o :: l, vs, j, h, p, i, hi => by
    obtain ⟨v, vs', rfl, h⟩ := h
    by_cases q : ah o = true
    · rw [if_pos q] at h
      rw [aheadL, if_pos q] at hi ⊢
      cases i with
      | zero => exact ⟨0, by simp, by simp, by simpa using h.1⟩
      | succ i =>
        obtain ⟨x, h1, h2, h3⟩ := at_ahead h.2 (p + 1) i (by simpa using hi)
        refine ⟨x + 1, ?_, by simp; omega, ?_⟩
        · rw [List.getD_cons_succ, h1]; omega
        · rw [List.getD_cons_succ, h3]; congr 1; omega
    · rw [if_neg q] at h
      rw [aheadL, if_neg q] at hi ⊢
      obtain ⟨x, h1, h2, h3⟩ := at_ahead h (p + 1) i hi
      refine ⟨x + 1, ?_, by simp; omega, ?_⟩
      · rw [h1]; omega
      · rw [List.getD_cons_succ, h3]
theorem turns_l1 (V : List Bool) (b : Bool) (hV : V.length ≤ 1000) : ∀ (d i : Nat), i + d = V.length → Ev (fun k => foretellkeep_TruthTurns.l1 k V (b :: V) (i : Int)) true := by
  intro d
  induction d with
  | zero =>
    intro i hi
    refine Ev.step (f := fun _ => some true) (fun k => ?_) (Ev.now _)
    simp only [foretellkeep_TruthTurns.l1]
    rw [if_neg (by omega)]
  | succ d ih =>
    intro i hi
    have e1 : wrap64 ((i : Int) + 1) = ((i + 1 : Nat) : Int) := w64 (n := (i : Int) + 1) (by omega) (by omega)
    have e2 : rdOf false (b :: V) ((i + 1 : Nat) : Int) = rdOf false V (i : Int) := by
      unfold rdOf
      rw [Int.toNat_natCast, Int.toNat_natCast, List.getD_cons_succ]
    have g1 : (i : Int) < (V.length : Int) := by omega
    have g2 : (0 : Int) ≤ (i : Int) := by omega
    have g3 : (0 : Int) ≤ ((i + 1 : Nat) : Int) := by omega
    have g4 : ((i + 1 : Nat) : Int) < ((b :: V).length : Int) := by rw [List.length_cons]; omega
    refine Ev.step (f := fun k => foretellkeep_TruthTurns.l1 k V (b :: V) ((i + 1 : Nat) : Int)) (fun k => ?_) (ih (i + 1) (by omega))
    simp only [foretellkeep_TruthTurns.l1, e1, e2, if_pos g1, if_pos g2, if_pos g3, if_pos g4, bne_self_eq_false, Bool.false_eq_true, if_false]
theorem turns_l0 (V : List Bool) (A : List Int) (c : Int) (b : Bool) (hV : V.length ≤ 1000) (hA : A.length ≤ 1000) (hat : ∀ i : Nat, i < A.length → ∃ q : Nat, A.getD i 0 = (q : Int) ∧ q < V.length ∧ V.getD q false = bit c i) :
    ∀ (d i : Nat), i + d = A.length → Ev (fun k => foretellkeep_TruthTurns.l0 k A c V (b :: V) (i : Int)) true := by
  intro d
  induction d with
  | zero =>
    intro i hi
    refine Ev.step (f := fun k => foretellkeep_TruthTurns.l1 k V (b :: V) 0) (fun k => ?_) (turns_l1 V b hV V.length 0 (Nat.zero_add _))
    simp only [foretellkeep_TruthTurns.l0]
    rw [if_neg (by omega)]
  | succ d ih =>
    intro i hi
    obtain ⟨q, h1, h2, h4⟩ := hat i (by omega)
    have e0 : rd A (i : Int) = (q : Int) := by unfold rd; rw [Int.toNat_natCast]; exact h1
    have e2 : rdOf false V (q : Int) = (Go.bits .and .i64 (shr .i64 c (i : Int)) 1 == 1) := by unfold rdOf; rw [Int.toNat_natCast]; exact h4
    have e1 : wrap64 ((i : Int) + 1) = ((i + 1 : Nat) : Int) := w64 (n := (i : Int) + 1) (by omega) (by omega)
    have g1 : (i : Int) < (A.length : Int) := by omega
    have g2 : (0 : Int) ≤ (i : Int) := by omega
    have g3 : (0 : Int) ≤ (q : Int) := by omega
    have g4 : (q : Int) < (V.length : Int) := by omega
    refine Ev.step (f := fun k => foretellkeep_TruthTurns.l0 k A c V (b :: V) ((i + 1 : Nat) : Int)) (fun k => ?_) (ih (i + 1) (by omega))
    simp only [foretellkeep_TruthTurns.l0, e0, e1, e2, if_pos g1, if_pos g2, if_pos g3, if_pos g4, bne_self_eq_false, Bool.false_eq_true, if_false]
theorem TruthTurns : P.foretellkeep_TruthTurns.Pur := by
  intro raw n cl ⟨_, hw⟩ hn hcl
  obtain ⟨t, ht, hs, htm, et⟩ := form_is (raw := raw) hw 4 (by decide) (by decide)
  obtain ⟨L, hL, hL3⟩ := letter_is hn
  have hpos : (0 : Int) < ((2 ^ t.tempo : Nat) : Int) := by have := Nat.two_pow_pos t.tempo; omega
  have hp := picked_is hcl hpos
  have c0 := pk_lo cl hpos
  have c1 := pk_hi cl hpos
  generalize pk cl ((2 ^ t.tempo : Nat) : Int) = c at *
  have h3 : ((L.length : Nat) : Int) = 3 := by rw [hL3]; rfl
  have ht' : FormT ((L.length : Nat) : Int) t := by rw [h3]; exact ht
  have hn' : FormT ((L.length : Nat) : Int) (.un ⟨10, 0⟩ t) := .not _ ht'
  have htn : (Tm.un ⟨10, 0⟩ t).tempo = t.tempo := by rw [Tm.tempo]; simp
  have hsn : (Tm.un ⟨10, 0⟩ t).size = t.size + 1 := rfl
  have hV := t.tv_len L c 0
  have hz := t.size_pos
  have hU : (Tm.un ⟨10, 0⟩ t).tv L c 0 = (!(hd (t.tv L c 0))) :: t.tv L c 0 := by rw [Tm.tv]; exact if_pos rfl
  have hall := tv_all (letter := L) (c := c) ht 0
  have hlen := aheadL_len t.flat 0
  have hcnt := ht.cnt
  have hfl := t.flat_len
  refine Ev.rounds ?_
  unfold foretellkeep_TruthTurns.f
  simp only [hL, Option.bind_some]
  refine Ev.bind et ?_
  refine Ev.bind (ahead_is (by decide) (by decide) ht (by omega) (by omega)) ?_
  simp only [hlen, hcnt, shl_pow t.tempo (by omega), hp, Option.bind_some]
  refine Ev.bind (truths_is c (by omega) ht' (by omega) (by omega) c0 c1) ?_
  refine Ev.bind (joined1 10 t (by omega)) ?_
  refine Ev.bind (truths_is c (by omega) hn' (by omega) (by omega) c0 (by rw [htn]; exact c1)) ?_
  rw [hU]
  clear hp c0 c1 hpos hcl hU ht' hn'
  generalize t.tv L c 0 = V at *
  have hat : ∀ i : Nat, i < (aheadL 0 t.flat).length → ∃ q : Nat, (aheadL 0 t.flat).getD i 0 = (q : Int) ∧ q < V.length ∧ V.getD q false = bit c i := by
    intro i hi
    obtain ⟨q, h1, h2, h4⟩ := at_ahead hall 0 i hi
    exact ⟨q, by omega, h2, by rw [h4]; congr 1; omega⟩
  generalize aheadL 0 t.flat = A at *
  have hl0 := turns_l0 V A c (!(hd V)) (by omega) (by omega) hat
  have hU0 : rdOf false ((!(hd V)) :: V) 0 = !(hd V) := rfl
  have hV0 : rdOf false V 0 = hd V := by unfold rdOf hd; cases V <;> rfl
  simp only [List.length_cons, if_true]
  rw [w64 (n := (t.flat.length : Int) + 1) (by omega) (by omega)]
  simp only [if_pos (show (V.length : Int) = (t.flat.length : Int) by omega), if_pos (show ((V.length + 1 : Nat) : Int) = (t.flat.length : Int) + 1 by omega), if_pos (show (0 : Int) < ((V.length + 1 : Nat) : Int) by omega), if_pos (show (0 : Int) < (V.length : Int) by omega), hU0, hV0]
  refine Ev.step (f := fun k => foretellkeep_TruthTurns.l0 k A c V ((!(hd V)) :: V) 0) (fun k => ?_) (hl0 A.length 0 (Nat.zero_add _))
  simp only [foretellkeep_TruthTurns.j0]
  rw [if_neg (by cases hd V <;> decide)]
end Go.Proofs.YtcoaeefmmnohkaaDoor.Q
