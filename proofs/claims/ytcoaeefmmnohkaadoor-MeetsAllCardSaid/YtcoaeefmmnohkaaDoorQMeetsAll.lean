/- The plain law of MeetsAll: a Next never waits; who claims that an Until does not hold, and that a Release does, waits for nothing. -/
import Derived.Test.YtcoaeefmmnohkaaDoorLMeetsAll
import Derived.Test.YtcoaeefmmnohkaaDoorQTruths
import Derived.Test.YtcoaeefmmnohkaaDoorQJoin
import Derived.Test.YtcoaeefmmnohkaaDoorQLetter
namespace Go.Proofs.YtcoaeefmmnohkaaDoor.Q
open Go.RowKit Go.Proofs.YtcoaeefmmnohkaaDoorW.PrintWords Go.Proofs.YtcoaeefmmnohkaaDoorW.PrintMore Go.Proofs.YtcoaeefmmnohkaaDoor.P
set_option linter.unusedVariables false
/-- Behind the first op none looks ahead. -/
theorem meets_rest {props : Int} (V : List Bool) (E : List Int) (m b : Int) (l : List Op) (hl : l.length ≤ 1000) (hf : ∀ o ∈ l, fok props o) : ∀ (d i : Nat), i + d = l.length → cnt (l.drop i) = 0 → Ev (fun k => logic_Meets.l0 k V E m b l (l.length : Int) (i : Int)) (m, 0) := by
  intro d
  induction d with
  | zero =>
    intro i hi _
    refine Ev.step (f := fun _ => some (m, 0)) (fun k => ?_) (Ev.now _)
    simp only [logic_Meets.l0]
    rw [if_neg (by omega)]
  | succ d ih =>
    intro i hi hc
    have hil : i < l.length := by omega
    have hrd : rd_T51 l (i : Int) = l[i] := by simp [rd_T51, hil]
    have ho := hf _ (List.getElem_mem hil)
    rw [List.drop_eq_getElem_cons hil] at hc
    simp only [cnt, List.countP_cons] at hc
    have ca : ah l[i] = false := by
      cases q : ah l[i] with
      | false => rfl
      | true => rw [if_pos q] at hc; omega
    have e1 : wrap64 ((i : Int) + 1) = ((i + 1 : Nat) : Int) := w64 (n := (i : Int) + 1) (by omega) (by omega)
    have g1 : (i : Int) < (l.length : Int) := by omega
    have g2 : (0 : Int) ≤ (i : Int) := by omega
    refine Ev.step (f := fun k => logic_Meets.l0 k V E m b l (l.length : Int) ((i + 1 : Nat) : Int)) (fun k => ?_) (ih (i + 1) (by omega) (by simp only [cnt]; omega))
    simp only [logic_Meets.l0, hrd, ahead_f ho, ca, e1, if_pos g1, if_pos g2, Option.bind_some, Bool.false_eq_true, if_false]
theorem or_one : Go.bits .or .i64 0 (shl .i64 1 0) = 1 := by decide
/-- One op alone looks ahead, ahead of all: it is met. -/
theorem meets_is {L : List Bool} (hL : L.length = 3) {o : Int} {t : Tm} (c : Int) (h : FormT 3 t) (hs : t.size ≤ 60) (htm : t.tempo = 1) (hrt : t.rt = ⟨o, 0⟩) (ho : 14 ≤ o) (hc0 : 0 ≤ c) (hc1 : c < 2) (hh : hd (t.tv L c 0) = bit c 0)
    (hk : o = 14 ∨ o = 15 ∧ bit c 0 = false ∨ o = 16 ∧ bit c 0 = true) : Ev (fun k => logic_Meets.f k t.flat L c) (1, 0) := by
  have h3 : ((L.length : Nat) : Int) = 3 := by rw [hL]; rfl
  have h' : FormT ((L.length : Nat) : Int) t := by rw [h3]; exact h
  have hfl := t.flat_len
  have hz := t.size_pos
  have hV := t.tv_len L c 0
  have hcnt := h.cnt
  unfold logic_Meets.f
  refine Ev.bind (truths_is c (by omega) h' hs (by omega) hc0 (by rw [htm]; exact hc1)) ?_
  simp only [if_true]
  refine Ev.bind (ends_ok t h.ok hs) ?_
  obtain ⟨rest, hr⟩ := t.flat_rt
  have e0 : rd_T51 t.flat 0 = ⟨o, 0⟩ := by rw [← hrt]; exact (lies_whole t).rt.1
  have hfo : fok 3 (⟨o, 0⟩ : Op) := by rw [← hrt]; exact h.ops _ (by rw [hr]; exact List.mem_cons_self ..)
  have hah : ah (⟨o, 0⟩ : Op) = true := by unfold ah; exact decide_eq_true ho
  have hdrop : cnt (t.flat.drop 1) = 0 := by
    rw [hr] at hcnt ⊢
    rw [hrt] at hcnt
    simp only [cnt, List.countP_cons, hah, if_true] at hcnt
    simp only [List.drop_succ_cons, List.drop_zero, cnt]
    omega
  have hrest := meets_rest (t.tv L c 0) (t.ends 0) 1 1 t.flat (by omega) h.ops (t.flat.length - 1) 1 (by omega) hdrop
  have hV0 : rdOf false (t.tv L c 0) 0 = bit c 0 := by rw [← hh]; unfold rdOf hd; cases t.tv L c 0 <;> rfl
  have g1 : (0 : Int) < (t.flat.length : Int) := by omega
  have g2 : (0 : Int) < ((t.tv L c 0).length : Int) := by omega
  have e1 : wrap64 ((0 : Int) + 1) = 1 := w64 (n := (0 : Int) + 1) (by decide) (by decide)
  have z : (0 : Int) ≤ 0 := by decide
  refine Ev.step (f := fun k => logic_Meets.l0 k (t.tv L c 0) (t.ends 0) 1 1 t.flat (t.flat.length : Int) ((1 : Nat) : Int)) (fun k => ?_) hrest
  rcases hk with rfl | ⟨rfl, hb⟩ | ⟨rfl, hb⟩
  · simp only [logic_Meets.l0, e0, ahead_f hfo, hah, if_pos g1, if_pos z, Option.bind_some, if_true, e1, or_one]
    rfl
  · simp only [logic_Meets.l0, e0, ahead_f hfo, hah, if_pos g1, if_pos g2, if_pos z, hV0, hb, Option.bind_some, if_true, Bool.false_eq_true, if_false, e1, or_one]
    rfl
  · simp only [logic_Meets.l0, e0, ahead_f hfo, hah, if_pos g1, if_pos g2, if_pos z, hV0, hb, Option.bind_some, if_true, e1, or_one]
    rfl
theorem MeetsAll : P.foretellkeep_MeetsAll.Pur := by
  intro r1 r2 n ⟨_, hw1⟩ ⟨_, hw2⟩ hn
  obtain ⟨f, hf, sf, tf, ef⟩ := form_is (raw := r1) hw1 0 (by decide) (by decide)
  obtain ⟨g, hg, sg, tg, eg⟩ := form_is (raw := r2) hw2 0 (by decide) (by decide)
  obtain ⟨L, hL, hL3⟩ := letter_is hn
  have b0 : bit 0 0 = false := by decide
  have b1 : bit 1 0 = true := by decide
  have hN : ∀ c : Int, 0 ≤ c → c < 2 → Ev (fun k => logic_Meets.f k (Tm.un ⟨14, 0⟩ f).flat L c) (1, 0) := fun c h0 h1 =>
    meets_is hL3 (o := 14) c (.look 14 f (.inl rfl) hf) (by simp only [Tm.size]; omega) (by rw [Tm.tempo]; simp only; rw [if_neg (by decide)]; omega) rfl (by decide) h0 h1 rfl (.inl rfl)
  have hB : ∀ (o c : Int), (o = 15 ∨ o = 16) → 0 ≤ c → c < 2 → (o = 15 ∧ bit c 0 = false ∨ o = 16 ∧ bit c 0 = true) → Ev (fun k => logic_Meets.f k (Tm.bin ⟨o, 0⟩ f g).flat L c) (1, 0) := fun o c ho h0 h1 hk =>
    meets_is hL3 (o := o) c (.unto o f g ho hf hg) (by simp only [Tm.size]; omega) (by rw [Tm.tempo]; simp only; rw [if_neg (by omega)]; omega) rfl (by omega) h0 h1 (by rw [Tm.tv, if_neg (show ¬ (o = 8 ∨ o = 9) by omega)]; rfl) (.inr hk)
  refine Ev.rounds ?_
  unfold foretellkeep_MeetsAll.f
  simp only [hL, Option.bind_some]
  refine Ev.bind ef ?_
  refine Ev.bind eg ?_
  refine Ev.bind (joined1 14 f (by omega)) ?_
  refine Ev.bind (hN 0 (by decide) (by decide)) ?_
  refine Ev.bind (joined1 14 f (by omega)) ?_
  refine Ev.bind (hN 1 (by decide) (by decide)) ?_
  refine Ev.bind (joined2 15 f g (by omega)) ?_
  refine Ev.bind (hB 15 0 (.inl rfl) (by decide) (by decide) (.inl ⟨rfl, b0⟩)) ?_
  refine Ev.bind (joined2 16 f g (by omega)) ?_
  refine Ev.bind (hB 16 1 (.inr rfl) (by decide) (by decide) (.inr ⟨rfl, b1⟩)) ?_
  exact Ev.now _
end Go.Proofs.YtcoaeefmmnohkaaDoor.Q
