-- PACKED by pack.py of this repo: QCheck
import Derived.Test.YtcoaeefmmnohkaaDoorM8
import Derived.Test.YtcoaeefmmnohkaaDoorM6
import Derived.Test.YtcoaeefmmnohkaaDoorM9
section
namespace Go.Proofs.YtcoaeefmmnohkaaDoor.Q
open Go.RowKit Go.Proofs.YtcoaeefmmnohkaaDoorW.PrintWords Go.Proofs.YtcoaeefmmnohkaaDoorW.PrintMore Go.Proofs.YtcoaeefmmnohkaaDoor.P
set_option linter.unusedVariables false
def ah (o : Op) : Bool := decide (14 ≤ o.f0)
def fok (props : Int) (o : Op) : Prop := 8 ≤ o.f0 ∧ o.f0 ≤ 18 ∧ (o.f0 = 13 → 0 ≤ o.f1 ∧ o.f1 < props) ∧ (o.f0 ≠ 13 → o.f1 = 0)
theorem fok_of (props o : Int) (h0 : 8 ≤ o) (h1 : o ≤ 18) (h2 : o ≠ 13) : fok props ⟨o, 0⟩ := ⟨h0, h1, fun h => absurd (show o = 13 from h) h2, fun _ => rfl⟩
theorem FormT.ops {props : Int} {t : Tm} (h : FormT props t) : ∀ o ∈ t.flat, fok props o := by
  induction h with
  | prop v h0 h1 =>
    intro o ho
    obtain rfl := List.mem_singleton.mp ho
    exact ⟨show (8 : Int) ≤ 13 by decide, show (13 : Int) ≤ 18 by decide, fun _ => ⟨h0, h1⟩, fun h => absurd rfl h⟩
  | yes o h =>
    intro x hx
    obtain rfl := List.mem_singleton.mp hx
    exact fok_of props o (by omega) (by omega) (by omega)
  | not a _ ih =>
    intro x hx
    simp only [Tm.flat, List.mem_cons] at hx
    rcases hx with rfl | hx
    · exact fok_of props 10 (by decide) (by decide) (by decide)
    · exact ih x hx
  | look o a h _ ih =>
    intro x hx
    simp only [Tm.flat, List.mem_cons] at hx
    rcases hx with rfl | hx
    · exact fok_of props o (by omega) (by omega) (by omega)
    · exact ih x hx
  | log o a b h _ _ iha ihb =>
    intro x hx
    simp only [Tm.flat, List.mem_cons, List.mem_append] at hx
    rcases hx with rfl | hx | hx
    · exact fok_of props o (by omega) (by omega) (by omega)
    · exact iha x hx
    · exact ihb x hx
  | unto o a b h _ _ iha ihb =>
    intro x hx
    simp only [Tm.flat, List.mem_cons, List.mem_append] at hx
    rcases hx with rfl | hx | hx
    · exact fok_of props o (by omega) (by omega) (by omega)
    · exact iha x hx
    · exact ihb x hx
theorem ahead_f {props : Int} {o : Op} (h : fok props o) : logic_ahead.f o.f0 = some (ah o) := by
  unfold logic_ahead.f ah
  by_cases c : 14 ≤ o.f0
  · rw [if_pos c, decide_eq_true h.2.1, decide_eq_true c]
  · rw [if_neg c, decide_eq_false c]
theorem fits_f {props : Int} {o : Op} (h : fok props o) : logic_fits.f o.f0 o.f1 props = some 0 := by
  obtain ⟨h0, h1, h2, h3⟩ := h
  unfold logic_fits.f
  rw [if_neg (by omega)]
  by_cases c : o.f0 = 13
  · have := h2 c
    rw [if_pos c, if_neg (by omega), if_neg (by omega)]
  · rw [if_neg c, if_pos (h3 c)]
def cntA (l : List Op) : Nat := l.countP ah
theorem FormT.cnt {props : Int} {t : Tm} (h : FormT props t) : cntA t.flat = t.tempo := by
  induction h with
  | prop v => rfl
  | yes o h => rcases h with rfl | rfl <;> rfl
  | not a _ ih => simp only [Q.cntA, Tm.flat, Tm.tempo, List.countP_cons, ah] at ih ⊢; rw [ih]; simp
  | look o a h _ ih => rcases h with rfl | rfl | rfl <;> (simp only [Q.cntA, Tm.flat, Tm.tempo, List.countP_cons, ah] at ih ⊢; rw [ih]; simp; omega)
  | log o a b h _ _ iha ihb => rcases h with rfl | rfl <;> (simp only [Q.cntA, Tm.flat, Tm.tempo, List.countP_cons, List.countP_append, ah] at iha ihb ⊢; rw [iha, ihb]; simp)
  | unto o a b h _ _ iha ihb => rcases h with rfl | rfl <;> (simp only [Q.cntA, Tm.flat, Tm.tempo, List.countP_cons, List.countP_append, ah] at iha ihb ⊢; rw [iha, ihb]; simp; omega)
theorem check_is {props : Int} (hp0 : 0 ≤ props) (hp1 : props ≤ 6) {t : Tm} (h : FormT props t) (hs : t.size ≤ 60) (ht : t.tempo ≤ 6) : Ev (fun k => logic_Check.f k t.flat props) 0 := by
  have hl := t.flat_len
  have hc := h.cnt
  have hgo : ∀ (d i : Nat) (n : Nat), i + d = t.flat.length → n + cntA (t.flat.drop i) ≤ 6 → Ev (fun k => logic_Check.l0 k props (n : Int) t.flat (t.flat.length : Int) (i : Int)) 0 := by
    intro d
    induction d with
    | zero =>
      intro i n hi hn
      refine Ev.step (f := fun _ => some 0) (fun k => ?_) (Ev.now _)
      simp only [logic_Check.l0]
      rw [if_neg (by omega), if_neg (by omega)]
    | succ d ih =>
      intro i n hi hn
      have hil : i < t.flat.length := by omega
      have hrd : rd_T51 t.flat (i : Int) = t.flat[i] := by simp [rd_T51, hil]
      have hf := h.ops _ (List.getElem_mem hil)
      rw [List.drop_eq_getElem_cons hil] at hn
      simp only [cntA, List.countP_cons] at hn
      by_cases ca : ah t.flat[i] = true
      · rw [if_pos ca] at hn
        refine Ev.step (f := fun k => logic_Check.l0 k props ((n + 1 : Nat) : Int) t.flat (t.flat.length : Int) ((i + 1 : Nat) : Int)) (fun k => ?_) (ih (i + 1) (n + 1) (by omega) (by simp only [cntA]; omega))
        simp only [logic_Check.l0, hrd, fits_f hf, ahead_f hf, Option.bind_some]
        rw [if_pos (by omega), if_pos (by omega), if_pos (by omega), if_pos trivial, if_pos ca, w64 (n := (n : Int) + 1) (by omega) (by omega), w64 (n := (i : Int) + 1) (by omega) (by omega)]
        rfl
      · rw [if_neg ca] at hn
        refine Ev.step (f := fun k => logic_Check.l0 k props (n : Int) t.flat (t.flat.length : Int) ((i + 1 : Nat) : Int)) (fun k => ?_) (ih (i + 1) n (by omega) (by simp only [cntA]; omega))
        simp only [logic_Check.l0, hrd, fits_f hf, ahead_f hf, Option.bind_some]
        rw [if_pos (by omega), if_pos (by omega), if_pos (by omega), if_pos trivial, if_neg ca, w64 (n := (i : Int) + 1) (by omega) (by omega)]
        rfl
  unfold logic_Check.f
  simp only [if_neg (show ¬ props < 0 by omega), decide_eq_false (show ¬ props > 6 by omega)]
  refine Ev.step (f := fun k => (polish_Ends.f k t.flat).bind fun bt => if bt.2 = 0 then logic_Check.l0 k props 0 t.flat (t.flat.length : Int) 0 else some bt.2) (fun k => ?_) (Ev.bind (ends_ok t h.ok hs) ?_)
  · simp only [logic_Check.j0, Bool.false_eq_true, if_false]
  · simp only [if_true]
    exact hgo t.flat.length 0 0 (Nat.zero_add _) (by rw [List.drop_zero]; omega)
end Go.Proofs.YtcoaeefmmnohkaaDoor.Q
end
