-- PACKED by pack.py of this repo: QFollow QProd QBegin QTask
import Derived.Test.YtbokbbcoekeoaaaDoorK23
import Derived.Test.YtbokbbcoekeoaaaDoorK24
import Derived.Test.YtbokbbcoekeoaaaDoorK15
import Derived.Test.YtbokbbcoekeoaaaDoorK21
import Derived.Test.YtbokbbcoekeoaaaDoorK18
import Derived.Test.YtbokbbcoekeoaaaDoorK8
section
namespace Go.Proofs.YtbokbbcoekeoaaaDoor.Q
open Go.RowKit Go.Proofs.YtbokbbcoekeoaaaDoorW.PrintWords Go.Proofs.YtbokbbcoekeoaaaDoorW.PrintMore Go.Proofs.YtbokbbcoekeoaaaDoor.P
set_option linter.unusedVariables false
theorem pow_le6 {j : Nat} (h : j ≤ 6) : 2 ^ j ≤ 64 := Nat.pow_le_pow_right (by decide) h
theorem tempo_not (a : Tm) : (Tm.un ⟨10, 0⟩ a).tempo = a.tempo := by rw [Tm.tempo]; simp
def tval (L : List Bool) (b : Nat → Bool) : Nat → Tm → Bool
  | _, .leaf o => if o.f0 = 13 then rdOf false L o.f1 else decide (o.f0 = 11)
  | j, .un o a => if o.f0 = 10 then !(tval L b j a) else b j
  | j, .bin o x y => if o.f0 = 8 ∨ o.f0 = 9 then (if o.f0 = 8 then tval L b j x && tval L b (j + x.tempo) y else tval L b j x || tval L b (j + x.tempo) y) else b j
theorem hd_tv (L : List Bool) (c : Int) : ∀ (t : Tm) (j : Nat), hd (t.tv L c j) = tval L (bit c) j t
  | .leaf o, j => rfl
  | .un o a, j => by
    rw [Tm.tv, tval]
    by_cases h : o.f0 = 10
    · rw [if_pos h, if_pos h, ← hd_tv L c a j]; rfl
    · rw [if_neg h, if_neg h]; rfl
  | .bin o x y, j => by
    rw [Tm.tv, tval]
    by_cases h : o.f0 = 8 ∨ o.f0 = 9
    · rw [if_pos h, if_pos h, ← hd_tv L c x j, ← hd_tv L c y]; rfl
    · rw [if_neg h, if_neg h]; rfl
structure VL (L : List Bool) (c : Int) (t : Tm) (p j : Nat) (V : List Bool) : Prop where
  at_ : ∃ A B, V = A ++ (t.tv L c j ++ B) ∧ p = A.length
section
variable {L : List Bool} {c : Int} {p j : Nat} {V : List Bool}
theorem VL.rt {t : Tm} (h : VL L c t p j V) : p < V.length ∧ rdOf false V (p : Int) = tval L (bit c) j t := by
  obtain ⟨A, B, rfl, rfl⟩ := h.at_
  have hl := t.tv_len L c j
  have hz := t.size_pos
  refine ⟨by rw [List.length_append, List.length_append]; omega, ?_⟩
  rw [rd_mid (pre := A) rfl, ← hd_tv]
  cases hx : t.tv L c j with
  | nil => rw [hx] at hl; simp at hl; omega
  | cons x xs => rfl
theorem VL.not {a : Tm} (h : VL L c (.un ⟨10, 0⟩ a) p j V) : VL L c a (p + 1) j V := by
  obtain ⟨A, B, rfl, rfl⟩ := h.at_
  refine ⟨A ++ [!(hd (a.tv L c j))], B, ?_, by simp⟩
  rw [Tm.tv, if_pos rfl]; simp
theorem VL.look {o : Int} {a : Tm} (ho : o ≠ 10) (h : VL L c (.un ⟨o, 0⟩ a) p j V) : VL L c a (p + 1) (j + 1) V := by
  obtain ⟨A, B, rfl, rfl⟩ := h.at_
  refine ⟨A ++ [bit c j], B, ?_, by simp⟩
  rw [Tm.tv, if_neg ho]; simp
theorem VL.unto {o : Int} {x y : Tm} (ho : ¬ (o = 8 ∨ o = 9)) (h : VL L c (.bin ⟨o, 0⟩ x y) p j V) : VL L c x (p + 1) (j + 1) V ∧ VL L c y (p + 1 + x.size) (j + 1 + x.tempo) V := by
  obtain ⟨A, B, rfl, rfl⟩ := h.at_
  obtain ⟨z, hz⟩ : ∃ z, (Tm.bin ⟨o, 0⟩ x y).tv L c j = z :: (x.tv L c (j + 1) ++ y.tv L c (j + 1 + x.tempo)) := ⟨_, by rw [Tm.tv]; exact if_neg ho⟩
  rw [hz]
  exact ⟨⟨A ++ [z], y.tv L c (j + 1 + x.tempo) ++ B, by simp, by simp⟩, ⟨A ++ [z] ++ x.tv L c (j + 1), B, by simp, by simp [x.tv_len]; omega⟩⟩
theorem vl_whole (t : Tm) : VL L c t 0 0 (t.tv L c 0) := ⟨[], [], by simp, rfl⟩
end
end Go.Proofs.YtbokbbcoekeoaaaDoor.Q
end
section
namespace Go.Proofs.YtbokbbcoekeoaaaDoor.Q
open Go.RowKit Go.Proofs.YtbokbbcoekeoaaaDoorW.PrintWords Go.Proofs.YtbokbbcoekeoaaaDoorW.PrintMore Go.Proofs.YtbokbbcoekeoaaaDoor.P
set_option linter.unusedVariables false
abbrev Sp := S45
theorem rdSp {l : List Sp} {i : Nat} (h : i < l.length) : rd_T45 l (i : Int) = l[i] := by simp [rd_T45, h]
structure TaskOk (vs : List Vr) (rs : List Rl) (ps : List (List Op)) (t : Tm) : Prop where
  m : ModelOk vs rs
  p : PropsOk vs.length ps
  f : FormT (ps.length : Int) t
  s : t.size ≤ 60
  t : t.tempo ≤ 6
section
variable {vs : List Vr} {rs : List Rl} {ps : List (List Op)} {t : Tm}
theorem pcheck_is (h : TaskOk vs rs ps t) : Ev (fun k => product_Check.f k vs rs ps t.flat) 0 := by
  have hl := h.p.1
  refine Ev.bind (props_good h.m h.p) ?_
  simp only [if_true]
  exact Ev.bind (check_is (by omega) (by omega) h.f h.s h.t) (Ev.now _)
theorem claims_many (h : TaskOk vs rs ps t) : Ev (fun k => product_claims.f k vs rs ps t.flat) ((2 ^ t.tempo : Nat) : Int) := by
  have hl := h.p.1
  refine Ev.bind (ahead_is (by omega) (by omega) h.f h.s h.t) (ev_some ?_)
  simp only
  rw [aheadL_len, h.f.cnt, shl_pow _ h.t]
end
end Go.Proofs.YtbokbbcoekeoaaaDoor.Q
end
section
namespace Go.Proofs.YtbokbbcoekeoaaaDoor.Q
open Go.RowKit Go.Proofs.YtbokbbcoekeoaaaDoorW.PrintWords Go.Proofs.YtbokbbcoekeoaaaDoorW.PrintMore Go.Proofs.YtbokbbcoekeoaaaDoor.P
set_option linter.unusedVariables false
def begQ (L : List Bool) (t : Tm) (m : Nat) : List Nat := (List.range m).filter fun q : Nat => !(tval L (bit (q : Int)) 0 t)
def begL (n : Int) (L : List Bool) (t : Tm) (m : Nat) : List Sp := (begQ L t m).map fun q : Nat => (⟨n, (q : Int)⟩ : Sp)
theorem begQ_len (L : List Bool) (t : Tm) (m : Nat) : (begQ L t m).length ≤ m := by
  unfold begQ
  exact Nat.le_trans (List.length_filter_le _ _) (by simp)
theorem begL_succ (n : Int) (L : List Bool) (t : Tm) (m : Nat) : begL n L t (m + 1) = begL n L t m ++ (if tval L (bit (m : Int)) 0 t = true then [] else [(⟨n, (m : Int)⟩ : Sp)]) := by
  unfold begL begQ
  rw [List.range_succ, List.filter_append, List.map_append]
  congr 1
  by_cases q : tval L (bit (m : Int)) 0 t = true
  · rw [if_pos q, List.filter_cons_of_neg (by simpa using q)]; rfl
  · rw [if_neg q, List.filter_cons_of_pos (by simpa using q)]; rfl
section
variable {vs : List Vr} {rs : List Rl} {ps : List (List Op)} {t : Tm}
theorem beg_l0 (h : TaskOk vs rs ps t) {n : Int} {L : List Bool} (hL : L.length = ps.length) : ∀ (d m : Nat), m + d = 2 ^ t.tempo → Ev (fun k => product_Begin.l0 k n L (begL n L t m) ((2 ^ t.tempo : Nat) : Int) (m : Int) vs rs ps t.flat) (begL n L t (2 ^ t.tempo), 0) := by
  have h64 := pow_le6 h.t
  have hpl := h.p.1
  intro d
  induction d with
  | zero =>
    intro m hm
    obtain rfl : m = 2 ^ t.tempo := by omega
    refine Ev.step (f := fun _ => some (begL n L t (2 ^ t.tempo), 0)) (fun k => ?_) (Ev.now _)
    rw [product_Begin.l0, if_neg (by omega)]
  | succ d ih =>
    intro m hm
    have hih := ih (m + 1) (by omega)
    rw [begL_succ] at hih
    have hf := truths_is (letter := L) (m : Int) (by omega) (by rw [hL]; exact h.f) h.s h.t (by omega) (by omega)
    have hlen : 0 < (t.tv L (m : Int) 0).length := by rw [t.tv_len]; exact t.size_pos
    have hv : rdOf false (t.tv L (m : Int) 0) 0 = tval L (bit (m : Int)) 0 t := (vl_whole t).rt.2
    have hbl : (begL n L t m).length ≤ 64 := by
      have := begQ_len L t m
      unfold begL
      rw [List.length_map]
      omega
    refine Ev.step (f := fun k => (logic_Truths.f k t.flat L (m : Int)).bind fun bt239 => (if 0 < (bt239.1.length : Int) then (if rdOf false bt239.1 0 = true then (product_Begin.l0 k n L (begL n L t m) ((2 ^ t.tempo : Nat) : Int) ((m + 1 : Nat) : Int) vs rs ps t.flat) else (if (begL n L t m).length < 8796093022208 then (product_Begin.l0 k n L (begL n L t m ++ [(⟨n, (m : Int)⟩ : Sp)]) ((2 ^ t.tempo : Nat) : Int) ((m + 1 : Nat) : Int) vs rs ps t.flat) else (none))) else (none))) (fun k => ?_) (Ev.bind hf ?_)
    · rw [product_Begin.l0, if_pos (by omega), w64 (n := (m : Int) + 1) (by omega) (by omega)]
      rfl
    · simp only [hv, if_pos (show (0 : Int) < ((t.tv L (m : Int) 0).length : Int) by omega), if_pos (show (begL n L t m).length < 8796093022208 by omega)]
      by_cases q : tval L (bit (m : Int)) 0 t = true
      · rw [if_pos q, List.append_nil] at hih
        simp only [if_pos q]
        exact hih
      · rw [if_neg q] at hih
        simp only [if_neg q]
        exact hih
theorem begin_is (h : TaskOk vs rs ps t) : Ev (fun k => product_Begin.f k vs rs ps t.flat) (begL (frst vs) (ps.map (tr (valS vs (frst vs)))) t (2 ^ t.tempo), 0) := by
  obtain ⟨f0, f1⟩ := frst_rng h.m.v
  refine Ev.bind (pcheck_is h) ?_
  simp only [if_true]
  exact Ev.bind (first_is h.m) (Ev.bind (letter_is h.m h.p f0 f1) (Ev.bind (claims_many h) (beg_l0 h (n := frst vs) (L := ps.map (tr (valS vs (frst vs)))) (List.length_map _) (2 ^ t.tempo) 0 (Nat.zero_add _))))
end
end Go.Proofs.YtbokbbcoekeoaaaDoor.Q
end
section
namespace Go.Proofs.YtbokbbcoekeoaaaDoor.Q
open Go.RowKit Go.Proofs.YtbokbbcoekeoaaaDoorW.PrintWords Go.Proofs.YtbokbbcoekeoaaaDoorW.PrintMore Go.Proofs.YtbokbbcoekeoaaaDoor.P
set_option linter.unusedVariables false
theorem task_is {a b c d e f : Int} {l : List Pl} (h : DesignWf a b c d e f l) {raw : List Raw} (hr : rawWf raw) {tp : Int} (h0 : 0 ≤ tp) (h6 : tp ≤ 6) :
    ∃ vs rs t, Ev (fun k => foretellkeep_Task.f k a b c d e f l raw tp) (vs, rs, ownProps, t.flat) ∧ Own vs rs ∧ TaskOk vs rs ownProps t ∧ t.size ≤ 17 ∧ (t.tempo : Int) ≤ tp := by
  obtain ⟨vs, rs, hm, ho⟩ := own_model h
  obtain ⟨t, hf, sf, tf, ef⟩ := form_is hr tp h0 (by omega)
  refine ⟨vs, rs, t, Ev.bind hm (Ev.bind props_is (Ev.bind ef (Ev.now _))), ho, ⟨ho.m, by rw [ho.len]; exact ownProps_ok, hf, by omega, by omega⟩, sf, tf⟩
end Go.Proofs.YtbokbbcoekeoaaaDoor.Q
end
