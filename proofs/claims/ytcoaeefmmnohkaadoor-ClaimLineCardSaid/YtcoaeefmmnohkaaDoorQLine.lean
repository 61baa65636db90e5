/- Lines of claims that follow one another: just the true one follows and lets nothing wait. -/
import Derived.Test.YtcoaeefmmnohkaaDoorQClaims
namespace Go.Proofs.YtcoaeefmmnohkaaDoor.Q
open Go.RowKit Go.Proofs.YtcoaeefmmnohkaaDoorW.PrintWords Go.Proofs.YtcoaeefmmnohkaaDoorW.PrintMore Go.Proofs.YtcoaeefmmnohkaaDoor.P
set_option linter.unusedVariables false
/-- A term's truth, where it is told what the ops that look ahead make. -/
def tval (L : List Bool) (b : Nat → Bool) : Nat → Tm → Bool
  | _, .leaf o => if o.f0 = 13 then rdOf false L o.f1 else decide (o.f0 = 11)
  | j, .un o a => if o.f0 = 10 then !(tval L b j a) else b j
  | j, .bin o x y => if o.f0 = 8 ∨ o.f0 = 9 then (if o.f0 = 8 then tval L b j x && tval L b (j + x.tempo) y else tval L b j x || tval L b (j + x.tempo) y) else b j
theorem hd_tv (L : List Bool) (c : Int) : ∀ (t : Tm) (j : Nat), hd (t.tv L c j) = tval L (bit c) j t
  | .leaf o, j => rfl
  | .un o a, j => by
    rw [Tm.tv, tval]
    by_cases h : o.f0 = 10
    · rw [if_pos h, if_pos h, ← hd_tv L c a j]; rfl
    · rw [if_neg h, if_neg h]; rfl
  | .bin o x y, j => by
    rw [Tm.tv, tval]
    by_cases h : o.f0 = 8 ∨ o.f0 = 9
    · rw [if_pos h, if_pos h, ← hd_tv L c x j, ← hd_tv L c y]; rfl
    · rw [if_neg h, if_neg h]; rfl
/-- An op keeps its law: me, later, the first part now (at the next moment: a'), the second part. -/
def lawB (o : Int) (me later a a' y : Bool) : Bool := if o = 14 then me == a' else if o = 17 then me == (a || later) else if o = 18 then me == (a && later) else if o = 15 then me == (y || a && later) else me == (y && (a || later))
def metB (o : Int) (me a y : Bool) : Bool := if o = 14 then true else if o = 17 then !me || a else if o = 18 then me || !a else if o = 15 then !me || y else me || !y
def keepT (L L' : List Bool) (b b' : Nat → Bool) : Nat → Tm → Bool
  | _, .leaf _ => true
  | j, .un o a => if o.f0 = 10 then keepT L L' b b' j a else lawB o.f0 (b j) (b' j) (tval L b (j + 1) a) (tval L' b' (j + 1) a) false && keepT L L' b b' (j + 1) a
  | j, .bin o x y => if o.f0 = 8 ∨ o.f0 = 9 then keepT L L' b b' j x && keepT L L' b b' (j + x.tempo) y else lawB o.f0 (b j) (b' j) (tval L b (j + 1) x) false (tval L b (j + 1 + x.tempo) y) && (keepT L L' b b' (j + 1) x && keepT L L' b b' (j + 1 + x.tempo) y)
def mfl (L : List Bool) (b : Nat → Bool) : Nat → Tm → List Bool
  | _, .leaf _ => []
  | j, .un o a => if o.f0 = 10 then mfl L b j a else metB o.f0 (b j) (tval L b (j + 1) a) false :: mfl L b (j + 1) a
  | j, .bin o x y => if o.f0 = 8 ∨ o.f0 = 9 then mfl L b j x ++ mfl L b (j + x.tempo) y else metB o.f0 (b j) (tval L b (j + 1) x) (tval L b (j + 1 + x.tempo) y) :: (mfl L b (j + 1) x ++ mfl L b (j + 1 + x.tempo) y)
/-! ### what lies in a row of truths -/
structure VL (L : List Bool) (c : Int) (t : Tm) (p j : Nat) (V : List Bool) : Prop where
  at_ : ∃ A B, V = A ++ (t.tv L c j ++ B) ∧ p = A.length
section
variable {L : List Bool} {c : Int} {p j : Nat} {V : List Bool}
theorem VL.rt {t : Tm} (h : VL L c t p j V) : p < V.length ∧ rdOf false V (p : Int) = tval L (bit c) j t := by
  obtain ⟨A, B, rfl, rfl⟩ := h.at_
  have hl := t.tv_len L c j
  have hz := t.size_pos
  refine ⟨by rw [List.length_append, List.length_append]; omega, ?_⟩
  rw [rd_mid (pre := A) rfl, ← hd_tv]
  cases hx : t.tv L c j with
  | nil => rw [hx] at hl; simp at hl; omega
  | cons x xs => rfl
theorem VL.not {a : Tm} (h : VL L c (.un ⟨10, 0⟩ a) p j V) : VL L c a (p + 1) j V := by
  obtain ⟨A, B, rfl, rfl⟩ := h.at_
  refine ⟨A ++ [!(hd (a.tv L c j))], B, ?_, by simp⟩
  rw [Tm.tv, if_pos rfl]; simp
theorem VL.look {o : Int} {a : Tm} (ho : o ≠ 10) (h : VL L c (.un ⟨o, 0⟩ a) p j V) : VL L c a (p + 1) (j + 1) V := by
  obtain ⟨A, B, rfl, rfl⟩ := h.at_
  refine ⟨A ++ [bit c j], B, ?_, by simp⟩
  rw [Tm.tv, if_neg ho]; simp
theorem VL.logl {o : Int} {x y : Tm} (ho : o = 8 ∨ o = 9) (h : VL L c (.bin ⟨o, 0⟩ x y) p j V) : VL L c x (p + 1) j V ∧ VL L c y (p + 1 + x.size) (j + x.tempo) V := by
  obtain ⟨A, B, rfl, rfl⟩ := h.at_
  obtain ⟨z, hz⟩ : ∃ z, (Tm.bin ⟨o, 0⟩ x y).tv L c j = z :: (x.tv L c j ++ y.tv L c (j + x.tempo)) := ⟨_, by rw [Tm.tv]; exact if_pos ho⟩
  rw [hz]
  exact ⟨⟨A ++ [z], y.tv L c (j + x.tempo) ++ B, by simp, by simp⟩, ⟨A ++ [z] ++ x.tv L c j, B, by simp, by simp [x.tv_len]; omega⟩⟩
theorem VL.unto {o : Int} {x y : Tm} (ho : ¬ (o = 8 ∨ o = 9)) (h : VL L c (.bin ⟨o, 0⟩ x y) p j V) : VL L c x (p + 1) (j + 1) V ∧ VL L c y (p + 1 + x.size) (j + 1 + x.tempo) V := by
  obtain ⟨A, B, rfl, rfl⟩ := h.at_
  obtain ⟨z, hz⟩ : ∃ z, (Tm.bin ⟨o, 0⟩ x y).tv L c j = z :: (x.tv L c (j + 1) ++ y.tv L c (j + 1 + x.tempo)) := ⟨_, by rw [Tm.tv]; exact if_neg ho⟩
  rw [hz]
  exact ⟨⟨A ++ [z], y.tv L c (j + 1 + x.tempo) ++ B, by simp, by simp⟩, ⟨A ++ [z] ++ x.tv L c (j + 1), B, by simp, by simp [x.tv_len]; omega⟩⟩
theorem vl_whole (t : Tm) : VL L c t 0 0 (t.tv L c 0) := ⟨[], [], by simp, rfl⟩
end
theorem ah_look {o : Int} (h : 14 ≤ o) : ah ⟨o, 0⟩ = true := by simp [ah]; exact h
theorem ah_not {o v : Int} (h : o < 14) : ¬ ah ⟨o, v⟩ = true := by simp [ah]; exact h
/-! ### Follows -/
theorem keeps_f {V V' : List Bool} {o : Int} {p e : Nat} {me later a a' y : Bool} (ho : 14 ≤ o ∧ o ≤ 18) (h1 : p + 1 < V.length) (h2 : p + 1 < V'.length) (he : (o = 15 ∨ o = 16) → e < V.length) (hp : p ≤ 1000) (m1 : rdOf false V (p : Int) = me) (m2 : rdOf false V' (p : Int) = later) (m3 : rdOf false V ((p + 1 : Nat) : Int) = a) (m4 : o = 14 → rdOf false V' ((p + 1 : Nat) : Int) = a') (m5 : (o = 15 ∨ o = 16) → rdOf false V (e : Int) = y) :
    logic_pair_keeps.f V V' o (p : Int) (e : Int) = some (lawB o me later a a' y) := by
  have hw : (p : Int) + 1 = ((p + 1 : Nat) : Int) := by omega
  unfold logic_pair_keeps.f
  rw [if_pos ⟨by omega, by omega, by omega, by omega, ho.1, ho.2, fun h h' => ⟨by omega, by have := he (by omega); omega⟩⟩, hw, m1, m2, m3]
  unfold klaw lawB
  by_cases k14 : o = 14
  · rw [if_pos k14, if_pos k14, m4 k14]
  rw [if_neg k14, if_neg k14]
  by_cases k17 : o = 17
  · rw [if_pos k17, if_pos k17]
  rw [if_neg k17, if_neg k17]
  by_cases k18 : o = 18
  · rw [if_pos k18, if_pos k18]
  rw [if_neg k18, if_neg k18]
  rw [m5 (by omega)]
theorem follows_go {props : Int} {L L' : List Bool} {c c' : Int} {V V' : List Bool} {es : List Int} {ops : List Op} (hn : ops.length ≤ 100) {t : Tm} (h : FormT props t) : ∀ (p j : Nat) (v : Bool), Lies t (p : Int) ops es → VL L c t p j V → VL L' c' t p j V' →
    (keepT L L' (bit c) (bit c') j t = true → Ev (fun k => logic_Follows.l0 k V V' es ops (ops.length : Int) ((p + t.size : Nat) : Int)) (v, 0)) → (keepT L L' (bit c) (bit c') j t = false → v = false) →
    Ev (fun k => logic_Follows.l0 k V V' es ops (ops.length : Int) (p : Int)) (v, 0) := by
  -- an op that does not look ahead
  have hskip : ∀ (o : Op) (p : Nat) (v : Bool), fok props o → ¬ ah o = true → rd_T51 ops (p : Int) = o → p < ops.length → Ev (fun k => logic_Follows.l0 k V V' es ops (ops.length : Int) ((p + 1 : Nat) : Int)) (v, 0) → Ev (fun k => logic_Follows.l0 k V V' es ops (ops.length : Int) (p : Int)) (v, 0) := by
    intro o p v hf ho hr hp hv
    refine Ev.step (fun k => ?_) hv
    have hw : wrap64 ((p : Int) + 1) = ((p + 1 : Nat) : Int) := w64 (n := (p : Int) + 1) (by omega) (by omega)
    simp only [logic_Follows.l0, hr, ahead_f hf, Option.bind_some, hw]
    rw [if_pos (by omega), if_pos (by omega), if_pos (by omega), if_neg ho]
  have hlook : ∀ (o : Op) (p e : Nat) (v w : Bool), fok props o → ah o = true → rd_T51 ops (p : Int) = o → p < ops.length → p + 1 < es.length → rd es ((p + 1 : Nat) : Int) = (e : Int) → logic_pair_keeps.f V V' o.f0 (p : Int) (e : Int) = some w → (w = true → Ev (fun k => logic_Follows.l0 k V V' es ops (ops.length : Int) ((p + 1 : Nat) : Int)) (v, 0)) → (w = false → v = false) → Ev (fun k => logic_Follows.l0 k V V' es ops (ops.length : Int) (p : Int)) (v, 0) := by
    intro o p e v w hf ho hr hp he hre hk h1 h2
    have hw : wrap64 ((p : Int) + 1) = ((p + 1 : Nat) : Int) := w64 (n := (p : Int) + 1) (by omega) (by omega)
    cases w with
    | true =>
      refine Ev.step (fun k => ?_) (h1 rfl)
      simp only [logic_Follows.l0, hr, ahead_f hf, Option.bind_some, hw, hre, hk]
      rw [if_pos (by omega), if_pos (by omega), if_pos (by omega), if_pos ho, if_pos (by omega), if_pos (by omega), if_pos trivial]
    | false =>
      obtain rfl := h2 rfl
      refine Ev.step (f := fun _ => some (false, (0 : Int))) (fun k => ?_) (Ev.now _)
      simp only [logic_Follows.l0, hr, ahead_f hf, Option.bind_some, hw, hre, hk]
      rw [if_pos (by omega), if_pos (by omega), if_pos (by omega), if_pos ho, if_pos (by omega), if_pos (by omega), if_neg (by simp)]
  induction h with
  | prop v0 h0 h1 =>
    intro p j v hp hV hV' h2 h3
    exact hskip _ p v (FormT.ops (.prop v0 h0 h1) _ (List.mem_singleton.mpr rfl)) (ah_not (by decide)) hp.rt.1 (by have := hp.p0; simp only [Tm.size] at this; omega) (h2 rfl)
  | yes o h =>
    intro p j v hp hV hV' h2 h3
    exact hskip _ p v (FormT.ops (props := props) (.yes o h) _ (List.mem_singleton.mpr rfl)) (ah_not (by omega)) hp.rt.1 (by have := hp.p0; simp only [Tm.size] at this; omega) (h2 rfl)
  | not a ha ih =>
    intro p j v hp hV hV' h2 h3
    have hk : keepT L L' (bit c) (bit c') j (.un ⟨10, 0⟩ a) = keepT L L' (bit c) (bit c') j a := by rw [keepT]; exact if_pos rfl
    rw [hk] at h2 h3
    refine hskip _ p v (fok_of props 10 (by decide) (by decide) (by decide)) (ah_not (by decide)) hp.rt.1 (by have := hp.p0; simp only [Tm.size] at this; omega) ?_
    refine ih (p + 1) j v (by rw [show ((p + 1 : Nat) : Int) = (p : Int) + 1 by omega]; exact hp.un) hV.not hV'.not (fun q => ?_) h3
    rw [show p + 1 + a.size = p + (Tm.un ⟨10, 0⟩ a).size by show _ = p + (a.size + 1); omega]
    exact h2 q
  | look o a h ha ih =>
    intro p j v hp hV hV' h2 h3
    have ho10 : o ≠ 10 := by omega
    have hk : keepT L L' (bit c) (bit c') j (.un ⟨o, 0⟩ a) = (lawB o (bit c j) (bit c' j) (tval L (bit c) (j + 1) a) (tval L' (bit c') (j + 1) a) false && keepT L L' (bit c) (bit c') (j + 1) a) := by rw [keepT]; exact if_neg ho10
    have hme : tval L (bit c) j (.un ⟨o, 0⟩ a) = bit c j := by rw [tval]; exact if_neg ho10
    have hme' : tval L' (bit c') j (.un ⟨o, 0⟩ a) = bit c' j := by rw [tval]; exact if_neg ho10
    rw [hk] at h2 h3
    have hpa := hp.un
    have r0 := hp.p0
    have r1 := hpa.p0
    have v1 := hV.rt
    have v2 := hV'.rt
    have w1 := (hV.look ho10).rt
    have w2 := (hV'.look ho10).rt
    simp only [Tm.size] at r0
    have sz := a.size_pos
    obtain ⟨e, he⟩ : ∃ e : Nat, rd es ((p + 1 : Nat) : Int) = (e : Int) := ⟨p + 1 + a.size, by rw [show ((p + 1 : Nat) : Int) = (p : Int) + 1 by omega, hpa.rt.2]; omega⟩
    refine hlook ⟨o, 0⟩ p e v _ (fok_of props o (by omega) (by omega) (by omega)) (ah_look (by omega)) hp.rt.1 (by omega) (by omega) he (keeps_f (o := o) (y := false) (by omega) w1.1 w2.1 (by omega) (by omega) (v1.2.trans hme) (v2.2.trans hme') w1.2 (fun _ => w2.2) (by omega)) (fun q => ?_) (fun q => h3 (by rw [q]; rfl))
    rw [q, Bool.true_and] at h2 h3
    refine ih (p + 1) (j + 1) v (by rw [show ((p + 1 : Nat) : Int) = (p : Int) + 1 by omega]; exact hpa) (hV.look ho10) (hV'.look ho10) (fun q => ?_) h3
    rw [show p + 1 + a.size = p + (Tm.un ⟨o, 0⟩ a).size by show _ = p + (a.size + 1); omega]
    exact h2 q
  | log o a b h ha hb iha ihb =>
    intro p j v hp hV hV' h2 h3
    have hk : keepT L L' (bit c) (bit c') j (.bin ⟨o, 0⟩ a b) = (keepT L L' (bit c) (bit c') j a && keepT L L' (bit c) (bit c') (j + a.tempo) b) := by rw [keepT]; exact if_pos h
    rw [hk] at h2 h3
    have r0 := hp.p0
    simp only [Tm.size] at r0
    refine hskip _ p v (fok_of props o (by omega) (by omega) (by omega)) (ah_not (by omega)) hp.rt.1 (by omega) ?_
    refine iha (p + 1) j v (by rw [show ((p + 1 : Nat) : Int) = (p : Int) + 1 by omega]; exact hp.left) (hV.logl h).1 (hV'.logl h).1 (fun q => ?_) (fun q => h3 (by rw [q]; rfl))
    rw [q, Bool.true_and] at h2 h3
    refine ihb (p + 1 + a.size) (j + a.tempo) v (by rw [show ((p + 1 + a.size : Nat) : Int) = (p : Int) + 1 + a.size by omega]; exact hp.right) (hV.logl h).2 (hV'.logl h).2 (fun q => ?_) h3
    rw [show p + 1 + a.size + b.size = p + (Tm.bin ⟨o, 0⟩ a b).size by show _ = p + (a.size + b.size + 1); omega]
    exact h2 q
  | unto o a b h ha hb iha ihb =>
    intro p j v hp hV hV' h2 h3
    have ho : ¬ (o = 8 ∨ o = 9) := by omega
    have hk : keepT L L' (bit c) (bit c') j (.bin ⟨o, 0⟩ a b) = (lawB o (bit c j) (bit c' j) (tval L (bit c) (j + 1) a) false (tval L (bit c) (j + 1 + a.tempo) b) && (keepT L L' (bit c) (bit c') (j + 1) a && keepT L L' (bit c) (bit c') (j + 1 + a.tempo) b)) := by rw [keepT]; exact if_neg ho
    have hme : tval L (bit c) j (.bin ⟨o, 0⟩ a b) = bit c j := by rw [tval]; exact if_neg ho
    have hme' : tval L' (bit c') j (.bin ⟨o, 0⟩ a b) = bit c' j := by rw [tval]; exact if_neg ho
    rw [hk] at h2 h3
    have r0 := hp.p0
    have r1 := hp.left.p0
    have r2 := hp.right.p0
    have v1 := hV.rt
    have v2 := hV'.rt
    have w1 := (hV.unto ho).1.rt
    have w2 := (hV'.unto ho).1.rt
    have w3 := (hV.unto ho).2.rt
    simp only [Tm.size] at r0
    have sz := a.size_pos
    have he : rd es ((p + 1 : Nat) : Int) = ((p + 1 + a.size : Nat) : Int) := by rw [show ((p + 1 : Nat) : Int) = (p : Int) + 1 by omega, hp.left.rt.2]; omega
    refine hlook ⟨o, 0⟩ p (p + 1 + a.size) v _ (fok_of props o (by omega) (by omega) (by omega)) (ah_look (by omega)) hp.rt.1 (by omega) (by omega) he (keeps_f (o := o) (a' := false) (by omega) w1.1 w2.1 (fun _ => w3.1) (by omega) (v1.2.trans hme) (v2.2.trans hme') w1.2 (by omega) (fun _ => w3.2)) (fun q => ?_) (fun q => h3 (by rw [q]; rfl))
    rw [q, Bool.true_and] at h2 h3
    refine iha (p + 1) (j + 1) v (by rw [show ((p + 1 : Nat) : Int) = (p : Int) + 1 by omega]; exact hp.left) (hV.unto ho).1 (hV'.unto ho).1 (fun q => ?_) (fun q => h3 (by rw [q]; rfl))
    rw [q, Bool.true_and] at h2 h3
    refine ihb (p + 1 + a.size) (j + 1 + a.tempo) v (by rw [show ((p + 1 + a.size : Nat) : Int) = (p : Int) + 1 + a.size by omega]; exact hp.right) (hV.unto ho).2 (hV'.unto ho).2 (fun q => ?_) h3
    rw [show p + 1 + a.size + b.size = p + (Tm.bin ⟨o, 0⟩ a b).size by show _ = p + (a.size + b.size + 1); omega]
    exact h2 q
theorem follows_is {L L' : List Bool} {c c' : Int} (hl : L.length = L'.length) (hp1 : L.length ≤ 6) {t : Tm} (h : FormT (L.length : Int) t) (hs : t.size ≤ 60) (ht : t.tempo ≤ 6) (h0 : 0 ≤ c) (h1 : c < ((2 ^ t.tempo : Nat) : Int)) (h0' : 0 ≤ c') (h1' : c' < ((2 ^ t.tempo : Nat) : Int)) :
    Ev (fun k => logic_Follows.f k t.flat L c L' c') (keepT L L' (bit c) (bit c') 0 t, 0) := by
  have hfl := t.flat_len
  unfold logic_Follows.f
  refine Ev.congr (fun k => if_pos (by omega)) ?_
  refine Ev.bind (truths_is c hp1 h hs ht h0 h1) ?_
  simp only [if_true]
  refine Ev.bind (truths_is c' (by omega) (by rw [← hl]; exact h) hs ht h0' h1') ?_
  simp only [if_true]
  refine Ev.bind (ends_ok t h.ok hs) ?_
  refine follows_go (L := L) (L' := L') (c := c) (c' := c') (by omega) h 0 0 _ (lies_whole t) (vl_whole t) (vl_whole t) (fun q => ?_) (fun q => q)
  rw [q]
  refine Ev.step (f := fun _ => some (true, (0 : Int))) (fun k => ?_) (Ev.now _)
  simp only [logic_Follows.l0]
  rw [if_neg (by omega)]
/-! ### Meets -/
def accN : Nat → Nat → List Bool → Nat
  | N, _, [] => N
  | N, j, f :: fl => accN (if f = true then N ||| 2 ^ j else N) (j + 1) fl
theorem accN_app : ∀ (fl gl : List Bool) (N j : Nat), accN N j (fl ++ gl) = accN (accN N j fl) (j + fl.length) gl
  | [], gl, N, j => rfl
  | f :: fl, gl, N, j => by
    rw [List.cons_append, accN, accN, accN_app fl gl, List.length_cons, show j + 1 + fl.length = j + (fl.length + 1) by omega]
theorem accN_ok : ∀ (fl : List Bool) (N j : Nat), N < 2 ^ j → j + fl.length ≤ 6 → accN N j fl < 2 ^ (j + fl.length) ∧ (∀ m, m < j → (accN N j fl).testBit m = N.testBit m) ∧ ∀ k, k < fl.length → (accN N j fl).testBit (j + k) = fl.getD k false
  | [], N, j, h, _ => ⟨h, fun m _ => rfl, fun k hk => absurd hk (by simp)⟩
  | f :: fl, N, j, h, h6 => by
    rw [List.length_cons] at h6
    obtain ⟨o1, o2, o3⟩ := or_bit h (show j < 6 by omega) f
    obtain ⟨a1, a2, a3⟩ := accN_ok fl _ (j + 1) o1 (by omega)
    rw [accN, List.length_cons, show j + (fl.length + 1) = j + 1 + fl.length by omega]
    refine ⟨a1, fun m hm => (a2 m (by omega)).trans (o2 m hm), fun k hk => ?_⟩
    cases k with
    | zero => exact (a2 j (by omega)).trans o3
    | succ k =>
      rw [show j + (k + 1) = j + 1 + k by omega, List.getD_cons_succ]
      exact a3 k (by omega)
theorem mfl_len {props : Int} {t : Tm} (h : FormT props t) (L : List Bool) (b : Nat → Bool) : ∀ j, (mfl L b j t).length = t.tempo := by
  induction h with
  | prop v => intro j; rfl
  | yes o h => intro j; rfl
  | not a _ ih => intro j; rw [mfl, if_pos rfl, tempo_not]; exact ih j
  | look o a h _ ih => intro j; rw [mfl, if_neg (show ¬ o = 10 by omega), tempo_look a (by omega), List.length_cons, ih]
  | log o a b h _ _ iha ihb => intro j; rw [mfl, if_pos h, tempo_log a b h, List.length_append, iha, ihb]
  | unto o a b h _ _ iha ihb => intro j; rw [mfl, if_neg (show ¬ (o = 8 ∨ o = 9) by omega), tempo_unto a b (by omega), List.length_cons, List.length_append, iha, ihb]
theorem meets_step {V : List Bool} {es : List Int} {ops : List Op} {o : Int} {p e j N : Nat} {me a y : Bool} (k : Nat) (ho : 14 ≤ o ∧ o ≤ 18) (hr : rd_T51 ops (p : Int) = ⟨o, 0⟩) (hp : p < ops.length) (hn : ops.length ≤ 100) (hj : j < 6) (hN : N < 2 ^ j) (h1 : p + 1 < V.length) (m1 : rdOf false V (p : Int) = me) (m3 : rdOf false V ((p + 1 : Nat) : Int) = a) (he : (o = 15 ∨ o = 16) → p + 1 < es.length ∧ rd es ((p + 1 : Nat) : Int) = (e : Int) ∧ e < V.length ∧ rdOf false V (e : Int) = y) :
    logic_Meets.l0 (k + 1 + 1) V es (N : Int) (j : Int) ops (ops.length : Int) (p : Int) = logic_Meets.l0 k V es ((if metB o me a y = true then N ||| 2 ^ j else N : Nat) : Int) ((j + 1 : Nat) : Int) ops (ops.length : Int) ((p + 1 : Nat) : Int) := by
  have hw : wrap64 ((p : Int) + 1) = ((p + 1 : Nat) : Int) := w64 (n := (p : Int) + 1) (by omega) (by omega)
  have hw2 : wrap64 ((j : Int) + 1) = ((j + 1 : Nat) : Int) := w64 (n := (j : Int) + 1) (by omega) (by omega)
  have hor : Go.bits .or .i64 (N : Int) (shl .i64 1 (j : Int)) = ((N ||| 2 ^ j : Nat) : Int) := by
    rw [shl_pow j (by omega)]
    exact or_nat _ _ (by have := pow_le6 (j := j) (by omega); omega) (pow_lt6 hj)
  have hah : logic_ahead.f o = some true := by
    unfold logic_ahead.f
    rw [if_pos ho.1, decide_eq_true ho.2]
  have g0 : (p : Int) < (ops.length : Int) := by omega
  have g1 : (0 : Int) ≤ (p : Int) := by omega
  have g2 : (p : Int) < (V.length : Int) := by omega
  have g3 : (0 : Int) ≤ ((p + 1 : Nat) : Int) := by omega
  have g4 : ((p + 1 : Nat) : Int) < (V.length : Int) := by omega
  have g5 : (0 : Int) ≤ (j : Int) := by omega
  simp only [logic_Meets.l0, logic_Meets.j1, hr, hah, Option.bind_some, hw, hw2, hor, m1, m3, if_pos g0, if_pos g1, if_pos g2, if_pos g3, if_pos g4, if_pos g5, if_true]
  unfold metB
  by_cases k17 : o = 17
  · simp only [if_pos k17, if_neg (show ¬ o = 14 by omega)]
    cases me <;> cases a <;> rfl
  by_cases k18 : o = 18
  · simp only [if_neg k17, if_pos k18, if_neg (show ¬ o = 14 by omega)]
    cases me <;> cases a <;> rfl
  by_cases k15 : o = 15
  · obtain ⟨e1, e2, e3, e4⟩ := he (.inl k15)
    have g6 : ((p + 1 : Nat) : Int) < (es.length : Int) := by omega
    have g7 : (0 : Int) ≤ (e : Int) := by omega
    have g8 : (e : Int) < (V.length : Int) := by omega
    simp only [if_neg k17, if_neg k18, if_pos k15, if_neg (show ¬ o = 14 by omega), e2, e4, if_pos g6, if_pos g7, if_pos g8]
    cases me <;> cases y <;> rfl
  by_cases k16 : o = 16
  · obtain ⟨e1, e2, e3, e4⟩ := he (.inr k16)
    have g6 : ((p + 1 : Nat) : Int) < (es.length : Int) := by omega
    have g7 : (0 : Int) ≤ (e : Int) := by omega
    have g8 : (e : Int) < (V.length : Int) := by omega
    simp only [if_neg k17, if_neg k18, if_neg k15, if_pos k16, if_neg (show ¬ o = 14 by omega), e2, e4, if_pos g6, if_pos g7, if_pos g8]
    cases me <;> cases y <;> rfl
  · simp only [if_neg k17, if_neg k18, if_neg k15, if_neg k16, if_pos (show o = 14 by omega), if_true]
theorem meets_go {props : Int} {L : List Bool} {c : Int} {V : List Bool} {es : List Int} {ops : List Op} (hn : ops.length ≤ 100) {t : Tm} (h : FormT props t) : ∀ (p j N : Nat) (res : Int × Int), Lies t (p : Int) ops es → VL L c t p j V → N < 2 ^ j → j + t.tempo ≤ 6 →
    Ev (fun k => logic_Meets.l0 k V es ((accN N j (mfl L (bit c) j t) : Nat) : Int) ((j + t.tempo : Nat) : Int) ops (ops.length : Int) ((p + t.size : Nat) : Int)) res →
    Ev (fun k => logic_Meets.l0 k V es (N : Int) (j : Int) ops (ops.length : Int) (p : Int)) res := by
  have hskip : ∀ (o : Op) (p j N : Nat) (res : Int × Int), fok props o → ¬ ah o = true → rd_T51 ops (p : Int) = o → p < ops.length → Ev (fun k => logic_Meets.l0 k V es (N : Int) (j : Int) ops (ops.length : Int) ((p + 1 : Nat) : Int)) res → Ev (fun k => logic_Meets.l0 k V es (N : Int) (j : Int) ops (ops.length : Int) (p : Int)) res := by
    intro o p j N res hf ho hr hp hv
    refine Ev.step (fun k => ?_) hv
    have hw : wrap64 ((p : Int) + 1) = ((p + 1 : Nat) : Int) := w64 (n := (p : Int) + 1) (by omega) (by omega)
    simp only [logic_Meets.l0, hr, ahead_f hf, Option.bind_some, hw]
    rw [if_pos (by omega), if_pos (by omega), if_pos (by omega), if_neg ho]
  induction h with
  | prop v0 h0 h1 =>
    intro p j N res hp hV hN h6 hr
    exact hskip _ p j N res (FormT.ops (.prop v0 h0 h1) _ (List.mem_singleton.mpr rfl)) (ah_not (by decide)) hp.rt.1 (by have := hp.p0; simp only [Tm.size] at this; omega) hr
  | yes o h =>
    intro p j N res hp hV hN h6 hr
    exact hskip _ p j N res (FormT.ops (props := props) (.yes o h) _ (List.mem_singleton.mpr rfl)) (ah_not (by omega)) hp.rt.1 (by have := hp.p0; simp only [Tm.size] at this; omega) hr
  | not a ha ih =>
    intro p j N res hp hV hN h6 hr
    rw [tempo_not] at h6 hr
    have hm : mfl L (bit c) j (.un ⟨10, 0⟩ a) = mfl L (bit c) j a := by rw [mfl]; exact if_pos rfl
    rw [hm] at hr
    refine hskip _ p j N res (fok_of props 10 (by decide) (by decide) (by decide)) (ah_not (by decide)) hp.rt.1 (by have := hp.p0; simp only [Tm.size] at this; omega) ?_
    refine ih (p + 1) j N res (by rw [show ((p + 1 : Nat) : Int) = (p : Int) + 1 by omega]; exact hp.un) hV.not hN h6 ?_
    rw [show p + 1 + a.size = p + (Tm.un ⟨10, 0⟩ a).size by show _ = p + (a.size + 1); omega]
    exact hr
  | look o a h ha ih =>
    intro p j N res hp hV hN h6 hr
    have ho10 : o ≠ 10 := by omega
    rw [tempo_look a ho10] at h6 hr
    have hm : mfl L (bit c) j (.un ⟨o, 0⟩ a) = metB o (bit c j) (tval L (bit c) (j + 1) a) false :: mfl L (bit c) (j + 1) a := by rw [mfl]; exact if_neg ho10
    have hme : tval L (bit c) j (.un ⟨o, 0⟩ a) = bit c j := by rw [tval]; exact if_neg ho10
    rw [hm, accN] at hr
    have r0 := hp.p0
    have v1 := hV.rt
    have w1 := (hV.look ho10).rt
    simp only [Tm.size] at r0
    refine Ev.step (f := fun k => logic_Meets.l0 (k + 1) V es (N : Int) (j : Int) ops (ops.length : Int) (p : Int)) (fun k => rfl) ?_
    refine Ev.step (fun k => meets_step (e := 0) (y := false) k (by omega) hp.rt.1 (by omega) hn (by omega) hN w1.1 (v1.2.trans hme) w1.2 (by omega)) ?_
    refine ih (p + 1) (j + 1) _ res (by rw [show ((p + 1 : Nat) : Int) = (p : Int) + 1 by omega]; exact hp.un) (hV.look ho10) (or_bit hN (by omega) _).1 (by omega) ?_
    rw [show p + 1 + a.size = p + (Tm.un ⟨o, 0⟩ a).size by show _ = p + (a.size + 1); omega, show j + 1 + a.tempo = j + (a.tempo + 1) by omega]
    exact hr
  | log o a b h ha hb iha ihb =>
    intro p j N res hp hV hN h6 hr
    rw [tempo_log a b h] at h6 hr
    have hm : mfl L (bit c) j (.bin ⟨o, 0⟩ a b) = mfl L (bit c) j a ++ mfl L (bit c) (j + a.tempo) b := by rw [mfl]; exact if_pos h
    have la := mfl_len ha L (bit c) j
    rw [hm, accN_app, la] at hr
    have r0 := hp.p0
    simp only [Tm.size] at r0
    have hN2 := (accN_ok (mfl L (bit c) j a) N j hN (by omega)).1
    rw [la] at hN2
    refine hskip _ p j N res (fok_of props o (by omega) (by omega) (by omega)) (ah_not (by omega)) hp.rt.1 (by omega) ?_
    refine iha (p + 1) j N res (by rw [show ((p + 1 : Nat) : Int) = (p : Int) + 1 by omega]; exact hp.left) (hV.logl h).1 hN (by omega) ?_
    refine ihb (p + 1 + a.size) (j + a.tempo) _ res (by rw [show ((p + 1 + a.size : Nat) : Int) = (p : Int) + 1 + a.size by omega]; exact hp.right) (hV.logl h).2 hN2 (by omega) ?_
    rw [show p + 1 + a.size + b.size = p + (Tm.bin ⟨o, 0⟩ a b).size by show _ = p + (a.size + b.size + 1); omega, show j + a.tempo + b.tempo = j + (a.tempo + b.tempo) by omega]
    exact hr
  | unto o a b h ha hb iha ihb =>
    intro p j N res hp hV hN h6 hr
    have ho : ¬ (o = 8 ∨ o = 9) := by omega
    rw [tempo_unto a b ho] at h6 hr
    have hm : mfl L (bit c) j (.bin ⟨o, 0⟩ a b) = metB o (bit c j) (tval L (bit c) (j + 1) a) (tval L (bit c) (j + 1 + a.tempo) b) :: (mfl L (bit c) (j + 1) a ++ mfl L (bit c) (j + 1 + a.tempo) b) := by rw [mfl]; exact if_neg ho
    have hme : tval L (bit c) j (.bin ⟨o, 0⟩ a b) = bit c j := by rw [tval]; exact if_neg ho
    have la := mfl_len ha L (bit c) (j + 1)
    rw [hm, accN, accN_app, la] at hr
    have r0 := hp.p0
    have r1 := hp.left.p0
    have sz := a.size_pos
    have v1 := hV.rt
    have w1 := (hV.unto ho).1.rt
    have w3 := (hV.unto ho).2.rt
    simp only [Tm.size] at r0
    have he : rd es ((p + 1 : Nat) : Int) = ((p + 1 + a.size : Nat) : Int) := by rw [show ((p + 1 : Nat) : Int) = (p : Int) + 1 by omega, hp.left.rt.2]; omega
    have hN1 := (or_bit hN (show j < 6 by omega) (metB o (bit c j) (tval L (bit c) (j + 1) a) (tval L (bit c) (j + 1 + a.tempo) b))).1
    have hN2 := (accN_ok (mfl L (bit c) (j + 1) a) _ (j + 1) hN1 (by omega)).1
    rw [la] at hN2
    refine Ev.step (f := fun k => logic_Meets.l0 (k + 1) V es (N : Int) (j : Int) ops (ops.length : Int) (p : Int)) (fun k => rfl) ?_
    refine Ev.step (fun k => meets_step k (by omega) hp.rt.1 (by omega) hn (by omega) hN w1.1 (v1.2.trans hme) w1.2 (fun _ => ⟨by omega, he, w3.1, w3.2⟩)) ?_
    refine iha (p + 1) (j + 1) _ res (by rw [show ((p + 1 : Nat) : Int) = (p : Int) + 1 by omega]; exact hp.left) (hV.unto ho).1 hN1 (by omega) ?_
    refine ihb (p + 1 + a.size) (j + 1 + a.tempo) _ res (by rw [show ((p + 1 + a.size : Nat) : Int) = (p : Int) + 1 + a.size by omega]; exact hp.right) (hV.unto ho).2 hN2 (by omega) ?_
    rw [show p + 1 + a.size + b.size = p + (Tm.bin ⟨o, 0⟩ a b).size by show _ = p + (a.size + b.size + 1); omega, show j + 1 + a.tempo + b.tempo = j + (a.tempo + b.tempo + 1) by omega]
    exact hr
theorem meets_is {L : List Bool} {c : Int} (hp1 : L.length ≤ 6) {t : Tm} (h : FormT (L.length : Int) t) (hs : t.size ≤ 60) (ht : t.tempo ≤ 6) (h0 : 0 ≤ c) (h1 : c < ((2 ^ t.tempo : Nat) : Int)) :
    Ev (fun k => logic_Meets.f k t.flat L c) (((accN 0 0 (mfl L (bit c) 0 t) : Nat) : Int), 0) := by
  have hfl := t.flat_len
  unfold logic_Meets.f
  refine Ev.bind (truths_is c hp1 h hs ht h0 h1) ?_
  simp only [if_true]
  refine Ev.bind (ends_ok t h.ok hs) ?_
  refine meets_go (L := L) (c := c) (by omega) h 0 0 0 _ (lies_whole t) (vl_whole t) (by decide) (by omega) ?_
  refine Ev.step (f := fun _ => some (((accN 0 0 (mfl L (bit c) 0 t) : Nat) : Int), (0 : Int))) (fun k => ?_) (Ev.now _)
  simp only [logic_Meets.l0]
  rw [if_neg (by omega)]
end Go.Proofs.YtcoaeefmmnohkaaDoor.Q
