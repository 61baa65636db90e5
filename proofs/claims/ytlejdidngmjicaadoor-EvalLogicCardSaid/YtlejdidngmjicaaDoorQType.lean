/- Terms with their types: what Check says of them; a joined term. -/
import Derived.Test.YtlejdidngmjicaaDoorQGen
import Derived.Test.YtlejdidngmjicaaDoorFExprCheck
import Derived.Test.YtlejdidngmjicaaDoorFForetellkeepJoined
namespace Go.Proofs.YtlejdidngmjicaaDoor.Q
open Go.RowKit Go.Proofs.YtlejdidngmjicaaDoorW.PrintWords Go.Proofs.YtlejdidngmjicaaDoorW.PrintMore Go.Proofs.YtlejdidngmjicaaDoor.P
set_option linter.unusedVariables false
/-- A term that makes a truth (or a number), typed throughout. -/
inductive Ty (vars : Int) : Bool → Tm → Prop
  | num (v : Int) (h0 : -1000 ≤ v) (h1 : v ≤ 1000) : Ty vars false (.leaf ⟨1, v⟩)
  | var (v : Int) (h0 : 0 ≤ v) (h1 : v < vars) : Ty vars false (.leaf ⟨2, v⟩)
  | yes (o : Int) (h : o = 11 ∨ o = 12) : Ty vars true (.leaf ⟨o, 0⟩)
  | arith (o : Int) (a b : Tm) (h : o = 3 ∨ o = 4 ∨ o = 5) (ha : Ty vars false a) (hb : Ty vars false b) : Ty vars false (.bin ⟨o, 0⟩ a b)
  | cmp (o : Int) (a b : Tm) (h : o = 6 ∨ o = 7) (ha : Ty vars false a) (hb : Ty vars false b) : Ty vars true (.bin ⟨o, 0⟩ a b)
  | not (a : Tm) (ha : Ty vars true a) : Ty vars true (.un ⟨10, 0⟩ a)
  | log (o : Int) (a b : Tm) (h : o = 8 ∨ o = 9) (ha : Ty vars true a) (hb : Ty vars true b) : Ty vars true (.bin ⟨o, 0⟩ a b)
theorem NumT.ty {vars : Int} {t : Tm} (h : NumT vars t) : Ty vars false t := by
  induction h with
  | num v h0 h1 => exact .num v (by omega) (by omega)
  | var v h0 h1 => exact .var v h0 h1
  | bin o a b h0 h1 _ _ iha ihb => exact .arith o a b (by omega) iha ihb
theorem TruthT.ty {vars : Int} {t : Tm} (h : TruthT vars t) : Ty vars true t := by
  induction h with
  | yes o h => exact .yes o h
  | cmp o a b h ha hb _ => exact .cmp o a b h ha.ty hb.ty
  | not a _ ih => exact .not a ih
  | log o a b h _ _ iha ihb => exact .log o a b h iha ihb
theorem Ty.ok {vars : Int} {b : Bool} {t : Tm} (h : Ty vars b t) : t.ok := by
  induction h with
  | num v => exact ⟨(by decide : (1 : Int) ≤ 1), (by decide : (1 : Int) ≤ 18), (by decide : polish_Parts.tab.getD (1 : Int).toNat 0 = 0)⟩
  | var v => exact ⟨(by decide : (1 : Int) ≤ 2), (by decide : (2 : Int) ≤ 18), (by decide : polish_Parts.tab.getD (2 : Int).toNat 0 = 0)⟩
  | yes o h => rcases h with rfl | rfl <;> exact ⟨by decide, by decide, by decide⟩
  | arith o a b h _ _ iha ihb => rcases h with rfl | rfl | rfl <;> exact ⟨by decide, by decide, by decide, iha, ihb⟩
  | cmp o a b h _ _ iha ihb => rcases h with rfl | rfl <;> exact ⟨by decide, by decide, by decide, iha, ihb⟩
  | not a _ ih => exact ⟨by decide, by decide, by decide, ih⟩
  | log o a b h _ _ iha ihb => rcases h with rfl | rfl <;> exact ⟨by decide, by decide, by decide, iha, ihb⟩
/-- An op's kind and value are what they may be. -/
def opok (vars : Int) (o : Op) : Prop := 1 ≤ o.f0 ∧ o.f0 ≤ 12 ∧ (o.f0 = 1 → -1000 ≤ o.f1 ∧ o.f1 ≤ 1000) ∧ (o.f0 = 2 → 0 ≤ o.f1 ∧ o.f1 < vars) ∧ (o.f0 ≠ 1 → o.f0 ≠ 2 → o.f1 = 0)
theorem opok_of (vars o : Int) (h0 : 3 ≤ o) (h1 : o ≤ 12) : opok vars ⟨o, 0⟩ :=
  ⟨show 1 ≤ o by omega, h1, fun h => absurd (show o = 1 from h) (by omega), fun h => absurd (show o = 2 from h) (by omega), fun _ _ => rfl⟩
theorem Ty.ops {vars : Int} {b : Bool} {t : Tm} (h : Ty vars b t) : ∀ o ∈ t.flat, opok vars o := by
  induction h with
  | num v h0 h1 =>
    intro o ho
    obtain rfl := List.mem_singleton.mp ho
    exact ⟨show (1 : Int) ≤ 1 by decide, show (1 : Int) ≤ 12 by decide, fun _ => ⟨h0, h1⟩, fun h => absurd (show (1 : Int) = 2 from h) (by decide), fun h => absurd rfl h⟩
  | var v h0 h1 =>
    intro o ho
    obtain rfl := List.mem_singleton.mp ho
    exact ⟨show (1 : Int) ≤ 2 by decide, show (2 : Int) ≤ 12 by decide, fun h => absurd (show (2 : Int) = 1 from h) (by decide), fun _ => ⟨h0, h1⟩, fun _ h => absurd rfl h⟩
  | yes o h =>
    intro x hx
    obtain rfl := List.mem_singleton.mp hx
    exact opok_of vars o (by omega) (by omega)
  | arith o a b h _ _ iha ihb =>
    intro x hx
    simp only [Tm.flat, List.mem_cons, List.mem_append] at hx
    rcases hx with rfl | hx | hx
    · exact opok_of vars o (by omega) (by omega)
    · exact iha x hx
    · exact ihb x hx
  | cmp o a b h _ _ iha ihb =>
    intro x hx
    simp only [Tm.flat, List.mem_cons, List.mem_append] at hx
    rcases hx with rfl | hx | hx
    · exact opok_of vars o (by omega) (by omega)
    · exact iha x hx
    · exact ihb x hx
  | not a _ ih =>
    intro x hx
    simp only [Tm.flat, List.mem_cons] at hx
    rcases hx with rfl | hx
    · exact opok_of vars 10 (by decide) (by decide)
    · exact ih x hx
  | log o a b h _ _ iha ihb =>
    intro x hx
    simp only [Tm.flat, List.mem_cons, List.mem_append] at hx
    rcases hx with rfl | hx | hx
    · exact opok_of vars o (by omega) (by omega)
    · exact iha x hx
    · exact ihb x hx
def mk (o : Int) : Bool := decide (6 ≤ o)
def tk (o : Int) : Bool := decide (8 ≤ o)
theorem truth_f (o : Int) (h0 : 1 ≤ o) (h1 : o ≤ 12) : Ev (fun k => expr_truth.f k o) (mk o, tk o, true) := by
  have : o = 1 ∨ o = 2 ∨ o = 3 ∨ o = 4 ∨ o = 5 ∨ o = 6 ∨ o = 7 ∨ o = 8 ∨ o = 9 ∨ o = 10 ∨ o = 11 ∨ o = 12 := by omega
  refine ev_le 2 (fun k hk => ?_) (Ev.now _)
  obtain ⟨m, rfl⟩ : ∃ m, k = m + 2 := ⟨k - 2, by omega⟩
  rcases this with rfl | rfl | rfl | rfl | rfl | rfl | rfl | rfl | rfl | rfl | rfl | rfl <;> rfl
theorem op_f (vars : Int) (hv0 : 0 ≤ vars) (hv1 : vars ≤ 6) (o : Op) (h : opok vars o) : Ev (fun k => expr_op.f k o.f0 o.f1 vars) 0 := by
  obtain ⟨h0, h1, h2, h3, h4⟩ := h
  refine Ev.bind (truth_f o.f0 h0 h1) ?_
  simp only [if_true]
  by_cases c1 : o.f0 = 1
  · rw [if_pos c1]
    have := h2 c1
    rw [if_neg (by omega), if_neg (by omega)]
    exact Ev.now _
  · rw [if_neg c1]
    by_cases c2 : o.f0 = 2
    · rw [if_pos c2]
      have := h3 c2
      rw [if_neg (by omega), w64 (n := vars - 1) (by omega) (by omega), if_neg (by omega)]
      exact Ev.now _
    · rw [if_neg c2]
      have := h4 c1 c2
      rw [if_neg (by omega), if_neg (by omega)]
      exact Ev.now _
theorem check_ops (vars : Int) (hv0 : 0 ≤ vars) (hv1 : vars ≤ 6) (l : List Op) (es : List Int) (hl : l.length ≤ 1000) (h : ∀ o ∈ l, opok vars o) (r : Bool × Int) (hr : Ev (fun k => expr_Check.l1 k l es l (l.length : Int) 0) r) :
    Ev (fun k => expr_Check.l0 k l vars es l (l.length : Int) 0) r := by
  have hgo : ∀ (d i : Nat), i + d = l.length → Ev (fun k => expr_Check.l0 k l vars es l (l.length : Int) (i : Int)) r := by
    intro d
    induction d with
    | zero =>
      intro i hi
      refine Ev.step (f := fun k => expr_Check.l1 k l es l (l.length : Int) 0) (fun k => ?_) hr
      simp only [expr_Check.l0]
      rw [if_neg (by omega)]
    | succ d ih =>
      intro i hi
      have hil : i < l.length := by omega
      have hrd : rd_T32 l (i : Int) = l[i] := by simp [rd_T32, hil]
      refine Ev.step (f := fun k => (expr_op.f k l[i].f0 l[i].f1 vars).bind fun t => if t = 0 then expr_Check.l0 k l vars es l (l.length : Int) ((i + 1 : Nat) : Int) else some (false, t)) (fun k => ?_) ?_
      · simp only [expr_Check.l0, hrd]
        rw [if_pos (by omega), if_pos (by omega), if_pos (by omega), w64 (n := (i : Int) + 1) (by omega) (by omega)]
        rfl
      · refine Ev.bind (op_f vars hv0 hv1 _ (h _ (List.getElem_mem hil))) ?_
        simp only [if_true]
        exact ih (i + 1) (by omega)
  exact hgo l.length 0 (Nat.zero_add _)
def Tm.rt : Tm → Op
  | .leaf o => o
  | .un o _ => o
  | .bin o _ _ => o
theorem Tm.flat_rt (t : Tm) : ∃ rest, t.flat = t.rt :: rest := by cases t <;> exact ⟨_, rfl⟩
theorem rt_of (o : Int) (h0 : 1 ≤ o) (h1 : o ≤ 12) (b : Bool) (hb : mk o = b) {t : Tm} (ht : t.rt.f0 = o) : 1 ≤ t.rt.f0 ∧ t.rt.f0 ≤ 12 ∧ mk t.rt.f0 = b := by
  rw [ht]; exact ⟨h0, h1, hb⟩
theorem Ty.rt {vars : Int} {b : Bool} {t : Tm} (h : Ty vars b t) : 1 ≤ t.rt.f0 ∧ t.rt.f0 ≤ 12 ∧ mk t.rt.f0 = b := by
  cases h with
  | num v => exact rt_of 1 (by decide) (by decide) _ rfl rfl
  | var v => exact rt_of 2 (by decide) (by decide) _ rfl rfl
  | yes o h => exact rt_of o (by omega) (by omega) _ (by rcases h with rfl | rfl <;> rfl) rfl
  | arith o a b h => exact rt_of o (by omega) (by omega) _ (by rcases h with rfl | rfl | rfl <;> rfl) rfl
  | cmp o a b h => exact rt_of o (by omega) (by omega) _ (by rcases h with rfl | rfl <;> rfl) rfl
  | not a => exact rt_of 10 (by decide) (by decide) _ rfl rfl
  | log o a b h => exact rt_of o (by omega) (by omega) _ (by rcases h with rfl | rfl <;> rfl) rfl
theorem Tm.ends_rt (t : Tm) (p : Int) : ∃ rest, t.ends p = (p + t.size) :: rest := by
  cases t with
  | leaf o => exact ⟨_, rfl⟩
  | un o a => exact ⟨a.ends (p + 1), by simp only [Tm.ends, Tm.size]; congr 1; omega⟩
  | bin o a b => exact ⟨a.ends (p + 1) ++ b.ends (p + 1 + a.size), by simp only [Tm.ends, Tm.size]; congr 1; omega⟩
theorem rd_at {es A B : List Int} {e : Int} (h : es = A ++ e :: B) {p : Int} (hp : p = (A.length : Int)) : rd es p = e := by
  subst h; subst hp
  unfold rd
  rw [Int.toNat_natCast, List.getD_eq_getElem?_getD, List.getElem?_append_right (Nat.le_refl _)]
  simp
/-- Where a term lies in a row of ops, and its ends in a row of ends. -/
structure Lies (t : Tm) (p : Int) (l : List Op) (es : List Int) : Prop where
  ops : ∃ pre post, l = pre ++ (t.flat ++ post) ∧ p = (pre.length : Int)
  ends : ∃ A B, es = A ++ (t.ends p ++ B) ∧ p = (A.length : Int)
theorem Lies.p0 {t : Tm} {p : Int} {l : List Op} {es : List Int} (h : Lies t p l es) : 0 ≤ p ∧ p + t.size ≤ l.length ∧ p + t.size ≤ es.length := by
  obtain ⟨⟨pre, post, h1, h2⟩, ⟨A, B, h3, h4⟩⟩ := h
  refine ⟨by omega, ?_, ?_⟩
  · rw [h1, List.length_append, List.length_append, t.flat_len]; omega
  · rw [h3, List.length_append, List.length_append, t.ends_len]; omega
theorem Lies.rt {t : Tm} {p : Int} {l : List Op} {es : List Int} (h : Lies t p l es) : rd_T32 l p = t.rt ∧ rd es p = p + t.size := by
  obtain ⟨⟨pre, post, h1, h2⟩, ⟨A, B, h3, h4⟩⟩ := h
  obtain ⟨r1, hr1⟩ := t.flat_rt
  obtain ⟨r2, hr2⟩ := t.ends_rt p
  rw [hr1] at h1
  rw [hr2] at h3
  exact ⟨rdT_at (pre := pre) (post := r1 ++ post) (by rw [h1]; simp) h2, rd_at (A := A) (B := r2 ++ B) (by rw [h3]; simp) h4⟩
theorem Lies.un {o : Op} {a : Tm} {p : Int} {l : List Op} {es : List Int} (h : Lies (.un o a) p l es) : Lies a (p + 1) l es := by
  obtain ⟨⟨pre, post, h1, h2⟩, ⟨A, B, h3, h4⟩⟩ := h
  exact ⟨⟨pre ++ [o], post, by rw [h1]; simp [Tm.flat], by rw [List.length_append, List.length_singleton]; omega⟩, ⟨A ++ [p + 1 + a.size], B, by rw [h3]; simp [Tm.ends], by rw [List.length_append, List.length_singleton]; omega⟩⟩
theorem Lies.left {o : Op} {a b : Tm} {p : Int} {l : List Op} {es : List Int} (h : Lies (.bin o a b) p l es) : Lies a (p + 1) l es := by
  obtain ⟨⟨pre, post, h1, h2⟩, ⟨A, B, h3, h4⟩⟩ := h
  exact ⟨⟨pre ++ [o], b.flat ++ post, by rw [h1]; simp [Tm.flat], by rw [List.length_append, List.length_singleton]; omega⟩, ⟨A ++ [p + 1 + a.size + b.size], b.ends (p + 1 + a.size) ++ B, by rw [h3]; simp [Tm.ends], by rw [List.length_append, List.length_singleton]; omega⟩⟩
theorem Lies.right {o : Op} {a b : Tm} {p : Int} {l : List Op} {es : List Int} (h : Lies (.bin o a b) p l es) : Lies b (p + 1 + a.size) l es := by
  obtain ⟨⟨pre, post, h1, h2⟩, ⟨A, B, h3, h4⟩⟩ := h
  exact ⟨⟨pre ++ [o] ++ a.flat, post, by rw [h1]; simp [Tm.flat], by rw [List.length_append, List.length_append, List.length_singleton, a.flat_len]; omega⟩, ⟨A ++ [p + 1 + a.size + b.size] ++ a.ends (p + 1), B, by rw [h3]; simp [Tm.ends], by rw [List.length_append, List.length_append, List.length_singleton, a.ends_len]; omega⟩⟩
section
variable {vars : Int} {l : List Op} {es : List Int} {r : Bool × Int}
/-- A place's op is looked at: its parts are next. -/
theorem l1_at {t : Tm} {p : Int} (h : Lies t p l es) (hl : l.length ≤ 1000) (h0 : 1 ≤ t.rt.f0) (h1 : t.rt.f0 ≤ 12) (hr : Ev (fun k => expr_Check.l2 k l es p (tk t.rt.f0) (p + 1) l (l.length : Int) p) r) :
    Ev (fun k => expr_Check.l1 k l es l (l.length : Int) p) r := by
  obtain ⟨q0, q1, q2⟩ := h.p0
  obtain ⟨e1, e2⟩ := h.rt
  have hs := t.size_pos
  refine Ev.step (f := fun k => (expr_truth.f k t.rt.f0).bind fun bt => expr_Check.l2 k l es p bt.2.1 (p + 1) l (l.length : Int) p) (fun k => ?_) (Ev.bind (truth_f _ h0 h1) hr)
  simp only [expr_Check.l1, e1]
  rw [if_pos (by omega), if_pos (by omega), if_pos (by omega), w64 (n := p + 1) (by omega) (by omega)]
/-- No more parts: the next place. -/
theorem l2_end {p x : Int} {b : Bool} (h0 : 0 ≤ p) (h1 : p < es.length) (h2 : p ≤ 100000) (hx : ¬ x < rd es p) (hr : Ev (fun k => expr_Check.l1 k l es l (l.length : Int) (p + 1)) r) :
    Ev (fun k => expr_Check.l2 k l es p b x l (l.length : Int) p) r := by
  refine Ev.step (f := fun k => expr_Check.l1 k l es l (l.length : Int) (p + 1)) (fun k => ?_) hr
  simp only [expr_Check.l2]
  rw [if_pos (by omega), if_pos (by omega), if_neg hx, w64 (n := p + 1) (by omega) (by omega)]
/-- A part of the kind that is wanted: the next part. -/
theorem l2_part {p x : Int} {b : Bool} {a : Tm} (h : Lies a x l es) (h0 : 0 ≤ p) (h1 : p < es.length) (hx : x < rd es p) (ha0 : 1 ≤ a.rt.f0) (ha1 : a.rt.f0 ≤ 12) (hb : mk a.rt.f0 = b)
    (hr : Ev (fun k => expr_Check.l2 k l es p b (x + a.size) l (l.length : Int) p) r) : Ev (fun k => expr_Check.l2 k l es p b x l (l.length : Int) p) r := by
  obtain ⟨q0, q1, q2⟩ := h.p0
  obtain ⟨e1, e2⟩ := h.rt
  have hs := a.size_pos
  refine Ev.step (f := fun k => (expr_truth.f k a.rt.f0).bind fun bt => if (bt.1 != b) = true then some (false, 5) else expr_Check.l2 k l es p b (x + a.size) l (l.length : Int) p) (fun k => ?_) (Ev.bind (truth_f _ ha0 ha1) ?_)
  · simp only [expr_Check.l2, e1, e2]
    rw [if_pos (by omega), if_pos (by omega), if_pos hx, if_pos (by omega), if_pos (by omega)]
    congr 1
    funext bt
    rw [if_pos (show x < (es.length : Int) by omega)]
  · simp only [hb, bne_self_eq_false, Bool.false_eq_true, if_false]
    exact hr
/-- A part of the other kind: an error. -/
theorem l2_bad {p x : Int} {b : Bool} {a : Tm} (h : Lies a x l es) (h0 : 0 ≤ p) (h1 : p < es.length) (hx : x < rd es p) (ha0 : 1 ≤ a.rt.f0) (ha1 : a.rt.f0 ≤ 12) (hb : mk a.rt.f0 ≠ b) :
    Ev (fun k => expr_Check.l2 k l es p b x l (l.length : Int) p) (false, 5) := by
  obtain ⟨q0, q1, q2⟩ := h.p0
  obtain ⟨e1, e2⟩ := h.rt
  have hs := a.size_pos
  refine Ev.step (f := fun k => (expr_truth.f k a.rt.f0).bind fun bt => if (bt.1 != b) = true then some (false, 5) else (if x < (es.length : Int) then expr_Check.l2 k l es p b (rd es x) l (l.length : Int) p else none)) (fun k => ?_) (Ev.bind (truth_f _ ha0 ha1) ?_)
  · simp only [expr_Check.l2, e1]
    rw [if_pos (by omega), if_pos (by omega), if_pos hx, if_pos (by omega), if_pos (by omega)]
  · exact Ev.congr (fun k => if_pos (bne_iff_ne.mpr hb)) (Ev.now _)
theorem bin_parts {o : Op} {a b : Tm} {p : Int} {ba bb : Bool} (h : Lies (.bin o a b) p l es) (hl : l.length ≤ 1000) (h0 : 1 ≤ o.f0) (h1 : o.f0 ≤ 12) (ha : Ty vars ba a) (hb : Ty vars bb b) (h3 : ba = tk o.f0) (h4 : bb = tk o.f0)
    (hr : Ev (fun k => expr_Check.l1 k l es l (l.length : Int) (p + 1)) r) : Ev (fun k => expr_Check.l1 k l es l (l.length : Int) p) r := by
  obtain ⟨q0, q1, q2⟩ := h.p0
  obtain ⟨e1, e2⟩ := h.rt
  obtain ⟨a0, a1, a2⟩ := ha.rt
  obtain ⟨b0, b1, b2⟩ := hb.rt
  have sa := a.size_pos
  have sb := b.size_pos
  simp only [Tm.size] at q1 q2 e2
  refine l1_at h hl h0 h1 ?_
  refine l2_part h.left q0 (by omega) (by rw [e2]; omega) a0 a1 (a2.trans h3) ?_
  refine l2_part h.right q0 (by omega) (by rw [e2]; omega) b0 b1 (b2.trans h4) ?_
  exact l2_end q0 (by omega) (by omega) (by rw [e2]; omega) hr
theorem check_tm {b : Bool} {t : Tm} (h : Ty vars b t) : ∀ (p : Int), Lies t p l es → l.length ≤ 1000 → Ev (fun k => expr_Check.l1 k l es l (l.length : Int) (p + t.size)) r → Ev (fun k => expr_Check.l1 k l es l (l.length : Int) p) r := by
  have hleaf : ∀ (o : Op) (p : Int), 1 ≤ o.f0 → o.f0 ≤ 12 → Lies (.leaf o) p l es → l.length ≤ 1000 → Ev (fun k => expr_Check.l1 k l es l (l.length : Int) (p + (Tm.leaf o).size)) r → Ev (fun k => expr_Check.l1 k l es l (l.length : Int) p) r := by
    intro o p h0 h1 hp hl hr
    obtain ⟨q0, q1, q2⟩ := hp.p0
    obtain ⟨e1, e2⟩ := hp.rt
    simp only [Tm.size] at q1 q2 e2 hr
    exact l1_at hp hl h0 h1 (l2_end q0 (by omega) (by omega) (by rw [e2]; omega) hr)
  have hbin : ∀ (o : Op) (a b : Tm) (ba : Bool) (p : Int), 1 ≤ o.f0 → o.f0 ≤ 12 → ba = tk o.f0 → Ty vars ba a → Ty vars ba b → (∀ (p : Int), Lies a p l es → l.length ≤ 1000 → Ev (fun k => expr_Check.l1 k l es l (l.length : Int) (p + a.size)) r → Ev (fun k => expr_Check.l1 k l es l (l.length : Int) p) r) →
      (∀ (p : Int), Lies b p l es → l.length ≤ 1000 → Ev (fun k => expr_Check.l1 k l es l (l.length : Int) (p + b.size)) r → Ev (fun k => expr_Check.l1 k l es l (l.length : Int) p) r) → Lies (.bin o a b) p l es → l.length ≤ 1000 → Ev (fun k => expr_Check.l1 k l es l (l.length : Int) (p + (Tm.bin o a b).size)) r → Ev (fun k => expr_Check.l1 k l es l (l.length : Int) p) r := by
    intro o a b ba p h0 h1 h2 ha hb iha ihb hp hl hr
    refine bin_parts hp hl h0 h1 ha hb h2 h2 ?_
    refine iha (p + 1) hp.left hl ?_
    refine ihb (p + 1 + a.size) hp.right hl ?_
    have e : p + 1 + (a.size : Int) + (b.size : Int) = p + ((Tm.bin o a b).size : Int) := by simp only [Tm.size]; omega
    rw [e]
    exact hr
  induction h with
  | num v => exact fun p => hleaf _ p (show (1 : Int) ≤ 1 by decide) (show (1 : Int) ≤ 12 by decide)
  | var v => exact fun p => hleaf _ p (show (1 : Int) ≤ 2 by decide) (show (2 : Int) ≤ 12 by decide)
  | yes o h => exact fun p => hleaf _ p (show 1 ≤ o by omega) (show o ≤ 12 by omega)
  | arith o a b h ha hb iha ihb => exact fun p => hbin _ a b false p (show 1 ≤ o by omega) (show o ≤ 12 by omega) (by rcases h with rfl | rfl | rfl <;> rfl) ha hb iha ihb
  | cmp o a b h ha hb iha ihb => exact fun p => hbin _ a b false p (show 1 ≤ o by omega) (show o ≤ 12 by omega) (by rcases h with rfl | rfl <;> rfl) ha hb iha ihb
  | log o a b h ha hb iha ihb => exact fun p => hbin _ a b true p (show 1 ≤ o by omega) (show o ≤ 12 by omega) (by rcases h with rfl | rfl <;> rfl) ha hb iha ihb
  | not a ha ih =>
    intro p hp hl hr
    obtain ⟨q0, q1, q2⟩ := hp.p0
    obtain ⟨e1, e2⟩ := hp.rt
    obtain ⟨a0, a1, a2⟩ := ha.rt
    have sa := a.size_pos
    simp only [Tm.size] at q1 q2 e2
    refine l1_at hp hl (show (1 : Int) ≤ 10 by decide) (show (10 : Int) ≤ 12 by decide) ?_
    refine l2_part hp.un q0 (by omega) (by rw [e2]; omega) a0 a1 a2 ?_
    refine l2_end q0 (by omega) (by omega) (by rw [e2]; omega) ?_
    refine ih (p + 1) hp.un hl ?_
    have e : p + 1 + (a.size : Int) = p + ((Tm.un ⟨10, 0⟩ a).size : Int) := by simp only [Tm.size]; omega
    rw [e]
    exact hr
end
theorem lies_whole (t : Tm) : Lies t 0 t.flat (t.ends 0) := ⟨⟨[], [], by simp, rfl⟩, ⟨[], [], by simp, rfl⟩⟩
theorem check_from {vars : Int} (hv0 : 0 ≤ vars) (hv1 : vars ≤ 6) {t : Tm} (hk : t.ok) (ho : ∀ o ∈ t.flat, opok vars o) (hs : t.size ≤ 60) {r : Bool × Int} (hr : Ev (fun k => expr_Check.l1 k t.flat (t.ends 0) t.flat (t.flat.length : Int) 0) r) :
    Ev (fun k => expr_Check.f k t.flat vars) r := by
  unfold expr_Check.f
  simp only [if_neg (show ¬ vars < 0 by omega), decide_eq_false (show ¬ vars > 6 by omega)]
  refine Ev.step (f := fun k => (polish_Ends.f k t.flat).bind fun bt => if bt.2 = 0 then expr_Check.l0 k t.flat vars bt.1 t.flat (t.flat.length : Int) 0 else some (false, bt.2)) (fun k => ?_) (Ev.bind (ends_ok t hk hs) ?_)
  · simp only [expr_Check.j0, Bool.false_eq_true, if_false]
  · simp only [if_true]
    exact check_ops vars hv0 hv1 t.flat _ (by rw [t.flat_len]; omega) ho r hr
theorem check_good {vars : Int} (hv0 : 0 ≤ vars) (hv1 : vars ≤ 6) {b : Bool} {t : Tm} (h : Ty vars b t) (hs : t.size ≤ 60) : Ev (fun k => expr_Check.f k t.flat vars) (b, 0) := by
  have hl := t.flat_len
  have hp := t.size_pos
  obtain ⟨a0, a1, a2⟩ := h.rt
  refine check_from hv0 hv1 h.ok h.ops hs ?_
  refine check_tm h 0 (lies_whole t) (by omega) ?_
  refine Ev.step (f := fun k => (expr_truth.f k t.rt.f0).bind fun bt => some (bt.1, 0)) (fun k => ?_) (Ev.bind (truth_f _ a0 a1) ?_)
  · simp only [expr_Check.l1, (lies_whole t).rt.1]
    rw [if_neg (by omega), if_pos (by omega)]
  · simp only [a2]
    exact Ev.now _
/-- The first part of the other kind. -/
theorem check_bad1 {vars : Int} (hv0 : 0 ≤ vars) (hv1 : vars ≤ 6) {o : Int} {a b : Tm} {ba bb : Bool} (ho0 : 3 ≤ o) (ho1 : o ≤ 9) (ha : Ty vars ba a) (hb : Ty vars bb b) (hx : ba ≠ tk o) (hs : (Tm.bin ⟨o, 0⟩ a b).size ≤ 60) :
    Ev (fun k => expr_Check.f k (Tm.bin ⟨o, 0⟩ a b).flat vars) (false, 5) := by
  have hl := (Tm.bin ⟨o, 0⟩ a b).flat_len
  have sw := (Tm.bin ⟨o, 0⟩ a b).size_pos
  have sa := a.size_pos
  obtain ⟨a0, a1, a2⟩ := ha.rt
  have hw := lies_whole (Tm.bin ⟨o, 0⟩ a b)
  obtain ⟨q0, q1, q2⟩ := hw.p0
  obtain ⟨e1, e2⟩ := hw.rt
  have ho : o = 3 ∨ o = 4 ∨ o = 5 ∨ o = 6 ∨ o = 7 ∨ o = 8 ∨ o = 9 := by omega
  refine check_from hv0 hv1 (by rcases ho with rfl | rfl | rfl | rfl | rfl | rfl | rfl <;> exact ⟨by decide, by decide, by decide, ha.ok, hb.ok⟩) ?_ hs ?_
  · intro x hx
    simp only [Tm.flat, List.mem_cons, List.mem_append] at hx
    rcases hx with rfl | hx | hx
    · exact opok_of vars o (by omega) (by omega)
    · exact ha.ops x hx
    · exact hb.ops x hx
  · refine l1_at hw (by omega) (show 1 ≤ o by omega) (show o ≤ 12 by omega) ?_
    exact l2_bad hw.left (by decide) (by omega) (by rw [e2]; simp only [Tm.size]; omega) a0 a1 (by rw [a2]; exact hx)
/-- The second part of the other kind. -/
theorem check_bad2 {vars : Int} (hv0 : 0 ≤ vars) (hv1 : vars ≤ 6) {o : Int} {a b : Tm} {ba bb : Bool} (ho0 : 3 ≤ o) (ho1 : o ≤ 9) (ha : Ty vars ba a) (hb : Ty vars bb b) (hy : ba = tk o) (hx : bb ≠ tk o) (hs : (Tm.bin ⟨o, 0⟩ a b).size ≤ 60) :
    Ev (fun k => expr_Check.f k (Tm.bin ⟨o, 0⟩ a b).flat vars) (false, 5) := by
  have hl := (Tm.bin ⟨o, 0⟩ a b).flat_len
  have sw := (Tm.bin ⟨o, 0⟩ a b).size_pos
  have sa := a.size_pos
  have sb := b.size_pos
  obtain ⟨a0, a1, a2⟩ := ha.rt
  obtain ⟨b0, b1, b2⟩ := hb.rt
  have hw := lies_whole (Tm.bin ⟨o, 0⟩ a b)
  obtain ⟨q0, q1, q2⟩ := hw.p0
  obtain ⟨e1, e2⟩ := hw.rt
  have ho : o = 3 ∨ o = 4 ∨ o = 5 ∨ o = 6 ∨ o = 7 ∨ o = 8 ∨ o = 9 := by omega
  refine check_from hv0 hv1 (by rcases ho with rfl | rfl | rfl | rfl | rfl | rfl | rfl <;> exact ⟨by decide, by decide, by decide, ha.ok, hb.ok⟩) ?_ hs ?_
  · intro x hx
    simp only [Tm.flat, List.mem_cons, List.mem_append] at hx
    rcases hx with rfl | hx | hx
    · exact opok_of vars o (by omega) (by omega)
    · exact ha.ops x hx
    · exact hb.ops x hx
  · refine l1_at hw (by omega) (show 1 ≤ o by omega) (show o ≤ 12 by omega) ?_
    refine l2_part hw.left (by decide) (by omega) (by rw [e2]; simp only [Tm.size]; omega) a0 a1 (by rw [a2]; exact hy) ?_
    exact l2_bad hw.right (by decide) (by omega) (by rw [e2]; simp only [Tm.size]; omega) b0 b1 (by rw [b2]; exact hx)
theorem check_badn {vars : Int} (hv0 : 0 ≤ vars) (hv1 : vars ≤ 6) {a : Tm} (ha : Ty vars false a) (hs : (Tm.un ⟨10, 0⟩ a).size ≤ 60) : Ev (fun k => expr_Check.f k (Tm.un ⟨10, 0⟩ a).flat vars) (false, 5) := by
  have hl := (Tm.un ⟨10, 0⟩ a).flat_len
  have sw := (Tm.un ⟨10, 0⟩ a).size_pos
  have sa := a.size_pos
  obtain ⟨a0, a1, a2⟩ := ha.rt
  have hw := lies_whole (Tm.un ⟨10, 0⟩ a)
  obtain ⟨q0, q1, q2⟩ := hw.p0
  obtain ⟨e1, e2⟩ := hw.rt
  refine check_from hv0 hv1 (t := .un ⟨10, 0⟩ a) ⟨by decide, by decide, by decide, ha.ok⟩ ?_ hs ?_
  · intro x hx
    simp only [Tm.flat, List.mem_cons] at hx
    rcases hx with rfl | hx
    · exact opok_of vars 10 (by decide) (by decide)
    · exact ha.ops x hx
  · refine l1_at hw (by omega) (show (1 : Int) ≤ 10 by decide) (show (10 : Int) ≤ 12 by decide) ?_
    exact l2_bad hw.un (by decide) (by omega) (by rw [e2]; simp only [Tm.size]; omega) a0 a1 (by rw [a2]; exact (by decide : false ≠ tk 10))
theorem joined2 (o : Int) (a b : Tm) (h : a.size + b.size ≤ 100000) : Ev (fun k => foretellkeep_joined.f k o [a.flat, b.flat]) (Tm.bin ⟨o, 0⟩ a b).flat := by
  have la := a.flat_len
  have lb := b.flat_len
  unfold foretellkeep_joined.f
  refine Ev.step (f := fun k => foretellkeep_joined.l0 k [a.flat, b.flat] ([⟨o, 0⟩] ++ a.flat) 1) (fun k => ?_) (Ev.step (f := fun k => foretellkeep_joined.l0 k [a.flat, b.flat] ([⟨o, 0⟩] ++ a.flat ++ b.flat) 2) (fun k => ?_) (Ev.step (f := fun _ => some ([⟨o, 0⟩] ++ a.flat ++ b.flat)) (fun k => ?_) (ev_some (by simp [Tm.flat]))))
  · simp only [foretellkeep_joined.l0, show rd_L4 [a.flat, b.flat] 0 = a.flat from rfl, show wrap64 ((0 : Int) + 1) = 1 from w64 (n := (0 : Int) + 1) (by decide) (by decide)]
    rw [if_pos (by simp), if_pos (by decide), if_pos (by simp; omega)]
  · simp only [foretellkeep_joined.l0, show rd_L4 [a.flat, b.flat] 1 = b.flat from rfl, show wrap64 ((1 : Int) + 1) = 2 from w64 (n := (1 : Int) + 1) (by decide) (by decide)]
    rw [if_pos (by simp), if_pos (by decide), if_pos (by simp; omega)]
  · simp only [foretellkeep_joined.l0]
    rw [if_neg (by simp)]
theorem joined1 (o : Int) (a : Tm) (h : a.size ≤ 100000) : Ev (fun k => foretellkeep_joined.f k o [a.flat]) (Tm.un ⟨o, 0⟩ a).flat := by
  have la := a.flat_len
  unfold foretellkeep_joined.f
  refine Ev.step (f := fun k => foretellkeep_joined.l0 k [a.flat] ([⟨o, 0⟩] ++ a.flat) 1) (fun k => ?_) (Ev.step (f := fun _ => some ([⟨o, 0⟩] ++ a.flat)) (fun k => ?_) (ev_some (by simp [Tm.flat])))
  · simp only [foretellkeep_joined.l0, show rd_L4 [a.flat] 0 = a.flat from rfl, show wrap64 ((0 : Int) + 1) = 1 from w64 (n := (0 : Int) + 1) (by decide) (by decide)]
    rw [if_pos (by simp), if_pos (by decide), if_pos (by simp; omega)]
  · simp only [foretellkeep_joined.l0]
    rw [if_neg (by simp)]
end Go.Proofs.YtlejdidngmjicaaDoor.Q
