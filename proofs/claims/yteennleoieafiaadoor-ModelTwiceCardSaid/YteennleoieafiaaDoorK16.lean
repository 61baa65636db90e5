-- PACKED by pack.py of this repo: QModel QOwn
import Derived.Test.YteennleoieafiaaDoorK3
import Derived.Test.YteennleoieafiaaDoorK9
import Derived.Test.YteennleoieafiaaDoorK10
import Derived.Test.YteennleoieafiaaDoorK12
import Derived.Test.YteennleoieafiaaDoorK13
import Derived.Test.YteennleoieafiaaDoorK14
import Derived.Test.YteennleoieafiaaDoorK15
import Derived.Test.YteennleoieafiaaDoorK5
import Derived.Test.YteennleoieafiaaDoorK6
section
namespace Go.Proofs.YteennleoieafiaaDoor.Q
open Go.RowKit Go.Proofs.YteennleoieafiaaDoorW.PrintWords Go.Proofs.YteennleoieafiaaDoorW.PrintMore Go.Proofs.YteennleoieafiaaDoor.P
set_option linter.unusedVariables false
abbrev Rl := S42
abbrev St := S39
def ExOk (nv : Int) (b : Bool) (l : List Op) : Prop := ∃ t : Tm, l = t.flat ∧ Ty nv b t ∧ t.size ≤ 60
theorem kind_is {nv : Int} (h0 : 0 ≤ nv) (h1 : nv ≤ 6) {b : Bool} {l : List Op} (h : ExOk nv b l) (c : Bool) : Ev (fun k => model_kind.f k l nv c) (if b = c then 0 else 5) := by
  obtain ⟨t, rfl, ht, hs⟩ := h
  unfold model_kind.f
  refine Ev.bind (check_good h0 h1 ht hs) ?_
  cases b <;> cases c <;> exact Ev.now _
theorem kind_good {nv : Int} (h0 : 0 ≤ nv) (h1 : nv ≤ 6) {b : Bool} {l : List Op} (h : ExOk nv b l) : Ev (fun k => model_kind.f k l nv b) 0 := by
  have := kind_is h0 h1 h b
  rwa [if_pos rfl] at this
structure RuleOk (nv : Int) (r : Rl) : Prop where
  len : r.f1.length ≤ 6
  g : ExOk nv true r.f0
  nd : (r.f1.map fun s => s.f0).Nodup
  vr : ∀ s ∈ r.f1, 0 ≤ s.f0 ∧ s.f0 < nv
  vl : ∀ s ∈ r.f1, ExOk nv false s.f1
theorem sets_good {nv : Int} (h0 : 0 ≤ nv) (h1 : nv ≤ 6) : ∀ (l : List St) (seen : List Int), (l.map fun s => s.f0).Nodup → (∀ s ∈ l, s.f0 ∉ seen) → (∀ s ∈ l, 0 ≤ s.f0 ∧ s.f0 < nv) → (∀ s ∈ l, ExOk nv false s.f1) → Ev (fun k => model_rule.go k nv l seen) 0 := by
  intro l
  induction l with
  | nil => intro seen _ _ _ _; exact Ev.congr (fun k => by unfold model_rule.go; rfl) (Ev.now _)
  | cons v l ih =>
    intro seen hnd hs hv hx
    rw [List.map_cons, List.nodup_cons] at hnd
    have a := hv v List.mem_cons_self
    have b := hs v List.mem_cons_self
    refine Ev.congr (f := fun k => (model_kind.f k v.f1 nv false).bind fun e => if e = 0 then model_rule.go k nv l (seen ++ [v.f0]) else some e) (fun k => ?_) (Ev.bind (kind_good h0 h1 (hx v List.mem_cons_self)) ?_)
    · rw [model_rule.go, if_neg (by omega), if_neg b]
    · simp only [if_true]
      refine ih _ hnd.2 (fun u hu hm => ?_) (fun u hu => hv u (List.mem_cons_of_mem _ hu)) (fun u hu => hx u (List.mem_cons_of_mem _ hu))
      rcases List.mem_append.mp hm with hm | hm
      · exact hs u (List.mem_cons_of_mem _ hu) hm
      · exact hnd.1 (List.mem_map.mpr ⟨u, hu, by simpa using hm⟩)
theorem rule_good {nv : Int} (h0 : 0 ≤ nv) (h1 : nv ≤ 6) {r : Rl} (h : RuleOk nv r) : Ev (fun k => model_rule.f k r.f0 r.f1 nv) 0 := by
  have := h.len
  refine Ev.congr (f := fun k => (model_kind.f k r.f0 nv true).bind fun e => if e = 0 then model_rule.go k nv r.f1 [] else some e) (fun k => ?_) (Ev.bind (kind_good h0 h1 h.g) ?_)
  · unfold model_rule.f
    rw [if_neg (by omega)]
    simp only [if_pos (show nv ≤ 1000000 by omega)]
  · simp only [if_true]
    exact sets_good h0 h1 _ _ h.nd (fun _ _ => by simp) h.vr h.vl
structure ModelOk (vs : List Vr) (rs : List Rl) : Prop where
  v : VarsOk vs
  len : rs.length ≤ 12
  r : ∀ r ∈ rs, RuleOk vs.length r
theorem nv_rng {vs : List Vr} {rs : List Rl} (h : ModelOk vs rs) : (0 : Int) ≤ (vs.length : Int) ∧ (vs.length : Int) ≤ 6 := by
  have := h.v.len
  omega
theorem rdR {l : List Rl} {i : Nat} (h : i < l.length) : rd_T42 l (i : Int) = l[i] := by simp [rd_T42, h]
theorem rules_loop (vs : List Vr) (rs : List Rl) (hl : rs.length ≤ 100) (e : Int) (he : ∀ (i : Nat) (hi : i < rs.length), ∃ x, Ev (fun k => model_rule.f k rs[i].f0 rs[i].f1 (vs.length : Int)) x ∧ (x = 0 ∨ (x = e ∧ ∀ j : Nat, j < i → ∀ hj : j < rs.length, Ev (fun k => model_rule.f k rs[j].f0 rs[j].f1 (vs.length : Int)) 0)))
    (hend : (∀ (i : Nat) (hi : i < rs.length), Ev (fun k => model_rule.f k rs[i].f0 rs[i].f1 (vs.length : Int)) 0) → e = 0) : Ev (fun k => model_Check.l0 k rs (rs.length : Int) 0 vs rs) e := by
  have key : ∀ (d i : Nat), i + d = rs.length → (∀ j : Nat, j < i → ∀ hj : j < rs.length, Ev (fun k => model_rule.f k rs[j].f0 rs[j].f1 (vs.length : Int)) 0) → Ev (fun k => model_Check.l0 k rs (rs.length : Int) (i : Int) vs rs) e := by
    intro d
    induction d with
    | zero =>
      intro i hi hb
      obtain rfl := hend (fun j hj => hb j (by omega) hj)
      refine Ev.step (f := fun _ => some 0) (fun k => ?_) (Ev.now _)
      rw [model_Check.l0, if_neg (by omega)]
    | succ d ih =>
      intro i hi hb
      have hil : i < rs.length := by omega
      obtain ⟨x, hx, hx2⟩ := he i hil
      refine Ev.step (f := fun k => (model_rule.f k rs[i].f0 rs[i].f1 (vs.length : Int)).bind fun t => if t = 0 then model_Check.l0 k rs (rs.length : Int) ((i + 1 : Nat) : Int) vs rs else some t) (fun k => ?_) (Ev.bind hx ?_)
      · rw [model_Check.l0, if_pos (by omega), if_pos (by omega), if_pos (by omega), rdR hil, w64 (n := (i : Int) + 1) (by omega) (by omega)]
        rfl
      · by_cases c : x = 0
        · subst c
          simp only [if_true]
          refine ih (i + 1) (by omega) (fun j hj hjl => ?_)
          by_cases e : j = i
          · subst e; exact hx
          · exact hb j (by omega) hjl
        · simp only [if_neg c]
          rcases hx2 with h | ⟨rfl, _⟩
          · exact absurd h c
          · exact Ev.now _
  exact key rs.length 0 (Nat.zero_add _) (fun j hj => absurd hj (by omega))
theorem check_vars {vs : List Vr} {rs : List Rl} (hv : VarsOk vs) (hl : rs.length ≤ 12) {e : Int} (h : Ev (fun k => model_Check.l0 k rs (rs.length : Int) 0 vs rs) e) : Ev (fun k => model_Check.f k vs rs) e := by
  refine Ev.bind (a := 0) (Ev.congr (fun k => (vars_iff k vs).mpr hv) (Ev.now _)) ?_
  simp only [if_true, if_neg (show ¬ (12 < (rs.length : Int)) by omega)]
  exact h
theorem model_good {vs : List Vr} {rs : List Rl} (h : ModelOk vs rs) : Ev (fun k => model_Check.f k vs rs) 0 := by
  obtain ⟨n0, n1⟩ := nv_rng h
  have hl := h.len
  refine check_vars h.v hl (rules_loop vs rs (by omega) 0 (fun i hi => ⟨0, rule_good n0 n1 (h.r _ (List.getElem_mem hi)), .inl rfl⟩) (fun _ => rfl))
end Go.Proofs.YteennleoieafiaaDoor.Q
end
section
namespace Go.Proofs.YteennleoieafiaaDoor.Q
open Go.RowKit Go.Proofs.YteennleoieafiaaDoorW.PrintWords Go.Proofs.YteennleoieafiaaDoorW.PrintMore Go.Proofs.YteennleoieafiaaDoor.P
set_option linter.unusedVariables false
abbrev Pl := S65
abbrev wfI (n : Int) : Prop := (Lit.int .i64 n).wf = true
abbrev PlanWf (y : Pl) : Prop := (y.f0.length ≤ maxLen ∧ rawWf y.f0) ∧ wfI y.f1 ∧ (y.f2.length ≤ maxLen ∧ rawWf y.f2) ∧ True
abbrev DesignWf (a b c d e f : Int) (l : List Pl) : Prop := (wfI a ∧ wfI b) ∧ (wfI c ∧ wfI d) ∧ (wfI e ∧ wfI f) ∧ (l.length ≤ maxLen ∧ ∀ y ∈ l, PlanWf y)
theorem own_var (nm : ByteArray) {lo sp ini : Int} (h1 : wfI lo) (h2 : wfI sp) (h3 : wfI ini) : ∃ v, foretellkeep_Model.var nm lo sp ini = some v ∧ OwnVar nm v := by
  have p0 := pk_lo lo (m := 3) (by decide)
  have p1 := pk_hi lo (m := 3) (by decide)
  have q0 := pk_lo sp (m := 4) (by decide)
  have q1 := pk_hi sp (m := 4) (by decide)
  have hm : 0 < pk lo 3 - 1 + pk sp 4 - (pk lo 3 - 1) + 1 := by omega
  have r0 := pk_lo ini hm
  have r1 := pk_hi ini hm
  refine ⟨⟨nm, pk lo 3 - 1, pk lo 3 - 1 + pk sp 4, pk lo 3 - 1 + pk ini (pk lo 3 - 1 + pk sp 4 - (pk lo 3 - 1) + 1)⟩, ?_, ⟨rfl, ⟨?_, ?_⟩, ⟨?_, ?_⟩, ?_, ?_⟩⟩
  · unfold foretellkeep_Model.var
    rw [picked_is h1 (by decide), Option.bind_some, picked_is h2 (by decide), Option.bind_some, picked_is h3 hm, Option.bind_some, if_pos p0, if_pos (by omega), if_pos q0, if_pos (by omega), if_pos r0, if_pos (by omega)]
  all_goals simp only
  all_goals omega
theorem own_rule {p : Pl} (h : PlanWf p) : ∃ r, Ev (fun k => foretellkeep_Model.rule k p) r ∧ RuleOk 2 r := by
  obtain ⟨⟨_, h1⟩, h2, ⟨_, h3⟩, _⟩ := h
  obtain ⟨t, ht, hs, he⟩ := truth_is h1 2 (by decide)
  obtain ⟨x, hx, hxs, hxe⟩ := number_is h3 2 (by decide)
  have v0 := pk_lo p.f1 (m := 2) (by decide)
  have v1 := pk_hi p.f1 (m := 2) (by decide)
  refine ⟨⟨t.flat, if p.f3 = true then [⟨pk p.f1 2, x.flat⟩, ⟨1 - pk p.f1 2, [⟨2, pk p.f1 2⟩]⟩] else [⟨pk p.f1 2, x.flat⟩]⟩, ?_, ?_⟩
  · unfold foretellkeep_Model.rule
    refine Ev.bind he (Ev.bind (a := pk p.f1 2) (Ev.congr (fun _ => picked_is h2 (by decide)) (Ev.now _)) (Ev.bind hxe ?_))
    simp only [if_pos v0, if_pos (show pk p.f1 2 ≤ 10 by omega)]
    exact Ev.now _
  · have e1 : ExOk 2 false x.flat := ⟨x, rfl, hx.ty, by omega⟩
    have e2 : ExOk 2 false [⟨2, pk p.f1 2⟩] := ⟨.leaf ⟨2, pk p.f1 2⟩, rfl, .var _ v0 v1, by simp [Tm.size]⟩
    refine ⟨?_, ⟨t, rfl, ht.ty, by omega⟩, ?_, ?_, ?_⟩ <;> simp only <;> split
    · simp
    · simp
    · simp only [List.map_cons, List.map_nil, List.nodup_cons, List.mem_singleton]
      exact ⟨by omega, by simp, List.nodup_nil⟩
    · simp
    · intro s hs
      simp only [List.mem_cons, List.not_mem_nil, or_false] at hs
      rcases hs with rfl | rfl <;> simp only <;> omega
    · intro s hs
      obtain rfl := List.mem_singleton.mp hs
      exact ⟨v0, v1⟩
    · intro s hs
      simp only [List.mem_cons, List.not_mem_nil, or_false] at hs
      rcases hs with rfl | rfl
      · exact e1
      · exact e2
    · intro s hs
      obtain rfl := List.mem_singleton.mp hs
      exact e1
theorem own_rules : ∀ (l : List Pl), (∀ p ∈ l, PlanWf p) → ∃ rs, Ev (fun k => foretellkeep_Model.rules k l) rs ∧ rs.length = l.length ∧ ∀ r ∈ rs, RuleOk 2 r
  | [], _ => ⟨[], Ev.congr (fun k => by unfold foretellkeep_Model.rules; rfl) (Ev.now _), rfl, fun _ h => by simp at h⟩
  | p :: l, h => by
    obtain ⟨r, hr, hr2⟩ := own_rule (h p List.mem_cons_self)
    obtain ⟨rs, hrs, hl, hrs2⟩ := own_rules l (fun q hq => h q (List.mem_cons_of_mem _ hq))
    refine ⟨r :: rs, Ev.congr (fun k => by rw [foretellkeep_Model.rules]) (Ev.bind hr (Ev.bind hrs (Ev.now (r :: rs)))), by simp [hl], ?_⟩
    intro q hq
    rcases List.mem_cons.mp hq with rfl | hq
    · exact hr2
    · exact hrs2 q hq
theorem nx_ok : model_name.ok foretellkeep_Model.nx = true := by decide +kernel
theorem ny_ok : model_name.ok foretellkeep_Model.ny = true := by decide +kernel
theorem own_vars {x y : Vr} (hx : OwnVar foretellkeep_Model.nx x) (hy : OwnVar foretellkeep_Model.ny y) : VarsOk [x, y] := by
  have s1 := hx.spn
  have s2 := hy.spn
  refine ⟨by simp, ?_, ?_, ?_, ?_, ?_⟩
  · intro v hv
    simp only [List.mem_cons, List.not_mem_nil, or_false] at hv
    rcases hv with rfl | rfl
    · rw [hx.name]; exact nx_ok
    · rw [hy.name]; exact ny_ok
  · rw [List.map_cons, List.map_cons, List.map_nil, hx.name, hy.name]
    decide +kernel
  · intro v hv
    simp only [List.mem_cons, List.not_mem_nil, or_false] at hv
    rcases hv with rfl | rfl
    · exact hx.rng
    · exact hy.rng
  · intro v hv
    simp only [List.mem_cons, List.not_mem_nil, or_false] at hv
    rcases hv with rfl | rfl
    · have := hx.hi; omega
    · have := hy.hi; omega
  · simp only [cnt, Int.one_mul]
    have : spn y * spn x ≤ 4 * 4 := Int.le_trans (Int.mul_le_mul_of_nonneg_right s2.2 (by omega)) (Int.mul_le_mul_of_nonneg_left s1.2 (by decide))
    omega
structure Own (vs : List Vr) (rs : List Rl) : Prop where
  m : ModelOk vs rs
  two : ∃ x y, vs = [x, y] ∧ OwnVar foretellkeep_Model.nx x ∧ OwnVar foretellkeep_Model.ny y
  few : rs.length ≤ 5
theorem Own.len {vs : List Vr} {rs : List Rl} (h : Own vs rs) : vs.length = 2 := by
  obtain ⟨x, y, rfl, _, _⟩ := h.two
  rfl
theorem Own.cnt {vs : List Vr} {rs : List Rl} (h : Own vs rs) : 1 ≤ cnt vs ∧ cnt vs ≤ 4096 :=
  ⟨cnt_pos h.m.v.le, h.m.v.st⟩
theorem own_model {a b c d e f : Int} {l : List Pl} (h : DesignWf a b c d e f l) : ∃ vs rs, Ev (fun k => foretellkeep_Model.f k a b c d e f l) (vs, rs) ∧ Own vs rs := by
  obtain ⟨⟨ha, hb⟩, ⟨hc, hd⟩, ⟨he, hf⟩, _, hl⟩ := h
  obtain ⟨x, hx, ox⟩ := own_var foretellkeep_Model.nx hc ha he
  obtain ⟨y, hy, oy⟩ := own_var foretellkeep_Model.ny hd hb hf
  obtain ⟨rs, hrs, hlen, hrs2⟩ := own_rules (l.take 5) (fun p hp => hl p (List.mem_of_mem_take hp))
  have h5 : rs.length ≤ 5 := by rw [hlen, List.length_take]; omega
  refine ⟨[x, y], rs, ?_, ⟨own_vars ox oy, by omega, hrs2⟩, ⟨x, y, rfl, ox, oy⟩, h5⟩
  unfold foretellkeep_Model.f
  refine Ev.bind (a := x) (Ev.congr (fun _ => hx) (Ev.now _)) (Ev.bind (a := y) (Ev.congr (fun _ => hy) (Ev.now _)) (Ev.bind hrs (Ev.now _)))
end Go.Proofs.YteennleoieafiaaDoor.Q
end
