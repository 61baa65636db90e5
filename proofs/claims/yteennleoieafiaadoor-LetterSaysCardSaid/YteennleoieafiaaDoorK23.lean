-- PACKED by pack.py of this repo: QStep QProps
import Derived.Test.YteennleoieafiaaDoorK15
import Derived.Test.YteennleoieafiaaDoorK20
import Derived.Test.YteennleoieafiaaDoorK17
import Derived.Test.YteennleoieafiaaDoorK21
import Derived.Test.YteennleoieafiaaDoorK18
section
namespace Go.Proofs.YteennleoieafiaaDoor.Q
open Go.RowKit Go.Proofs.YteennleoieafiaaDoorW.PrintWords Go.Proofs.YteennleoieafiaaDoorW.PrintMore Go.Proofs.YteennleoieafiaaDoor.P
set_option linter.unusedVariables false
def evl (l : List Op) (env : List Int) : Int × Int := (expr_Eval.run env l.reverse []).getD (0, 0)
theorem run_is {nv : Int} {env : List Int} (hlen : (env.length : Int) = nv) {b : Bool} {t : Tm} (h : Ty nv b t) (hs : t.size ≤ 60) : expr_Eval.run env t.flat.reverse [] = some (res (t.val env)) := by
  have hr := run_tm hlen h [] [] (by rw [List.length_nil]; omega)
  rw [List.append_nil] at hr
  rw [hr]
  cases t.val env with
  | none => rfl
  | some n => rfl
theorem evl_tm {nv : Int} {env : List Int} (hlen : (env.length : Int) = nv) {b : Bool} {t : Tm} (h : Ty nv b t) (hs : t.size ≤ 60) : evl t.flat env = res (t.val env) := by
  unfold evl
  rw [run_is hlen h hs]
  rfl
theorem eval_ok {nv : Int} (h1 : nv ≤ 6) {env : List Int} (hlen : (env.length : Int) = nv) (he : ∀ v ∈ env, -1000000 ≤ v ∧ v ≤ 1000000) {b : Bool} {l : List Op} (h : ExOk nv b l) : Ev (fun k => expr_Eval.f k l env) (evl l env) := by
  obtain ⟨t, rfl, ht, hs⟩ := h
  rw [evl_tm hlen ht hs]
  exact eval_is h1 hlen he ht hs
theorem in_wide {vs : List Vr} (hv : VarsOk vs) {env : List Int} (h : inS vs env) : ∀ v ∈ env, -1000000 ≤ v ∧ v ≤ 1000000 := by
  intro x hx
  obtain ⟨i, hi, rfl⟩ := List.getElem_of_mem hx
  have hl : i < vs.length := by rw [← inR_len h]; exact hi
  have h1 := inR_get h i _ _ (List.getElem?_eq_getElem hl) (List.getElem?_eq_getElem hi)
  have h2 := hv.bd _ (List.getElem_mem hl)
  omega
theorem in_len {vs : List Vr} {env : List Int} (h : inS vs env) : (env.length : Int) = (vs.length : Int) := by rw [inR_len h]
theorem eval_in {vs : List Vr} (hv : VarsOk vs) {env : List Int} (h : inS vs env) {b : Bool} {l : List Op} (hl : ExOk vs.length b l) : Ev (fun k => expr_Eval.f k l env) (evl l env) :=
  eval_ok (by have := hv.len; omega) (in_len h) (in_wide hv h) hl
def tr (env : List Int) (p : List Op) : Bool := (evl p env).2 == 0 && (evl p env).1 == 1
def PropsOk (nv : Int) (ps : List (List Op)) : Prop := ps.length ≤ 6 ∧ ∀ p ∈ ps, ExOk nv true p
theorem rdL4 {l : List (List Op)} {i : Nat} (h : i < l.length) : rd_L4 l (i : Int) = l[i] := by simp [rd_L4, h]
theorem props_loop {vs : List Vr} {rs : List Rl} (h : ModelOk vs rs) {ps : List (List Op)} (hp : PropsOk vs.length ps) : ∀ (d i : Nat), i + d = ps.length → Ev (fun k => model_Props.l0 k ps (ps.length : Int) (i : Int) vs rs) 0 := by
  obtain ⟨n0, n1⟩ := nv_rng h
  obtain ⟨hl, hp⟩ := hp
  intro d
  induction d with
  | zero =>
    intro i hi
    refine Ev.step (f := fun _ => some 0) (fun k => ?_) (Ev.now _)
    rw [model_Props.l0, if_neg (by omega)]
  | succ d ih =>
    intro i hi
    have hil : i < ps.length := by omega
    refine Ev.step (f := fun k => (model_kind.f k ps[i] (vs.length : Int) true).bind fun t => if t = 0 then model_Props.l0 k ps (ps.length : Int) ((i + 1 : Nat) : Int) vs rs else some t) (fun k => ?_) (Ev.bind (kind_good n0 n1 (hp _ (List.getElem_mem hil))) ?_)
    · rw [model_Props.l0, if_pos (by omega), if_pos (by omega), if_pos (by omega), rdL4 hil, w64 (n := (i : Int) + 1) (by omega) (by omega)]
      rfl
    · simp only [if_true]
      exact ih (i + 1) (by omega)
theorem props_good {vs : List Vr} {rs : List Rl} (h : ModelOk vs rs) {ps : List (List Op)} (hp : PropsOk vs.length ps) : Ev (fun k => model_Props.f k vs rs ps) 0 := by
  have := hp.1
  refine Ev.bind (model_good h) ?_
  simp only [if_true, if_neg (show ¬ (6 < (ps.length : Int)) by omega)]
  exact props_loop h hp ps.length 0 (Nat.zero_add _)
theorem letter_loop {vs : List Vr} (hv : VarsOk vs) {env : List Int} (he : inS vs env) {ps : List (List Op)} (hp : PropsOk vs.length ps) : ∀ (d i : Nat), i + d = ps.length → Ev (fun k => step_Letter.l0 k env ((ps.take i).map (tr env) ++ List.replicate d false) ps (ps.length : Int) (i : Int)) (ps.map (tr env), 0) := by
  obtain ⟨hl, hp⟩ := hp
  intro d
  induction d with
  | zero =>
    intro i hi
    refine Ev.step (f := fun _ => some (ps.map (tr env), 0)) (fun k => ?_) (Ev.now _)
    rw [step_Letter.l0, if_neg (by omega), List.take_of_length_le (by omega)]
    simp
  | succ d ih =>
    intro i hi
    have hil : i < ps.length := by omega
    have hset : ∀ b : Bool, ((ps.take i).map (tr env) ++ List.replicate (d + 1) false).set i b = (ps.take i).map (tr env) ++ (b :: List.replicate d false) := by
      intro b
      have hli : ((ps.take i).map (tr env)).length = i := by simp; omega
      rw [List.set_append_right _ _ (by omega), hli, Nat.sub_self]
      rfl
    have hnext : (ps.take (i + 1)).map (tr env) ++ List.replicate d false = (ps.take i).map (tr env) ++ (tr env ps[i] :: List.replicate d false) := by
      rw [List.take_add_one, List.getElem?_eq_getElem hil, List.map_append, List.append_assoc]
      rfl
    refine Ev.step (f := fun k => (expr_Eval.f k ps[i] env).bind fun b => if b.2 = 0 then step_Letter.l0 k env ((ps.take i).map (tr env) ++ ((b.1 == 1) :: List.replicate d false)) ps (ps.length : Int) ((i + 1 : Nat) : Int) else step_Letter.l0 k env ((ps.take i).map (tr env) ++ (false :: List.replicate d false)) ps (ps.length : Int) ((i + 1 : Nat) : Int)) (fun k => ?_) (Ev.bind (eval_in hv he (hp _ (List.getElem_mem hil))) ?_)
    · rw [step_Letter.l0, if_pos (by omega), if_pos (by omega), if_pos (by omega), rdL4 hil, w64 (n := (i : Int) + 1) (by omega) (by omega)]
      have hlt : (i : Int) < (((ps.take i).map (tr env) ++ List.replicate (d + 1) false).length : Int) := by simp; omega
      simp only [if_pos hlt, Int.toNat_natCast, hset]
      rfl
    · have := ih (i + 1) (by omega)
      rw [hnext] at this
      by_cases c : (evl ps[i] env).2 = 0
      · simp only [if_pos c]
        have e : tr env ps[i] = ((evl ps[i] env).1 == 1) := by unfold tr; rw [c]; rfl
        rw [e] at this
        exact this
      · simp only [if_neg c]
        have e : tr env ps[i] = false := by unfold tr; rw [beq_eq_false_iff_ne.mpr c, Bool.false_and]
        rw [e] at this
        exact this
theorem letter_is {vs : List Vr} {rs : List Rl} (h : ModelOk vs rs) {ps : List (List Op)} (hp : PropsOk vs.length ps) {c : Int} (h0 : 0 ≤ c) (h1 : c < cnt vs) : Ev (fun k => step_Letter.f k vs rs ps c) (ps.map (tr (valS vs c)), 0) := by
  have hl := hp.1
  refine Ev.bind (props_good h hp) ?_
  simp only [if_true]
  refine Ev.bind (values_is h h0 h1) ?_
  simp only [if_true, if_pos (show (0 : Int) ≤ (ps.length : Int) by omega), Int.toNat_natCast, if_pos (show ps.length ≤ 281474976710656 by omega)]
  exact letter_loop h.v (valS_in c h.v.le) hp ps.length 0 (Nat.zero_add _)
end Go.Proofs.YteennleoieafiaaDoor.Q
end
section
namespace Go.Proofs.YteennleoieafiaaDoor.Q
open Go.RowKit Go.Proofs.YteennleoieafiaaDoorW.PrintWords Go.Proofs.YteennleoieafiaaDoorW.PrintMore Go.Proofs.YteennleoieafiaaDoor.P
set_option linter.unusedVariables false
def tx : Tm := .leaf ⟨2, 0⟩
def ty : Tm := .leaf ⟨2, 1⟩
def t1 : Tm := .leaf ⟨1, 1⟩
def ownTms : List Tm := [.bin ⟨7, 0⟩ tx t1, .bin ⟨7, 0⟩ tx ty, .bin ⟨6, 0⟩ tx ty]
def ownProps : List (List Op) := ownTms.map Tm.flat
theorem props_is : Ev (fun k => foretellkeep_props.f k) ownProps := by
  unfold foretellkeep_props.f
  refine Ev.bind (joined2 7 tx t1 (by decide)) (Ev.bind (joined2 7 tx ty (by decide)) (Ev.bind (joined2 6 tx ty (by decide)) ?_))
  exact Ev.now _
theorem tx_ty : Ty 2 false tx := .var 0 (by decide) (by decide)
theorem ty_ty : Ty 2 false ty := .var 1 (by decide) (by decide)
theorem t1_ty : Ty 2 false t1 := .num 1 (by decide) (by decide)
theorem own_ty : ∀ t ∈ ownTms, Ty 2 true t ∧ t.size ≤ 60 := by
  intro t ht
  simp only [ownTms, List.mem_cons, List.not_mem_nil, or_false] at ht
  rcases ht with rfl | rfl | rfl
  · exact ⟨.cmp 7 _ _ (.inr rfl) tx_ty t1_ty, by decide⟩
  · exact ⟨.cmp 7 _ _ (.inr rfl) tx_ty ty_ty, by decide⟩
  · exact ⟨.cmp 6 _ _ (.inl rfl) tx_ty ty_ty, by decide⟩
theorem ownProps_ok : PropsOk ((2 : Nat) : Int) ownProps := by
  refine ⟨by decide, fun p hp => ?_⟩
  obtain ⟨t, ht, rfl⟩ := List.mem_map.mp hp
  exact ⟨t, rfl, (own_ty t ht).1, (own_ty t ht).2⟩
theorem tr_tm {env : List Int} (hlen : (env.length : Int) = 2) {t : Tm} (h : Ty 2 true t ∧ t.size ≤ 60) {n : Int} (hv : t.val env = some n) : tr env t.flat = (n == 1) := by
  unfold tr
  rw [evl_tm hlen h.1 h.2, hv]
  rfl
theorem bit_tr (p : Prop) [Decidable p] : ((if p then (1 : Int) else 0) == 1) = decide p := by
  by_cases h : p
  · rw [if_pos h, decide_eq_true h]; rfl
  · rw [if_neg h, decide_eq_false h]; rfl
theorem ownProps_tr {x y : Int} (hx : -1000000 ≤ x ∧ x ≤ 1000000) (hy : -1000000 ≤ y ∧ y ≤ 1000000) : ownProps.map (tr [x, y]) = [decide (x < 1), decide (x < y), x == y] := by
  have vx : tx.val [x, y] = some x := lim_ok hx.1 hx.2
  have vy : ty.val [x, y] = some y := lim_ok hy.1 hy.2
  have v1 : t1.val [x, y] = some 1 := val_num _ 1 (by decide) (by decide)
  have h := own_ty
  simp only [ownTms, List.forall_mem_cons] at h
  obtain ⟨h1, h2, h3, _⟩ := h
  have e1 := tr_tm (env := [x, y]) rfl h1 (val_lt vx v1)
  have e2 := tr_tm (env := [x, y]) rfl h2 (val_lt vx vy)
  have e3 := tr_tm (env := [x, y]) rfl h3 (val_eq vx vy)
  rw [bit_tr] at e1 e2 e3
  show [tr [x, y] _, tr [x, y] _, tr [x, y] _] = _
  rw [e1, e2, e3]
  rfl
end Go.Proofs.YteennleoieafiaaDoor.Q
end
