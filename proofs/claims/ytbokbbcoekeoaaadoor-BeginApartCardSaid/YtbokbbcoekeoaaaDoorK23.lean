-- PACKED by pack.py of this repo: QTruths QStep QProps
import Derived.Test.YtbokbbcoekeoaaaDoorK15
import Derived.Test.YtbokbbcoekeoaaaDoorK5
import Derived.Test.YtbokbbcoekeoaaaDoorK20
import Derived.Test.YtbokbbcoekeoaaaDoorK18
import Derived.Test.YtbokbbcoekeoaaaDoorK13
import Derived.Test.YtbokbbcoekeoaaaDoorK19
import Derived.Test.YtbokbbcoekeoaaaDoorK3
section
namespace Go.Proofs.YtbokbbcoekeoaaaDoor.Q
open Go.RowKit Go.Proofs.YtbokbbcoekeoaaaDoorW.PrintWords Go.Proofs.YtbokbbcoekeoaaaDoorW.PrintMore Go.Proofs.YtbokbbcoekeoaaaDoor.P
set_option linter.unusedVariables false
def bit (c : Int) (j : Nat) : Bool := Go.bits .and .i64 (shr .i64 c (j : Int)) 1 == 1
def hd (l : List Bool) : Bool := l.headD false
def Tm.tv (letter : List Bool) (c : Int) : Nat → Tm → List Bool
  | _, .leaf o => [if o.f0 = 13 then rdOf false letter o.f1 else decide (o.f0 = 11)]
  | j, .un o a => if o.f0 = 10 then (!(hd (a.tv letter c j))) :: a.tv letter c j else bit c j :: a.tv letter c (j + 1)
  | j, .bin o a b => if o.f0 = 8 ∨ o.f0 = 9 then (if o.f0 = 8 then hd (a.tv letter c j) && hd (b.tv letter c (j + a.tempo)) else hd (a.tv letter c j) || hd (b.tv letter c (j + a.tempo))) :: (a.tv letter c j ++ b.tv letter c (j + a.tempo)) else bit c j :: (a.tv letter c (j + 1) ++ b.tv letter c (j + 1 + a.tempo))
theorem Tm.tv_len (letter : List Bool) (c : Int) : ∀ (t : Tm) (j : Nat), (t.tv letter c j).length = t.size
  | .leaf _, _ => rfl
  | .un o a, j => by
    unfold Tm.tv
    by_cases h : o.f0 = 10
    · rw [if_pos h, List.length_cons, a.tv_len]; rfl
    · rw [if_neg h, List.length_cons, a.tv_len]; rfl
  | .bin o a b, j => by
    unfold Tm.tv
    by_cases h : o.f0 = 8 ∨ o.f0 = 9
    · rw [if_pos h, List.length_cons, List.length_append, a.tv_len, b.tv_len]; rfl
    · rw [if_neg h, List.length_cons, List.length_append, a.tv_len, b.tv_len]; rfl
theorem set_rep (p : Nat) (post : List Bool) (v : Bool) : (List.replicate (p + 1) false ++ post).set p v = List.replicate p false ++ (v :: post) := by
  rw [List.replicate_succ', List.append_assoc, List.set_append_right _ _ (by simp)]
  simp
theorem rd_mid {pre l : List Bool} {i : Int} (hi : i = (pre.length : Int)) : rdOf false (pre ++ l) i = hd l := by
  subst hi
  unfold rdOf hd
  rw [Int.toNat_natCast, List.getD_eq_getElem?_getD, List.getElem?_append_right (Nat.le_refl _)]
  cases l <;> simp
theorem run_form {props : Int} {letter : List Bool} (c : Int) (hlp : (letter.length : Int) = props) {t : Tm} (h : FormT props t) : ∀ (ops : List Op) (es : List Int) (p j : Nat) (post : List Bool), Lies t (p : Int) ops es → p + t.size + post.length = ops.length → j + t.tempo ≤ 60 →
    logic_Truths.run ops letter c es (p + t.size) (List.replicate (p + t.size) false ++ post) ((j + t.tempo : Nat) : Int) = logic_Truths.run ops letter c es p (List.replicate p false ++ (t.tv letter c j ++ post)) (j : Int) := by
  have hleaf : ∀ (o : Op) (v : Bool) (ops : List Op) (es : List Int) (p j : Nat) (post : List Bool), Lies (.leaf o) (p : Int) ops es → (∀ out bit, truths_step o letter c es out bit p = some (out.set p v, bit) ∨ (truths_step o letter c es out bit p = some (out, bit) ∧ v = false)) →
      logic_Truths.run ops letter c es (p + 1) (List.replicate (p + 1) false ++ post) (j : Int) = logic_Truths.run ops letter c es p (List.replicate p false ++ (v :: post)) (j : Int) := by
    intro o v ops es p j post hp hv
    have e1 : rd_T72 ops (p : Int) = o := hp.rt.1
    rw [logic_Truths.run, e1]
    rcases hv (List.replicate (p + 1) false ++ post) (j : Int) with q | ⟨q, rfl⟩
    · rw [q, Option.bind_some, set_rep]
    · rw [q, Option.bind_some, List.replicate_succ', List.append_assoc]; rfl
  have hop : ∀ (o : Op) (v : Bool) (ops : List Op) (es : List Int) (p : Nat) (b b' : Int) (post : List Bool), rd_T72 ops (p : Int) = o → truths_step o letter c es (List.replicate (p + 1) false ++ post) b p = some ((List.replicate (p + 1) false ++ post).set p v, b') →
      logic_Truths.run ops letter c es (p + 1) (List.replicate (p + 1) false ++ post) b = logic_Truths.run ops letter c es p (List.replicate p false ++ (v :: post)) b' := by
    intro o v ops es p b b' post e1 hv
    rw [logic_Truths.run, e1, hv, Option.bind_some, set_rep]
  have hlook : ∀ (o : Int) (es : List Int) (out : List Bool) (p j : Nat), 14 ≤ o → j + 1 ≤ 60 → truths_step ⟨o, 0⟩ letter c es out ((j + 1 : Nat) : Int) p = some (out.set p (bit c j), (j : Int)) := by
    intro o es out p j ho hj
    unfold truths_step
    simp only
    rw [if_neg (by omega), if_neg (by omega), if_neg (by omega), if_neg (by omega), if_neg (by omega), if_pos (by omega), show ((j + 1 : Nat) : Int) - 1 = (j : Int) by omega]
    rfl
  induction h with
  | prop v h0 h1 =>
    intro ops es p j post hp hl hj
    refine hleaf _ (rdOf false letter v) ops es p j post hp (fun out bit => .inl ?_)
    unfold truths_step
    rw [if_pos rfl, if_pos ⟨h0, show v < (letter.length : Int) by omega⟩]
  | yes o h =>
    intro ops es p j post hp hl hj
    rcases h with rfl | rfl
    · exact hleaf _ true ops es p j post hp (fun out bit => .inl rfl)
    · exact hleaf _ false ops es p j post hp (fun out bit => .inr ⟨rfl, rfl⟩)
  | not a ha ih =>
    intro ops es p j post hp hl hj
    simp only [Tm.size, Tm.tempo, if_true] at hl hj ⊢
    have sa := a.size_pos
    have hq := hp.un
    have e := ih ops es (p + 1) j post (by rw [show ((p + 1 : Nat) : Int) = (p : Int) + 1 by omega]; exact hq) (by omega) (by omega)
    rw [show p + (a.size + 1) = p + 1 + a.size by omega, Nat.zero_add, e]
    refine hop ⟨10, 0⟩ (!(hd (a.tv letter c j))) ops es p _ _ _ hp.rt.1 ?_
    unfold truths_step
    simp only
    rw [if_neg (by decide), if_neg (by decide), if_neg (by decide), if_pos trivial, if_pos (by rw [List.length_append, List.length_append, List.length_replicate, a.tv_len]; omega), rd_mid (pre := List.replicate (p + 1) false) (by simp)]
    have : hd (a.tv letter c j ++ post) = hd (a.tv letter c j) := by
      have hz := a.tv_len letter c j
      cases hx : a.tv letter c j with
      | nil => rw [hx] at hz; simp at hz; omega
      | cons x xs => rfl
    rw [this]
  | look o a h ha ih =>
    intro ops es p j post hp hl hj
    have ho : o ≠ 10 := by omega
    have etv : (Tm.un ⟨o, 0⟩ a).tv letter c j = bit c j :: a.tv letter c (j + 1) := by
      rw [Tm.tv]
      exact if_neg ho
    have etm : (Tm.un ⟨o, 0⟩ a).tempo = 1 + a.tempo := by
      rw [Tm.tempo]
      simp only
      rw [if_neg ho]
    rw [etv, etm]
    rw [etm] at hj
    simp only [Tm.size] at hl ⊢
    have e := ih ops es (p + 1) (j + 1) post (by rw [show ((p + 1 : Nat) : Int) = (p : Int) + 1 by omega]; exact hp.un) (by omega) (by omega)
    rw [show p + (a.size + 1) = p + 1 + a.size by omega, show j + (1 + a.tempo) = j + 1 + a.tempo by omega, e]
    exact hop ⟨o, 0⟩ (bit c j) ops es p _ _ _ hp.rt.1 (hlook o es _ p j (by omega) (by omega))
  | log o a b h ha hb iha ihb =>
    intro ops es p j post hp hl hj
    have etv : (Tm.bin ⟨o, 0⟩ a b).tv letter c j = (if o = 8 then hd (a.tv letter c j) && hd (b.tv letter c (j + a.tempo)) else hd (a.tv letter c j) || hd (b.tv letter c (j + a.tempo))) :: (a.tv letter c j ++ b.tv letter c (j + a.tempo)) := by
      rw [Tm.tv]
      exact if_pos h
    have etm : (Tm.bin ⟨o, 0⟩ a b).tempo = a.tempo + b.tempo := by
      rw [Tm.tempo]
      simp only
      rw [if_pos h, Nat.zero_add]
    rw [etv, etm]
    rw [etm] at hj
    have sa := a.size_pos
    have sb := b.size_pos
    simp only [Tm.size] at hl ⊢
    have la := a.tv_len letter c j
    have lb := b.tv_len letter c (j + a.tempo)
    have eb := ihb ops es (p + 1 + a.size) (j + a.tempo) post (by rw [show ((p + 1 + a.size : Nat) : Int) = (p : Int) + 1 + a.size by omega]; exact hp.right) (by omega) (by omega)
    have ea := iha ops es (p + 1) j (b.tv letter c (j + a.tempo) ++ post) (by rw [show ((p + 1 : Nat) : Int) = (p : Int) + 1 by omega]; exact hp.left) (by rw [List.length_append, lb]; omega) (by omega)
    rw [show p + (a.size + b.size + 1) = p + 1 + a.size + b.size by omega, show j + (a.tempo + b.tempo) = j + a.tempo + b.tempo by omega, eb, ea]
    have hrt := hp.left.rt.2
    have hp0 := hp.left.p0
    have hgd : es.getD (p + 1) 0 = (p : Int) + 1 + a.size := by
      rw [← hrt]
      unfold rd
      rw [show ((p : Int) + 1).toNat = p + 1 by omega]
    have h1 : hd (a.tv letter c j ++ (b.tv letter c (j + a.tempo) ++ post)) = hd (a.tv letter c j) := by
      cases hx : a.tv letter c j with
      | nil => rw [hx] at la; simp at la; omega
      | cons x xs => rfl
    have h2 : hd (b.tv letter c (j + a.tempo) ++ post) = hd (b.tv letter c (j + a.tempo)) := by
      cases hx : b.tv letter c (j + a.tempo) with
      | nil => rw [hx] at lb; simp at lb; omega
      | cons x xs => rfl
    have hlen : (List.replicate (p + 1) false ++ (a.tv letter c j ++ (b.tv letter c (j + a.tempo) ++ post))).length = p + 1 + a.size + b.size + post.length := by
      rw [List.length_append, List.length_append, List.length_append, List.length_replicate, la, lb]; omega
    rw [List.cons_append, List.append_assoc]
    refine hop ⟨o, 0⟩ _ ops es p _ _ _ hp.rt.1 ?_
    unfold truths_step
    simp only
    rw [if_neg (by omega), if_neg (by omega), if_neg (by omega), if_neg (by omega), if_pos h, if_pos ⟨by rw [hlen]; omega, by omega, by rw [hgd]; omega, by rw [hgd, hlen]; omega⟩, hgd, rd_mid (pre := List.replicate (p + 1) false) (by simp), h1, ← List.append_assoc (List.replicate (p + 1) false), rd_mid (pre := List.replicate (p + 1) false ++ a.tv letter c j) (by rw [List.length_append, List.length_replicate, la]; omega), h2]
  | unto o a b h ha hb iha ihb =>
    intro ops es p j post hp hl hj
    have ho : ¬ (o = 8 ∨ o = 9) := by omega
    have etv : (Tm.bin ⟨o, 0⟩ a b).tv letter c j = bit c j :: (a.tv letter c (j + 1) ++ b.tv letter c (j + 1 + a.tempo)) := by
      rw [Tm.tv]
      exact if_neg ho
    have etm : (Tm.bin ⟨o, 0⟩ a b).tempo = 1 + a.tempo + b.tempo := by
      rw [Tm.tempo]
      simp only
      rw [if_neg ho]
    rw [etv, etm]
    rw [etm] at hj
    simp only [Tm.size] at hl ⊢
    have lb := b.tv_len letter c (j + 1 + a.tempo)
    have eb := ihb ops es (p + 1 + a.size) (j + 1 + a.tempo) post (by rw [show ((p + 1 + a.size : Nat) : Int) = (p : Int) + 1 + a.size by omega]; exact hp.right) (by omega) (by omega)
    have ea := iha ops es (p + 1) (j + 1) (b.tv letter c (j + 1 + a.tempo) ++ post) (by rw [show ((p + 1 : Nat) : Int) = (p : Int) + 1 by omega]; exact hp.left) (by rw [List.length_append, lb]; omega) (by omega)
    rw [show p + (a.size + b.size + 1) = p + 1 + a.size + b.size by omega, show j + (1 + a.tempo + b.tempo) = j + 1 + a.tempo + b.tempo by omega, eb, ea, List.cons_append, List.append_assoc]
    exact hop ⟨o, 0⟩ (bit c j) ops es p _ _ _ hp.rt.1 (hlook o es _ p j (by omega) (by omega))
theorem shl_pow (n : Nat) (h : n ≤ 6) : shl .i64 1 (n : Int) = ((2 ^ n : Nat) : Int) := by
  have : n = 0 ∨ n = 1 ∨ n = 2 ∨ n = 3 ∨ n = 4 ∨ n = 5 ∨ n = 6 := by omega
  rcases this with rfl | rfl | rfl | rfl | rfl | rfl | rfl <;> decide
theorem truths_is {letter : List Bool} (c : Int) (hp1 : letter.length ≤ 6) {t : Tm} (h : FormT (letter.length : Int) t) (hs : t.size ≤ 60) (ht : t.tempo ≤ 6) (h0 : 0 ≤ c) (h1 : c < ((2 ^ t.tempo : Nat) : Int)) : Ev (fun k => logic_Truths.f k t.flat letter c) (t.tv letter c 0, 0) := by
  have hl := t.flat_len
  have he := t.ends_len 0
  have hz := t.size_pos
  unfold logic_Truths.f
  refine Ev.bind (ahead_is (by omega) (by omega) h hs ht) ?_
  rw [aheadL_len, h.cnt, shl_pow _ ht]
  refine Ev.congr (fun k => if_pos ⟨rfl, h0, h1⟩) ?_
  refine Ev.bind (ends_ok t h.ok hs) ?_
  simp only [if_pos (show 0 < t.flat.length ∧ 0 < (t.ends 0).length ∧ t.flat.length ≤ 100000 by omega)]
  have hr := run_form c rfl h t.flat (t.ends 0) 0 0 [] (lies_whole t) (by rw [List.length_nil]; omega) (by omega)
  rw [Nat.zero_add, Nat.zero_add, List.append_nil, List.append_nil] at hr
  rw [hl, hr]
  simp only [List.replicate_zero, List.nil_append, logic_Truths.run, Option.bind_some]
  exact Ev.now _
end Go.Proofs.YtbokbbcoekeoaaaDoor.Q
end
section
namespace Go.Proofs.YtbokbbcoekeoaaaDoor.Q
open Go.RowKit Go.Proofs.YtbokbbcoekeoaaaDoorW.PrintWords Go.Proofs.YtbokbbcoekeoaaaDoorW.PrintMore Go.Proofs.YtbokbbcoekeoaaaDoor.P
set_option linter.unusedVariables false
def evl (l : List Op) (env : List Int) : Int × Int := (expr_Eval.run env l.reverse []).getD (0, 0)
theorem run_is {nv : Int} {env : List Int} (hlen : (env.length : Int) = nv) {b : Bool} {t : Tm} (h : Ty nv b t) (hs : t.size ≤ 60) : expr_Eval.run env t.flat.reverse [] = some (res (t.val env)) := by
  have hr := run_tm hlen h [] [] (by rw [List.length_nil]; omega)
  rw [List.append_nil] at hr
  rw [hr]
  cases t.val env with
  | none => rfl
  | some n => rfl
theorem evl_tm {nv : Int} {env : List Int} (hlen : (env.length : Int) = nv) {b : Bool} {t : Tm} (h : Ty nv b t) (hs : t.size ≤ 60) : evl t.flat env = res (t.val env) := by
  unfold evl
  rw [run_is hlen h hs]
  rfl
theorem eval_ok {nv : Int} (h1 : nv ≤ 6) {env : List Int} (hlen : (env.length : Int) = nv) (he : ∀ v ∈ env, -1000000 ≤ v ∧ v ≤ 1000000) {b : Bool} {l : List Op} (h : ExOk nv b l) : Ev (fun k => expr_Eval.f k l env) (evl l env) := by
  obtain ⟨t, rfl, ht, hs⟩ := h
  rw [evl_tm hlen ht hs]
  exact eval_is h1 hlen he ht hs
theorem in_wide {vs : List Vr} (hv : VarsOk vs) {env : List Int} (h : inS vs env) : ∀ v ∈ env, -1000000 ≤ v ∧ v ≤ 1000000 := by
  intro x hx
  obtain ⟨i, hi, rfl⟩ := List.getElem_of_mem hx
  have hl : i < vs.length := by rw [← inR_len h]; exact hi
  have h1 := inR_get h i _ _ (List.getElem?_eq_getElem hl) (List.getElem?_eq_getElem hi)
  have h2 := hv.bd _ (List.getElem_mem hl)
  omega
theorem in_len {vs : List Vr} {env : List Int} (h : inS vs env) : (env.length : Int) = (vs.length : Int) := by rw [inR_len h]
theorem eval_in {vs : List Vr} (hv : VarsOk vs) {env : List Int} (h : inS vs env) {b : Bool} {l : List Op} (hl : ExOk vs.length b l) : Ev (fun k => expr_Eval.f k l env) (evl l env) :=
  eval_ok (by have := hv.len; omega) (in_len h) (in_wide hv h) hl
def tr (env : List Int) (p : List Op) : Bool := (evl p env).2 == 0 && (evl p env).1 == 1
def PropsOk (nv : Int) (ps : List (List Op)) : Prop := ps.length ≤ 6 ∧ ∀ p ∈ ps, ExOk nv true p
theorem rdL4 {l : List (List Op)} {i : Nat} (h : i < l.length) : rd_L4 l (i : Int) = l[i] := by simp [rd_L4, h]
theorem props_loop {vs : List Vr} {rs : List Rl} (h : ModelOk vs rs) {ps : List (List Op)} (hp : PropsOk vs.length ps) : ∀ (d i : Nat), i + d = ps.length → Ev (fun k => model_Props.l0 k ps (ps.length : Int) (i : Int) vs rs) 0 := by
  obtain ⟨n0, n1⟩ := nv_rng h
  obtain ⟨hl, hp⟩ := hp
  intro d
  induction d with
  | zero =>
    intro i hi
    refine Ev.step (f := fun _ => some 0) (fun k => ?_) (Ev.now _)
    rw [model_Props.l0, if_neg (by omega)]
  | succ d ih =>
    intro i hi
    have hil : i < ps.length := by omega
    refine Ev.step (f := fun k => (model_kind.f k ps[i] (vs.length : Int) true).bind fun t => if t = 0 then model_Props.l0 k ps (ps.length : Int) ((i + 1 : Nat) : Int) vs rs else some t) (fun k => ?_) (Ev.bind (kind_good n0 n1 (hp _ (List.getElem_mem hil))) ?_)
    · rw [model_Props.l0, if_pos (by omega), if_pos (by omega), if_pos (by omega), rdL4 hil, w64 (n := (i : Int) + 1) (by omega) (by omega)]
      rfl
    · simp only [if_true]
      exact ih (i + 1) (by omega)
theorem props_good {vs : List Vr} {rs : List Rl} (h : ModelOk vs rs) {ps : List (List Op)} (hp : PropsOk vs.length ps) : Ev (fun k => model_Props.f k vs rs ps) 0 := by
  have := hp.1
  refine Ev.bind (model_good h) ?_
  simp only [if_true, if_neg (show ¬ (6 < (ps.length : Int)) by omega)]
  exact props_loop h hp ps.length 0 (Nat.zero_add _)
theorem letter_loop {vs : List Vr} (hv : VarsOk vs) {env : List Int} (he : inS vs env) {ps : List (List Op)} (hp : PropsOk vs.length ps) : ∀ (d i : Nat), i + d = ps.length → Ev (fun k => step_Letter.l0 k env ((ps.take i).map (tr env) ++ List.replicate d false) ps (ps.length : Int) (i : Int)) (ps.map (tr env), 0) := by
  obtain ⟨hl, hp⟩ := hp
  intro d
  induction d with
  | zero =>
    intro i hi
    refine Ev.step (f := fun _ => some (ps.map (tr env), 0)) (fun k => ?_) (Ev.now _)
    rw [step_Letter.l0, if_neg (by omega), List.take_of_length_le (by omega)]
    simp
  | succ d ih =>
    intro i hi
    have hil : i < ps.length := by omega
    have hset : ∀ b : Bool, ((ps.take i).map (tr env) ++ List.replicate (d + 1) false).set i b = (ps.take i).map (tr env) ++ (b :: List.replicate d false) := by
      intro b
      have hli : ((ps.take i).map (tr env)).length = i := by simp; omega
      rw [List.set_append_right _ _ (by omega), hli, Nat.sub_self]
      rfl
    have hnext : (ps.take (i + 1)).map (tr env) ++ List.replicate d false = (ps.take i).map (tr env) ++ (tr env ps[i] :: List.replicate d false) := by
      rw [List.take_add_one, List.getElem?_eq_getElem hil, List.map_append, List.append_assoc]
      rfl
    refine Ev.step (f := fun k => (expr_Eval.f k ps[i] env).bind fun b => if b.2 = 0 then step_Letter.l0 k env ((ps.take i).map (tr env) ++ ((b.1 == 1) :: List.replicate d false)) ps (ps.length : Int) ((i + 1 : Nat) : Int) else step_Letter.l0 k env ((ps.take i).map (tr env) ++ (false :: List.replicate d false)) ps (ps.length : Int) ((i + 1 : Nat) : Int)) (fun k => ?_) (Ev.bind (eval_in hv he (hp _ (List.getElem_mem hil))) ?_)
    · rw [step_Letter.l0, if_pos (by omega), if_pos (by omega), if_pos (by omega), rdL4 hil, w64 (n := (i : Int) + 1) (by omega) (by omega)]
      have hlt : (i : Int) < (((ps.take i).map (tr env) ++ List.replicate (d + 1) false).length : Int) := by simp; omega
      simp only [if_pos hlt, Int.toNat_natCast, hset]
      rfl
    · have := ih (i + 1) (by omega)
      rw [hnext] at this
      by_cases c : (evl ps[i] env).2 = 0
      · simp only [if_pos c]
        have e : tr env ps[i] = ((evl ps[i] env).1 == 1) := by unfold tr; rw [c]; rfl
        rw [e] at this
        exact this
      · simp only [if_neg c]
        have e : tr env ps[i] = false := by unfold tr; rw [beq_eq_false_iff_ne.mpr c, Bool.false_and]
        rw [e] at this
        exact this
theorem letter_is {vs : List Vr} {rs : List Rl} (h : ModelOk vs rs) {ps : List (List Op)} (hp : PropsOk vs.length ps) {c : Int} (h0 : 0 ≤ c) (h1 : c < cnt vs) : Ev (fun k => step_Letter.f k vs rs ps c) (ps.map (tr (valS vs c)), 0) := by
  have hl := hp.1
  refine Ev.bind (props_good h hp) ?_
  simp only [if_true]
  refine Ev.bind (values_is h h0 h1) ?_
  simp only [if_true, if_pos (show (0 : Int) ≤ (ps.length : Int) by omega), Int.toNat_natCast, if_pos (show ps.length ≤ 281474976710656 by omega)]
  exact letter_loop h.v (valS_in c h.v.le) hp ps.length 0 (Nat.zero_add _)
end Go.Proofs.YtbokbbcoekeoaaaDoor.Q
end
section
namespace Go.Proofs.YtbokbbcoekeoaaaDoor.Q
open Go.RowKit Go.Proofs.YtbokbbcoekeoaaaDoorW.PrintWords Go.Proofs.YtbokbbcoekeoaaaDoorW.PrintMore Go.Proofs.YtbokbbcoekeoaaaDoor.P
set_option linter.unusedVariables false
def tx : Tm := .leaf ⟨2, 0⟩
def ty : Tm := .leaf ⟨2, 1⟩
def t1 : Tm := .leaf ⟨1, 1⟩
def ownTms : List Tm := [.bin ⟨7, 0⟩ tx t1, .bin ⟨7, 0⟩ tx ty, .bin ⟨6, 0⟩ tx ty]
def ownProps : List (List Op) := ownTms.map Tm.flat
theorem props_is : Ev (fun k => foretellkeep_props.f k) ownProps := by
  unfold foretellkeep_props.f
  refine Ev.bind (joined2 7 tx t1 (by decide)) (Ev.bind (joined2 7 tx ty (by decide)) (Ev.bind (joined2 6 tx ty (by decide)) ?_))
  exact Ev.now _
theorem tx_ty : Ty 2 false tx := .var 0 (by decide) (by decide)
theorem ty_ty : Ty 2 false ty := .var 1 (by decide) (by decide)
theorem t1_ty : Ty 2 false t1 := .num 1 (by decide) (by decide)
theorem own_ty : ∀ t ∈ ownTms, Ty 2 true t ∧ t.size ≤ 60 := by
  intro t ht
  simp only [ownTms, List.mem_cons, List.not_mem_nil, or_false] at ht
  rcases ht with rfl | rfl | rfl
  · exact ⟨.cmp 7 _ _ (.inr rfl) tx_ty t1_ty, by decide⟩
  · exact ⟨.cmp 7 _ _ (.inr rfl) tx_ty ty_ty, by decide⟩
  · exact ⟨.cmp 6 _ _ (.inl rfl) tx_ty ty_ty, by decide⟩
theorem ownProps_ok : PropsOk ((2 : Nat) : Int) ownProps := by
  refine ⟨by decide, fun p hp => ?_⟩
  obtain ⟨t, ht, rfl⟩ := List.mem_map.mp hp
  exact ⟨t, rfl, (own_ty t ht).1, (own_ty t ht).2⟩
end Go.Proofs.YtbokbbcoekeoaaaDoor.Q
end
