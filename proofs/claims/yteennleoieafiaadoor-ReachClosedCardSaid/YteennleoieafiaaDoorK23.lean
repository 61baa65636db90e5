-- PACKED by pack.py of this repo: QStep QNext QReach
import Derived.Test.YteennleoieafiaaDoorK15
import Derived.Test.YteennleoieafiaaDoorK21
import Derived.Test.YteennleoieafiaaDoorK22
import Derived.Test.YteennleoieafiaaDoorK4
import Derived.Test.YteennleoieafiaaDoorK18
import Derived.Test.YteennleoieafiaaDoorK19
section
namespace Go.Proofs.YteennleoieafiaaDoor.Q
open Go.RowKit Go.Proofs.YteennleoieafiaaDoorW.PrintWords Go.Proofs.YteennleoieafiaaDoorW.PrintMore Go.Proofs.YteennleoieafiaaDoor.P
set_option linter.unusedVariables false
def evl (l : List Op) (env : List Int) : Int × Int := (expr_Eval.run env l.reverse []).getD (0, 0)
theorem run_is {nv : Int} {env : List Int} (hlen : (env.length : Int) = nv) {b : Bool} {t : Tm} (h : Ty nv b t) (hs : t.size ≤ 60) : expr_Eval.run env t.flat.reverse [] = some (res (t.val env)) := by
  have hr := run_tm hlen h [] [] (by rw [List.length_nil]; omega)
  rw [List.append_nil] at hr
  rw [hr]
  cases t.val env with
  | none => rfl
  | some n => rfl
theorem evl_tm {nv : Int} {env : List Int} (hlen : (env.length : Int) = nv) {b : Bool} {t : Tm} (h : Ty nv b t) (hs : t.size ≤ 60) : evl t.flat env = res (t.val env) := by
  unfold evl
  rw [run_is hlen h hs]
  rfl
theorem eval_ok {nv : Int} (h1 : nv ≤ 6) {env : List Int} (hlen : (env.length : Int) = nv) (he : ∀ v ∈ env, -1000000 ≤ v ∧ v ≤ 1000000) {b : Bool} {l : List Op} (h : ExOk nv b l) : Ev (fun k => expr_Eval.f k l env) (evl l env) := by
  obtain ⟨t, rfl, ht, hs⟩ := h
  rw [evl_tm hlen ht hs]
  exact eval_is h1 hlen he ht hs
theorem in_wide {vs : List Vr} (hv : VarsOk vs) {env : List Int} (h : inS vs env) : ∀ v ∈ env, -1000000 ≤ v ∧ v ≤ 1000000 := by
  intro x hx
  obtain ⟨i, hi, rfl⟩ := List.getElem_of_mem hx
  have hl : i < vs.length := by rw [← inR_len h]; exact hi
  have h1 := inR_get h i _ _ (List.getElem?_eq_getElem hl) (List.getElem?_eq_getElem hi)
  have h2 := hv.bd _ (List.getElem_mem hl)
  omega
theorem in_len {vs : List Vr} {env : List Int} (h : inS vs env) : (env.length : Int) = (vs.length : Int) := by rw [inR_len h]
theorem eval_in {vs : List Vr} (hv : VarsOk vs) {env : List Int} (h : inS vs env) {b : Bool} {l : List Op} (hl : ExOk vs.length b l) : Ev (fun k => expr_Eval.f k l env) (evl l env) :=
  eval_ok (by have := hv.len; omega) (in_len h) (in_wide hv h) hl
end Go.Proofs.YteennleoieafiaaDoor.Q
end
section
namespace Go.Proofs.YteennleoieafiaaDoor.Q
open Go.RowKit Go.Proofs.YteennleoieafiaaDoorW.PrintWords Go.Proofs.YteennleoieafiaaDoorW.PrintMore Go.Proofs.YteennleoieafiaaDoor.P
set_option linter.unusedVariables false
def varAt (vs : List Vr) (i : Int) : Vr := rd_T32 vs i
def setS (vs : List Vr) (env : List Int) : List St → List Int → Option (List Int)
  | [], out => some out
  | s :: ss, out => if (evl s.f1 env).2 = 0 then (if (evl s.f1 env).1 < (varAt vs s.f0).f1 then none else if (evl s.f1 env).1 > (varAt vs s.f0).f2 then none else setS vs env ss (out.set s.f0.toNat (evl s.f1 env).1)) else none
def aftS (vs : List Vr) (env : List Int) (r : Rl) : Option (List Int) := if (evl r.f0 env).2 = 0 then (if (evl r.f0 env).1 = 0 then none else setS vs env r.f1 env) else none
def ans (o : Option (List Int)) : List Int × Bool := o.elim ([], false) (fun x => (x, true))
theorem varAt_get {vs : List Vr} {i : Int} (h0 : 0 ≤ i) (h1 : i < (vs.length : Int)) : vs[i.toNat]? = some (varAt vs i) := by
  have hi : i.toNat < vs.length := by omega
  have := rdV hi
  rw [Int.toNat_of_nonneg h0] at this
  rw [List.getElem?_eq_getElem hi, varAt, this]
theorem setS_in {vs : List Vr} {env : List Int} : ∀ {l : List St} {out o : List Int}, (∀ s ∈ l, 0 ≤ s.f0 ∧ s.f0 < (vs.length : Int)) → inS vs out → setS vs env l out = some o → inS vs o
  | [], out, o, _, hin, h => by obtain rfl := Option.some.inj h; exact hin
  | s :: l, out, o, hv, hin, h => by
    unfold setS at h
    have hs := hv s List.mem_cons_self
    split at h
    · split at h
      · cases h
      · split at h
        · cases h
        · exact setS_in (fun u hu => hv u (List.mem_cons_of_mem _ hu)) (inR_set hin (varAt_get hs.1 hs.2) (by omega) (by omega)) h
    · cases h
theorem aftS_in {vs : List Vr} {env o : List Int} {r : Rl} (hr : RuleOk vs.length r) (hin : inS vs env) (h : aftS vs env r = some o) : inS vs o := by
  unfold aftS at h
  split at h
  · split at h
    · cases h
    · exact setS_in hr.vr hin h
  · cases h
section
variable {vs : List Vr} {rs : List Rl}
theorem sets_loop (hv : VarsOk vs) {env : List Int} (he : inS vs env) (l : List St) (hll : l.length ≤ 100) (hvr : ∀ s ∈ l, 0 ≤ s.f0 ∧ s.f0 < (vs.length : Int)) (hvl : ∀ s ∈ l, ExOk vs.length false s.f1) :
    ∀ (d i : Nat) (out : List Int), i + d = l.length → out.length = vs.length → Ev (fun k => step_after.l0 k env out l (l.length : Int) (i : Int) vs rs) (ans (setS vs env (l.drop i) out)) := by
  intro d
  induction d with
  | zero =>
    intro i out hi ho
    refine Ev.step (f := fun _ => some (out, true)) (fun k => ?_) ?_
    · rw [step_after.l0, if_neg (by omega)]
    · rw [List.drop_of_length_le (by omega)]
      exact Ev.now _
  | succ d ih =>
    intro i out hi ho
    have hil : i < l.length := by omega
    have h1 := hvr _ (List.getElem_mem hil)
    have hd : l.drop i = l[i] :: l.drop (i + 1) := List.drop_eq_getElem_cons hil
    rw [hd]
    refine Ev.step (f := fun k => (expr_Eval.f k l[i].f1 env).bind fun b => if b.2 = 0 then (if b.1 < (varAt vs l[i].f0).f1 then some ([], false) else if b.1 > (varAt vs l[i].f0).f2 then some ([], false) else step_after.l0 k env (out.set l[i].f0.toNat b.1) l (l.length : Int) ((i + 1 : Nat) : Int) vs rs) else some ([], false)) (fun k => ?_) (Ev.bind (eval_in hv he (hvl _ (List.getElem_mem hil))) ?_)
    · rw [step_after.l0, if_pos (by omega), if_pos (by omega), if_pos (by omega), rdS hil, w64 (n := (i : Int) + 1) (by omega) (by omega)]
      simp only [if_pos h1.1, if_pos h1.2, if_pos (show l[i].f0 < (out.length : Int) by omega)]
      rfl
    · unfold setS
      by_cases c1 : (evl l[i].f1 env).2 = 0
      · simp only [if_pos c1]
        by_cases c2 : (evl l[i].f1 env).1 < (varAt vs l[i].f0).f1
        · simp only [if_pos c2]
          exact Ev.now _
        · simp only [if_neg c2]
          by_cases c3 : (evl l[i].f1 env).1 > (varAt vs l[i].f0).f2
          · simp only [if_pos c3]
            exact Ev.now _
          · simp only [if_neg c3]
            exact ih (i + 1) _ (by omega) (by simpa using ho)
      · simp only [if_neg c1]
        exact Ev.now _
theorem after_is (hv : VarsOk vs) {env : List Int} (he : inS vs env) {r : Rl} (hr : RuleOk vs.length r) : Ev (fun k => step_after.f k vs rs r.f0 r.f1 env) (ans (aftS vs env r)) := by
  have hl := hr.len
  have hel := inR_len he
  have hvl := hv.len
  unfold aftS
  refine Ev.bind (eval_in hv he hr.g) ?_
  by_cases c1 : (evl r.f0 env).2 = 0
  · simp only [if_pos c1]
    by_cases c2 : (evl r.f0 env).1 = 0
    · simp only [c2, if_true]
      refine Ev.step (f := fun _ => some ([], false)) (fun k => ?_) (Ev.now _)
      rw [step_after.j0, if_pos (by decide)]
    · simp only [if_neg c2, beq_eq_false_iff_ne.mpr c2]
      refine Ev.step (f := fun k => step_after.l0 k env env r.f1 (r.f1.length : Int) ((0 : Nat) : Int) vs rs) (fun k => ?_) ?_
      · rw [step_after.j0, if_neg (by decide)]
        unfold slices_Clone_int_int.f
        rw [if_pos (by omega)]
        rfl
      · exact sets_loop hv he r.f1 (by omega) hr.vr hr.vl r.f1.length 0 env (Nat.zero_add _) hel
  · simp only [if_neg c1]
    refine Ev.step (f := fun _ => some ([], false)) (fun k => ?_) (Ev.now _)
    rw [step_after.j0, if_pos rfl]
def cods (vs : List Vr) (env : List Int) (rs : List Rl) : List Int := rs.filterMap fun r => (aftS vs env r).map (codeS vs)
theorem cods_none {env : List Int} {r : Rl} {l : List Rl} (h : aftS vs env r = none) : cods vs env (r :: l) = cods vs env l := by
  unfold cods
  rw [List.filterMap_cons, h]
  rfl
theorem cods_some {env o : List Int} {r : Rl} {l : List Rl} (h : aftS vs env r = some o) : cods vs env (r :: l) = codeS vs o :: cods vs env l := by
  unfold cods
  rw [List.filterMap_cons, h]
  rfl
theorem cods_len (env : List Int) : (cods vs env rs).length ≤ rs.length := List.length_filterMap_le ..
theorem next_loop (h : ModelOk vs rs) {env : List Int} (he : inS vs env) (l : List Rl) (hll : l.length ≤ 1000) (hl : ∀ r ∈ l, RuleOk vs.length r) : ∀ (d i : Nat) (acc : List Int), i + d = l.length → acc.length ≤ i → Ev (fun k => step_next.l0 k env acc l (l.length : Int) (i : Int) vs rs) (uniq (acc ++ cods vs env (l.drop i))) := by
  intro d
  induction d with
  | zero =>
    intro i acc hi ha
    refine Ev.step (f := fun _ => some (uniq acc)) (fun k => ?_) ?_
    · rw [step_next.l0, if_neg (by omega), if_pos (by omega)]
    · rw [List.drop_of_length_le (by omega)]
      exact ev_some (by simp [cods])
  | succ d ih =>
    intro i acc hi ha
    have hil : i < l.length := by omega
    have hd : l.drop i = l[i] :: l.drop (i + 1) := List.drop_eq_getElem_cons hil
    have hri := hl _ (List.getElem_mem hil)
    refine Ev.step (f := fun k => (step_after.f k vs rs l[i].f0 l[i].f1 env).bind fun b => if b.2 = true then ((model_Code.f k vs rs b.1).bind fun c => if acc.length < 17592186044416 then step_next.l0 k env (acc ++ [c.1]) l (l.length : Int) ((i + 1 : Nat) : Int) vs rs else none) else step_next.l0 k env acc l (l.length : Int) ((i + 1 : Nat) : Int) vs rs) (fun k => ?_) (Ev.bind (after_is h.v he hri) ?_)
    · rw [step_next.l0, if_pos (by omega), if_pos (by omega), if_pos (by omega), rdR hil, w64 (n := (i : Int) + 1) (by omega) (by omega)]
      rfl
    · rw [hd]
      cases ho : aftS vs env l[i] with
      | none =>
        rw [cods_none ho]
        simp only [ans, Option.elim_none, Bool.false_eq_true, if_false]
        exact ih (i + 1) acc (by omega) (by omega)
      | some o =>
        rw [cods_some ho, show acc ++ codeS vs o :: cods vs env (l.drop (i + 1)) = (acc ++ [codeS vs o]) ++ cods vs env (l.drop (i + 1)) by simp]
        simp only [ans, Option.elim_some, if_true]
        refine Ev.bind (code_is h (aftS_in hri he ho)) ?_
        simp only [if_pos (show acc.length < 17592186044416 by omega)]
        exact ih (i + 1) _ (by omega) (by rw [List.length_append, List.length_singleton]; omega)
theorem next_is (h : ModelOk vs rs) {env : List Int} (he : inS vs env) : Ev (fun k => step_next.f k vs rs env) (uniq (cods vs env rs)) := by
  have hl := h.len
  have := next_loop h he rs (by omega) h.r rs.length 0 [] (Nat.zero_add _) (Nat.le_refl _)
  exact this
def nextS (vs : List Vr) (rs : List Rl) (c : Int) : List Int := if cods vs (valS vs c) rs = [] then [c] else uniq (cods vs (valS vs c) rs)
theorem Next_is (h : ModelOk vs rs) {c : Int} (h0 : 0 ≤ c) (h1 : c < cnt vs) : Ev (fun k => step_Next.f k vs rs c) (nextS vs rs c, 0) := by
  have hin := valS_in (l := vs) c h.v.le
  refine Ev.bind (values_is h h0 h1) ?_
  simp only [if_true]
  refine Ev.bind (next_is h hin) ?_
  unfold nextS
  by_cases e : cods vs (valS vs c) rs = []
  · rw [if_pos e, e, uniq_nil]
    exact Ev.now _
  · rw [if_neg e]
    have hne : uniq (cods vs (valS vs c) rs) ≠ [] := fun hh => e (uniq_empty.mp hh)
    have hl : (uniq (cods vs (valS vs c) rs)).length ≠ 0 := fun hh => hne (List.eq_nil_of_length_eq_zero hh)
    simp only [if_neg (show ¬ ((uniq (cods vs (valS vs c) rs)).length : Int) = 0 by omega)]
    exact Ev.now _
theorem cods_rng (h : ModelOk vs rs) {env : List Int} (he : inS vs env) {x : Int} (hx : x ∈ cods vs env rs) : 0 ≤ x ∧ x < cnt vs := by
  obtain ⟨r, hr, hm⟩ := List.mem_filterMap.mp hx
  obtain ⟨o, ho, rfl⟩ := Option.map_eq_some_iff.mp hm
  exact codeS_rng h.v.le (aftS_in (h.r r hr) he ho)
theorem nextS_mem {c x : Int} : x ∈ nextS vs rs c ↔ (x ∈ cods vs (valS vs c) rs ∨ cods vs (valS vs c) rs = [] ∧ x = c) := by
  unfold nextS
  by_cases e : cods vs (valS vs c) rs = []
  · rw [if_pos e, e]; simp
  · rw [if_neg e, uniq_mem]; simp [e]
theorem nextS_rng (h : ModelOk vs rs) {c : Int} (h0 : 0 ≤ c) (h1 : c < cnt vs) {x : Int} (hx : x ∈ nextS vs rs c) : 0 ≤ x ∧ x < cnt vs := by
  rcases nextS_mem.mp hx with hx | ⟨_, rfl⟩
  · exact cods_rng h (valS_in c h.v.le) hx
  · exact ⟨h0, h1⟩
theorem nextS_len (c : Int) : (nextS vs rs c).length ≤ max rs.length 1 := by
  unfold nextS
  split
  · simp; omega
  · have a := uniq_len (cods vs (valS vs c) rs)
    have b := cods_len (vs := vs) (rs := rs) (valS vs c)
    omega
end
end Go.Proofs.YteennleoieafiaaDoor.Q
end
section
namespace Go.Proofs.YteennleoieafiaaDoor.Q
open Go.RowKit Go.Proofs.YteennleoieafiaaDoorW.PrintWords Go.Proofs.YteennleoieafiaaDoorW.PrintMore Go.Proofs.YteennleoieafiaaDoor.P
set_option linter.unusedVariables false
theorem rise_few : ∀ {l : List Int} {a n : Int}, l.Pairwise (· < ·) → (∀ x ∈ l, a ≤ x ∧ x < n) → a ≤ n → (l.length : Int) ≤ n - a
  | [], a, n, _, _, h => by simp; omega
  | x :: l, a, n, hp, hr, h => by
    obtain ⟨h1, h2⟩ := List.pairwise_cons.mp hp
    have hx := hr x List.mem_cons_self
    have := rise_few (a := x + 1) (n := n) h2 (fun y hy => ⟨by have := h1 y hy; omega, (hr y (List.mem_cons_of_mem _ hy)).2⟩) (by omega)
    rw [List.length_cons]
    omega
theorem nodup_rise {l : List Int} (h : l.Nodup) : (srt l).Pairwise (· < ·) := by
  have hn : (srt l).Nodup := (List.mergeSort_perm l _).nodup_iff.mpr h
  have hs := List.pairwise_iff_getElem.mp (srt_sorted l)
  have hn2 := List.pairwise_iff_getElem.mp hn
  refine List.pairwise_iff_getElem.mpr fun i j hi hj hij => ?_
  have a := hs i j hi hj hij
  have b : (srt l)[i] ≠ (srt l)[j] := hn2 i j hi hj hij
  omega
theorem nodup_few {l : List Int} {n : Int} (h : l.Nodup) (hr : ∀ x ∈ l, 0 ≤ x ∧ x < n) (hn : 0 ≤ n) : (l.length : Int) ≤ n := by
  have := rise_few (a := 0) (n := n) (nodup_rise h) (fun x hx => hr x ((srt_mem l x).mp hx)) hn
  rw [srt_len] at this
  omega
theorem add_mem : ∀ {ns l : List Int} {x : Int}, x ∈ step_Reach.add l ns ↔ x ∈ l ∨ x ∈ ns
  | [], l, x => by simp [step_Reach.add]
  | n :: ns, l, x => by
    rw [step_Reach.add_cons]
    split
    · rename_i hn
      rw [add_mem, List.mem_cons]
      constructor
      · rintro (h | h)
        · exact .inl h
        · exact .inr (.inr h)
      · rintro (h | rfl | h)
        · exact .inl h
        · exact .inl hn
        · exact .inr h
    · rw [add_mem, List.mem_append, List.mem_singleton, List.mem_cons, or_assoc]
theorem add_nodup : ∀ {ns l : List Int}, l.Nodup → (step_Reach.add l ns).Nodup
  | [], l, h => h
  | n :: ns, l, h => by
    rw [step_Reach.add_cons]
    split
    · exact add_nodup h
    · rename_i hn
      refine add_nodup (List.nodup_append.mpr ⟨h, by simp, fun a ha b hb => ?_⟩)
      obtain rfl := List.mem_singleton.mp hb
      rintro rfl
      exact hn ha
theorem add_pre : ∀ {ns l : List Int}, ∃ m, step_Reach.add l ns = l ++ m
  | [], l => ⟨[], by simp [step_Reach.add]⟩
  | n :: ns, l => by
    rw [step_Reach.add_cons]
    split
    · exact add_pre
    · obtain ⟨m, hm⟩ := add_pre (ns := ns) (l := l ++ [n])
      exact ⟨n :: m, by rw [hm]; simp⟩
inductive Gone (vs : List Vr) (rs : List Rl) : Int → Prop
  | first : Gone vs rs (frst vs)
  | step {x y : Int} : Gone vs rs x → y ∈ nextS vs rs x → Gone vs rs y
structure Whole (vs : List Vr) (rs : List Rl) (l : List Int) : Prop where
  rise : l.Pairwise (· < ·)
  first : frst vs ∈ l
  rng : ∀ x ∈ l, 0 ≤ x ∧ x < cnt vs
  on : ∀ x ∈ l, ∀ y ∈ nextS vs rs x, y ∈ l
  behind : ∀ y ∈ l, y = frst vs ∨ ∃ x ∈ l, y ∈ nextS vs rs x
  gone : ∀ x ∈ l, Gone vs rs x
section
variable {vs : List Vr} {rs : List Rl}
structure Srch (vs : List Vr) (rs : List Rl) (i : Nat) (l : List Int) : Prop where
  nd : l.Nodup
  first : frst vs ∈ l
  rng : ∀ x ∈ l, 0 ≤ x ∧ x < cnt vs
  on : ∀ (j : Nat) (hj : j < l.length), j < i → ∀ y ∈ nextS vs rs l[j], y ∈ l
  behind : ∀ y ∈ l, y = frst vs ∨ ∃ x ∈ l, y ∈ nextS vs rs x
  gone : ∀ x ∈ l, Gone vs rs x
theorem Srch.len (hv : VarsOk vs) {i : Nat} {l : List Int} (h : Srch vs rs i l) : (l.length : Int) ≤ cnt vs := nodup_few h.nd h.rng (Int.le_of_lt (cnt_pos hv.le))
theorem Srch.next (h : ModelOk vs rs) {i : Nat} {l : List Int} (hs : Srch vs rs i l) (hi : i < l.length) : Srch vs rs (i + 1) (step_Reach.add l (nextS vs rs l[i])) := by
  have hli := hs.rng _ (List.getElem_mem hi)
  obtain ⟨m, hm⟩ := add_pre (ns := nextS vs rs l[i]) (l := l)
  refine ⟨add_nodup hs.nd, add_mem.mpr (.inl hs.first), fun x hx => ?_, fun j hj hji y hy => ?_, fun y hy => ?_, fun x hx => ?_⟩
  · rcases add_mem.mp hx with hx | hx
    · exact hs.rng x hx
    · exact nextS_rng h hli.1 hli.2 hx
  · have hjl : j < l.length := by omega
    have e : (step_Reach.add l (nextS vs rs l[i]))[j] = l[j] := by simp only [hm]; exact List.getElem_append_left hjl
    rw [e] at hy
    by_cases c : j = i
    · subst c; exact add_mem.mpr (.inr hy)
    · exact add_mem.mpr (.inl (hs.on j hjl (by omega) y hy))
  · rcases add_mem.mp hy with hy | hy
    · rcases hs.behind y hy with e | ⟨x, hx, hxy⟩
      · exact .inl e
      · exact .inr ⟨x, add_mem.mpr (.inl hx), hxy⟩
    · exact .inr ⟨l[i], add_mem.mpr (.inl (List.getElem_mem hi)), hy⟩
  · rcases add_mem.mp hx with hx | hx
    · exact hs.gone x hx
    · exact .step (hs.gone _ (List.getElem_mem hi)) hx
theorem small_of {l : List Int} (h : ∀ x ∈ l, 0 ≤ x ∧ x ≤ 1000000) : step_Reach.small l = true :=
  List.all_eq_true.mpr fun x hx => decide_eq_true (h x hx)
theorem reach_loop (h : ModelOk vs rs) : ∀ (d i : Nat) (l : List Int), (i : Int) + d = cnt vs → i ≤ l.length → Srch vs rs i l → ∃ L, Ev (fun k => step_Reach.go vs rs k (i : Int) l) L ∧ Srch vs rs L.length L := by
  have hst := h.v.st
  have hl12 := h.len
  have hend : ∀ (l : List Int), Srch vs rs l.length l → Ev (fun k => step_Reach.go vs rs k (l.length : Int) l) l := by
    intro l hs
    have := hs.len h.v
    refine Ev.step (f := fun _ => some l) (fun k => ?_) (Ev.now _)
    rw [step_Reach.go, if_neg (by omega), if_pos (by omega)]
  intro d
  induction d with
  | zero =>
    intro i l hi hil hs
    have := hs.len h.v
    obtain rfl : i = l.length := by omega
    exact ⟨l, hend l hs, hs⟩
  | succ d ih =>
    intro i l hi hil hs
    have hlen := hs.len h.v
    by_cases c : i = l.length
    · subst c
      exact ⟨l, hend l hs, hs⟩
    · have hlt : i < l.length := by omega
      have hli := hs.rng _ (List.getElem_mem hlt)
      have hn := Next_is h hli.1 hli.2
      have hnl := nextS_len (vs := vs) (rs := rs) l[i]
      have hs2 := hs.next h hlt
      obtain ⟨L, hL, hLs⟩ := ih (i + 1) _ (by omega) (by have := step_Reach.add_len (nextS vs rs l[i]) l; omega) hs2
      refine ⟨L, Ev.step (f := fun k => (step_Next.f k vs rs l[i]).bind fun r => if step_Reach.small r.1 = true ∧ r.1.length ≤ 1000000 then step_Reach.go vs rs k ((i + 1 : Nat) : Int) (step_Reach.add l r.1) else none) (fun k => ?_) (Ev.bind hn ?_), hLs⟩
      · rw [step_Reach.go, if_pos (by omega), if_pos (by omega), rd_eq hlt]
        rfl
      · simp only [if_pos (show step_Reach.small (nextS vs rs l[i]) = true ∧ (nextS vs rs l[i]).length ≤ 1000000 from ⟨small_of fun x hx => by have := nextS_rng h hli.1 hli.2 hx; omega, by omega⟩)]
        exact hL
theorem reach_is (h : ModelOk vs rs) : ∃ L, Ev (fun k => step_Reach.f k vs rs) (L, 0) ∧ Whole vs rs L := by
  have hf := frst_rng h.v
  have hst := h.v.st
  have hs0 : Srch vs rs 0 [frst vs] := ⟨by simp, by simp, fun x hx => by obtain rfl := List.mem_singleton.mp hx; exact hf, fun j _ hj => absurd hj (by omega), fun y hy => .inl (List.mem_singleton.mp hy), fun x hx => by obtain rfl := List.mem_singleton.mp hx; exact .first⟩
  obtain ⟨L, hL, hs⟩ := reach_loop h (cnt vs).toNat 0 [frst vs] (by omega) (Nat.zero_le _) hs0
  refine ⟨srt L, ?_, ⟨nodup_rise hs.nd, (srt_mem _ _).mpr hs.first, fun x hx => hs.rng x ((srt_mem _ _).mp hx), fun x hx y hy => ?_, fun y hy => ?_, fun x hx => hs.gone x ((srt_mem _ _).mp hx)⟩⟩
  · refine Ev.bind (first_is h) ?_
    simp only [if_true, if_pos (show 0 ≤ frst vs ∧ frst vs ≤ 1000000 by omega)]
    exact Ev.bind hL (Ev.now _)
  · obtain ⟨j, hj, rfl⟩ := List.getElem_of_mem ((srt_mem _ _).mp hx)
    exact (srt_mem _ _).mpr (hs.on j hj hj y hy)
  · rcases hs.behind y ((srt_mem _ _).mp hy) with e | ⟨x, hx, hxy⟩
    · exact .inl e
    · exact .inr ⟨x, (srt_mem _ _).mpr hx, hxy⟩
end
end Go.Proofs.YteennleoieafiaaDoor.Q
end
