/- What Eval makes of a term that is typed throughout. -/
import Derived.Test.YtlejdidngmjicaaDoorQType
import Derived.Test.YtlejdidngmjicaaDoorFExprEval
import Derived.Test.YtlejdidngmjicaaDoorFForetellkeepEnv
namespace Go.Proofs.YtlejdidngmjicaaDoor.Q
open Go.RowKit Go.Proofs.YtlejdidngmjicaaDoorW.PrintWords Go.Proofs.YtlejdidngmjicaaDoorW.PrintMore Go.Proofs.YtlejdidngmjicaaDoor.P
set_option linter.unusedVariables false
def lim (n : Int) : Option Int := if mach_over n then none else some n
/-- A term's value; none: some number is too great. -/
def Tm.val (env : List Int) : Tm → Option Int
  | .leaf o => lim (if o.f0 = 1 then o.f1 else if o.f0 = 2 then rd env o.f1 else if o.f0 = 11 then 1 else 0)
  | .un _ a => (a.val env).bind fun y => lim (wrap64 (1 - y))
  | .bin o a b => (b.val env).bind fun y => (a.val env).bind fun x => lim (mach_bin o.f0 x y)
theorem lim_some {n m : Int} (h : lim n = some m) : m = n ∧ ¬ mach_over n := by
  unfold lim at h
  by_cases c : mach_over n
  · rw [if_pos c] at h; exact absurd h (by simp)
  · rw [if_neg c] at h; exact ⟨(Option.some.inj h).symm, c⟩
theorem lim_ok {n : Int} (h0 : -1000000 ≤ n) (h1 : n ≤ 1000000) : lim n = some n := by
  unfold lim
  exact if_neg (fun h => h.elim (fun h => by omega) (fun h => by omega))
/-- One op, its value known. -/
theorem run_op {env : List Int} {o : Op} {os : List Op} {st ys : List Int} {n : Int} (hv : mach_val env o st = some (n, ys)) (hl : ys.length < 8796093022208) :
    expr_Eval.run env (o :: os) st = (lim n).elim (some (0, 8)) (fun m => expr_Eval.run env os (m :: ys)) := by
  rw [expr_Eval.run, hv, Option.bind_some]
  simp only [if_pos hl]
  unfold lim
  by_cases c : mach_over n
  · rw [if_pos c, if_pos c]; rfl
  · rw [if_neg c, if_neg c]; rfl
theorem run_tm {vars : Int} {env : List Int} (hlen : (env.length : Int) = vars) {b : Bool} {t : Tm} (h : Ty vars b t) : ∀ (os : List Op) (st : List Int), st.length + t.size ≤ 100000 →
    expr_Eval.run env (t.flat.reverse ++ os) st = (t.val env).elim (some (0, 8)) (fun n => expr_Eval.run env os (n :: st)) := by
  have hbin : ∀ (o : Int) (x y : Tm), 3 ≤ o → o ≤ 9 → (∀ (os : List Op) (st : List Int), st.length + x.size ≤ 100000 → expr_Eval.run env (x.flat.reverse ++ os) st = (x.val env).elim (some (0, 8)) (fun n => expr_Eval.run env os (n :: st))) →
      (∀ (os : List Op) (st : List Int), st.length + y.size ≤ 100000 → expr_Eval.run env (y.flat.reverse ++ os) st = (y.val env).elim (some (0, 8)) (fun n => expr_Eval.run env os (n :: st))) →
      ∀ (os : List Op) (st : List Int), st.length + (Tm.bin ⟨o, 0⟩ x y).size ≤ 100000 → expr_Eval.run env ((Tm.bin ⟨o, 0⟩ x y).flat.reverse ++ os) st = ((Tm.bin ⟨o, 0⟩ x y).val env).elim (some (0, 8)) (fun n => expr_Eval.run env os (n :: st)) := by
    intro o x y h0 h1 ihx ihy os st hl
    simp only [Tm.size] at hl
    have sx := x.size_pos
    have e : (Tm.bin ⟨o, 0⟩ x y).flat.reverse ++ os = y.flat.reverse ++ (x.flat.reverse ++ (⟨o, 0⟩ :: os)) := by simp [Tm.flat]
    rw [e, ihy _ _ (by omega)]
    simp only [Tm.val]
    cases hy : y.val env with
    | none => rfl
    | some vy =>
      simp only [Option.elim_some, Option.bind_some]
      rw [ihx _ _ (by rw [List.length_cons]; omega)]
      cases hx : x.val env with
      | none => rfl
      | some vx =>
        simp only [Option.elim_some, Option.bind_some]
        refine run_op ?_ (by omega)
        unfold mach_val
        simp only
        rw [if_neg (by omega), if_neg (by omega), if_neg (by omega), if_neg (by omega), if_neg (by omega), if_pos ⟨h0, h1⟩]
  induction h with
  | num v h0 h1 =>
    intro os st hl
    simp only [Tm.size] at hl
    exact run_op (by unfold mach_val; rfl) (by omega)
  | var v h0 h1 =>
    intro os st hl
    simp only [Tm.size] at hl
    have hm : mach_val env ⟨2, v⟩ st = some (rd env v, st) := by
      have h' : 0 ≤ v ∧ v < (env.length : Int) := ⟨h0, by omega⟩
      simp [mach_val, h']
    exact run_op hm (by omega)
  | yes o h =>
    intro os st hl
    simp only [Tm.size] at hl
    rcases h with rfl | rfl <;> exact run_op (by unfold mach_val; rfl) (by omega)
  | arith o x y h _ _ ihx ihy => exact hbin o x y (by omega) (by omega) ihx ihy
  | cmp o x y h _ _ ihx ihy => exact hbin o x y (by omega) (by omega) ihx ihy
  | log o x y h _ _ ihx ihy => exact hbin o x y (by omega) (by omega) ihx ihy
  | not x _ ih =>
    intro os st hl
    simp only [Tm.size] at hl
    have e : (Tm.un ⟨10, 0⟩ x).flat.reverse ++ os = x.flat.reverse ++ (⟨10, 0⟩ :: os) := by simp [Tm.flat]
    rw [e, ih _ _ (by omega)]
    simp only [Tm.val]
    cases hx : x.val env with
    | none => rfl
    | some vx =>
      simp only [Option.elim_some, Option.bind_some]
      exact run_op (by unfold mach_val; rfl) (by omega)
/-- What Eval answers. -/
def res (v : Option Int) : Int × Int := v.elim (0, 8) (fun n => (n, 0))
theorem eval_is {vars : Int} (hv1 : vars ≤ 6) {env : List Int} (hlen : (env.length : Int) = vars) (he : ∀ v ∈ env, -1000000 ≤ v ∧ v ≤ 1000000) {b : Bool} {t : Tm} (h : Ty vars b t) (hs : t.size ≤ 60) :
    Ev (fun k => expr_Eval.f k t.flat env) (res (t.val env)) := by
  unfold expr_Eval.f
  rw [hlen]
  refine Ev.bind (check_good (by omega) hv1 h hs) ?_
  simp only [if_true, if_pos he]
  have hr := run_tm hlen h [] [] (by rw [List.length_nil]; omega)
  rw [List.append_nil] at hr
  rw [hr]
  cases t.val env with
  | none => exact Ev.now _
  | some n => exact Ev.now _
theorem w10 : wrap64 (1 - 0) = 1 := w64 (n := 1) (by decide) (by decide)
theorem w11 : wrap64 (1 - 1) = 0 := w64 (n := 0) (by decide) (by decide)
/-- Values lie in their bounds; a truth is 0 or 1. -/
theorem val_rng {vars : Int} {env : List Int} {b : Bool} {t : Tm} (h : Ty vars b t) {n : Int} (hv : t.val env = some n) : (-1000000 ≤ n ∧ n ≤ 1000000) ∧ (b = true → n = 0 ∨ n = 1) := by
  have hlim : ∀ {m n : Int}, lim m = some n → -1000000 ≤ n ∧ n ≤ 1000000 := by
    intro m n h
    obtain ⟨rfl, h2⟩ := lim_some h
    have a1 : ¬ n < -1000000 := fun h => h2 (.inl h)
    have a2 : ¬ 1000000 < n := fun h => h2 (.inr h)
    omega
  induction h generalizing n with
  | num v => exact ⟨hlim hv, fun h => by simp at h⟩
  | var v => exact ⟨hlim hv, fun h => by simp at h⟩
  | yes o h =>
    refine ⟨hlim hv, fun _ => ?_⟩
    obtain ⟨rfl, _⟩ := lim_some hv
    rcases h with rfl | rfl
    · exact .inr rfl
    · exact .inl rfl
  | arith o x y h _ _ =>
    obtain ⟨a, _, hv⟩ := Option.bind_eq_some_iff.mp hv
    obtain ⟨c, _, hv⟩ := Option.bind_eq_some_iff.mp hv
    exact ⟨hlim hv, fun h => by simp at h⟩
  | cmp o x y h _ _ =>
    obtain ⟨a, _, hv⟩ := Option.bind_eq_some_iff.mp hv
    obtain ⟨c, _, hv⟩ := Option.bind_eq_some_iff.mp hv
    refine ⟨hlim hv, fun _ => ?_⟩
    obtain ⟨rfl, _⟩ := lim_some hv
    rcases h with rfl | rfl
    · show (if c = a then (1 : Int) else 0) = 0 ∨ (if c = a then (1 : Int) else 0) = 1
      by_cases q : c = a
      · rw [if_pos q]; exact .inr rfl
      · rw [if_neg q]; exact .inl rfl
    · show (if c < a then (1 : Int) else 0) = 0 ∨ (if c < a then (1 : Int) else 0) = 1
      by_cases q : c < a
      · rw [if_pos q]; exact .inr rfl
      · rw [if_neg q]; exact .inl rfl
  | log o x y h _ _ ihx ihy =>
    obtain ⟨a, ha, hv⟩ := Option.bind_eq_some_iff.mp hv
    obtain ⟨c, hc, hv⟩ := Option.bind_eq_some_iff.mp hv
    refine ⟨hlim hv, fun _ => ?_⟩
    obtain ⟨rfl, _⟩ := lim_some hv
    have ka := (ihy ha).2 rfl
    have kc := (ihx hc).2 rfl
    rcases h with rfl | rfl <;> rcases ka with rfl | rfl <;> rcases kc with rfl | rfl <;> first | exact .inl rfl | exact .inr rfl
  | not x _ ih =>
    obtain ⟨a, ha, hv⟩ := Option.bind_eq_some_iff.mp hv
    refine ⟨hlim hv, fun _ => ?_⟩
    obtain ⟨rfl, _⟩ := lim_some hv
    rcases (ih ha).2 rfl with rfl | rfl
    · exact .inr w10
    · exact .inl w11
/-- How many leaves: a number's bound. -/
theorem num_val {env : List Int} (hlen : (env.length : Int) = 3) (he : ∀ v ∈ env, 0 ≤ v ∧ v ≤ 8) {t : Tm} (h : NumT 3 t) : ∃ m : Nat, t.size + 1 = 2 * m ∧ 1 ≤ m ∧ (m ≤ 6 → ∃ n, t.val env = some n ∧ -(8 ^ m : Nat) ≤ n ∧ n ≤ (8 ^ m : Nat)) := by
  have hpow : ∀ m : Nat, m ≤ 6 → (8 : Nat) ^ m ≤ 262144 := fun m hm => Nat.pow_le_pow_right (by decide) hm
  induction h with
  | num v h0 h1 => exact ⟨1, rfl, by decide, fun _ => ⟨v, lim_ok (show -1000000 ≤ v by omega) (show v ≤ 1000000 by omega), by omega, by omega⟩⟩
  | var v h0 h1 =>
    have hm : rd env v ∈ env := by
      have : rd env v = env[v.toNat]'(by omega) := by simp [rd, List.getD_eq_getElem?_getD]; rw [List.getElem?_eq_getElem (by omega)]; rfl
      rw [this]; exact List.getElem_mem _
    have := he _ hm
    exact ⟨1, rfl, by decide, fun _ => ⟨rd env v, lim_ok (show -1000000 ≤ rd env v by omega) (show rd env v ≤ 1000000 by omega), by omega, by omega⟩⟩
  | bin o x y h0 h1 _ _ ihx ihy =>
    obtain ⟨m1, s1, p1, hx⟩ := ihx
    obtain ⟨m2, s2, p2, hy⟩ := ihy
    refine ⟨m1 + m2, by simp only [Tm.size]; omega, by omega, fun hm => ?_⟩
    obtain ⟨a, va, a0, a1⟩ := hx (by omega)
    obtain ⟨c, vc, c0, c1⟩ := hy (by omega)
    have hk := hpow (m1 + m2) hm
    have ha := hpow m1 (by omega)
    have hc := hpow m2 (by omega)
    have hmul : (8 : Nat) ^ (m1 + m2) = 8 ^ m1 * 8 ^ m2 := Nat.pow_add ..
    have g1 : 8 ≤ (8 : Nat) ^ m1 := Nat.le_trans (by decide) (Nat.pow_le_pow_right (by decide) p1)
    have g2 : 8 ≤ (8 : Nat) ^ m2 := Nat.le_trans (by decide) (Nat.pow_le_pow_right (by decide) p2)
    rw [hmul] at hk ⊢
    generalize (8 : Nat) ^ m1 = P at *
    generalize (8 : Nat) ^ m2 = R at *
    have hPR : P + R ≤ P * R := by
      have h1 : P * 8 ≤ P * R := Nat.mul_le_mul_left _ g2
      have h2 : 8 * R ≤ P * R := Nat.mul_le_mul_right _ g1
      omega
    have hprod : -((P * R : Nat) : Int) ≤ a * c ∧ a * c ≤ ((P * R : Nat) : Int) := by
      have h1 : a.natAbs * c.natAbs ≤ P * R := Nat.mul_le_mul (by omega) (by omega)
      have h2 : (a * c).natAbs = a.natAbs * c.natAbs := Int.natAbs_mul ..
      omega
    simp only [Tm.val, va, vc, Option.bind_some]
    have ho : o = 3 ∨ o = 4 ∨ o = 5 := by omega
    rcases ho with rfl | rfl | rfl
    · have e : mach_bin 3 a c = a + c := w64 (n := a + c) (by omega) (by omega)
      rw [e]; exact ⟨a + c, lim_ok (by omega) (by omega), by omega, by omega⟩
    · have e : mach_bin 4 a c = a - c := w64 (n := a - c) (by omega) (by omega)
      rw [e]; exact ⟨a - c, lim_ok (by omega) (by omega), by omega, by omega⟩
    · have e : mach_bin 5 a c = a * c := w64 (n := a * c) (by omega) (by omega)
      rw [e]; exact ⟨a * c, lim_ok (by omega) (by omega), by omega, by omega⟩
theorem num_small {env : List Int} (hlen : (env.length : Int) = 3) (he : ∀ v ∈ env, 0 ≤ v ∧ v ≤ 8) {t : Tm} (h : NumT 3 t) (hs : t.size ≤ 7) : ∃ n, t.val env = some n ∧ -4096 ≤ n ∧ n ≤ 4096 := by
  obtain ⟨m, e, _, hm⟩ := num_val hlen he h
  obtain ⟨n, hn, n0, n1⟩ := hm (by omega)
  have : (8 : Nat) ^ m ≤ 8 ^ 4 := Nat.pow_le_pow_right (by decide) (by omega)
  exact ⟨n, hn, by omega, by omega⟩
theorem lim_bit {n : Int} (h : n = 0 ∨ n = 1) : lim n = some n := lim_ok (by omega) (by omega)
/-- A truth of the laws' own makes no number that is too great. -/
theorem truth_val {env : List Int} (hlen : (env.length : Int) = 3) (he : ∀ v ∈ env, 0 ≤ v ∧ v ≤ 8) {t : Tm} (h : TruthT 3 t) : ∃ n, t.val env = some n ∧ (n = 0 ∨ n = 1) := by
  have key : ∃ n, t.val env = some n := by
    induction h with
    | yes o h =>
      rcases h with rfl | rfl
      · exact ⟨1, lim_bit (.inr rfl)⟩
      · exact ⟨0, lim_bit (.inl rfl)⟩
    | cmp o x y h hx hy hs =>
      obtain ⟨a, va, _⟩ := num_small hlen he hx (by omega)
      obtain ⟨c, vc, _⟩ := num_small hlen he hy (by omega)
      simp only [Tm.val, va, vc, Option.bind_some]
      rcases h with rfl | rfl
      · refine ⟨_, lim_bit ?_⟩
        show (if a = c then (1 : Int) else 0) = 0 ∨ (if a = c then (1 : Int) else 0) = 1
        by_cases q : a = c
        · rw [if_pos q]; exact .inr rfl
        · rw [if_neg q]; exact .inl rfl
      · refine ⟨_, lim_bit ?_⟩
        show (if a < c then (1 : Int) else 0) = 0 ∨ (if a < c then (1 : Int) else 0) = 1
        by_cases q : a < c
        · rw [if_pos q]; exact .inr rfl
        · rw [if_neg q]; exact .inl rfl
    | not x hx ih =>
      obtain ⟨a, va⟩ := ih
      simp only [Tm.val, va, Option.bind_some]
      rcases (val_rng hx.ty va).2 rfl with rfl | rfl
      · exact ⟨1, by rw [w10]; exact lim_bit (.inr rfl)⟩
      · exact ⟨0, by rw [w11]; exact lim_bit (.inl rfl)⟩
    | log o x y h hx hy ihx ihy =>
      obtain ⟨a, va⟩ := ihx
      obtain ⟨c, vc⟩ := ihy
      simp only [Tm.val, va, vc, Option.bind_some]
      rcases h with rfl | rfl <;> rcases (val_rng hx.ty va).2 rfl with rfl | rfl <;> rcases (val_rng hy.ty vc).2 rfl with rfl | rfl <;> exact ⟨_, lim_ok (by decide) (by decide)⟩
  obtain ⟨n, hn⟩ := key
  exact ⟨n, hn, (val_rng h.ty hn).2 rfl⟩
/-- The laws' own values of the variables. -/
theorem env_is {x y z : Int} (hx : (Lit.int .i64 x).wf = true) (hy : (Lit.int .i64 y).wf = true) (hz : (Lit.int .i64 z).wf = true) : ∃ env, foretellkeep_env.f x y z = some env ∧ (env.length : Int) = 3 ∧ (∀ v ∈ env, 0 ≤ v ∧ v ≤ 8) := by
  refine ⟨[pk x 9, pk y 9, pk z 9], ?_, rfl, ?_⟩
  · unfold foretellkeep_env.f
    rw [picked_is hx (by decide), picked_is hy (by decide), picked_is hz (by decide)]
    rfl
  · intro v hv
    simp only [List.mem_cons, List.not_mem_nil, or_false] at hv
    have l := fun n => pk_lo n (m := 9) (by decide)
    have h := fun n => pk_hi n (m := 9) (by decide)
    rcases hv with rfl | rfl | rfl
    · have := l x; have := h x; omega
    · have := l y; have := h y; omega
    · have := l z; have := h z; omega
theorem wide_env {env : List Int} (he : ∀ v ∈ env, 0 ≤ v ∧ v ≤ 8) : ∀ v ∈ env, -1000000 ≤ v ∧ v ≤ 1000000 := fun v hv => by have := he v hv; omega
theorem eval_some {env : List Int} (hlen : (env.length : Int) = 3) (he : ∀ v ∈ env, 0 ≤ v ∧ v ≤ 8) {b : Bool} {t : Tm} (h : Ty 3 b t) (hs : t.size ≤ 60) {n : Int} (hv : t.val env = some n) : Ev (fun k => expr_Eval.f k t.flat env) (n, 0) := by
  have := eval_is (by decide) hlen (wide_env he) h hs
  rw [hv] at this
  exact this
theorem eval_none {env : List Int} (hlen : (env.length : Int) = 3) (he : ∀ v ∈ env, 0 ≤ v ∧ v ≤ 8) {b : Bool} {t : Tm} (h : Ty 3 b t) (hs : t.size ≤ 60) (hv : t.val env = none) : Ev (fun k => expr_Eval.f k t.flat env) (0, 8) := by
  have := eval_is (by decide) hlen (wide_env he) h hs
  rw [hv] at this
  exact this
section
variable {env : List Int} {x y : Tm} {a c : Int}
theorem val_num (env : List Int) (v : Int) (h0 : -1000000 ≤ v) (h1 : v ≤ 1000000) : (Tm.leaf ⟨1, v⟩).val env = some v := lim_ok (show -1000000 ≤ v from h0) (show v ≤ 1000000 from h1)
theorem val_bin {o : Int} (hx : x.val env = some a) (hy : y.val env = some c) : (Tm.bin ⟨o, 0⟩ x y).val env = lim (mach_bin o a c) := by simp only [Tm.val, hx, hy, Option.bind_some]
theorem val_not (hx : x.val env = some a) (ha : a = 0 ∨ a = 1) : (Tm.un ⟨10, 0⟩ x).val env = some (1 - a) ∧ (1 - a = 0 ∨ 1 - a = 1) := by
  simp only [Tm.val, hx, Option.bind_some]
  rcases ha with rfl | rfl
  · exact ⟨by rw [w10]; exact lim_bit (.inr rfl), .inr rfl⟩
  · exact ⟨by rw [w11]; exact lim_bit (.inl rfl), .inl rfl⟩
theorem val_and (hx : x.val env = some a) (hy : y.val env = some c) (ha : a = 0 ∨ a = 1) (hc : c = 0 ∨ c = 1) : (Tm.bin ⟨8, 0⟩ x y).val env = some (a * c) ∧ (a * c = 0 ∨ a * c = 1) := by
  rw [val_bin hx hy]
  rcases ha with rfl | rfl <;> rcases hc with rfl | rfl
  · exact ⟨lim_bit (.inl rfl), .inl rfl⟩
  · exact ⟨lim_bit (.inl rfl), .inl rfl⟩
  · exact ⟨lim_bit (.inl rfl), .inl rfl⟩
  · exact ⟨lim_bit (.inr rfl), .inr rfl⟩
theorem val_or (hx : x.val env = some a) (hy : y.val env = some c) (ha : a = 0 ∨ a = 1) (hc : c = 0 ∨ c = 1) : (Tm.bin ⟨9, 0⟩ x y).val env = some (a + c - a * c) ∧ (a + c - a * c = 0 ∨ a + c - a * c = 1) := by
  rw [val_bin hx hy]
  rcases ha with rfl | rfl <;> rcases hc with rfl | rfl
  · exact ⟨lim_bit (.inl rfl), .inl rfl⟩
  · exact ⟨lim_bit (.inr rfl), .inr rfl⟩
  · exact ⟨lim_bit (.inr rfl), .inr rfl⟩
  · exact ⟨lim_bit (.inr rfl), .inr rfl⟩
theorem val_eq (hx : x.val env = some a) (hy : y.val env = some c) : (Tm.bin ⟨6, 0⟩ x y).val env = some (if a = c then 1 else 0) := by
  rw [val_bin hx hy]
  show lim (if a = c then 1 else 0) = _
  by_cases q : a = c
  · rw [if_pos q]; exact lim_bit (.inr rfl)
  · rw [if_neg q]; exact lim_bit (.inl rfl)
theorem val_lt (hx : x.val env = some a) (hy : y.val env = some c) : (Tm.bin ⟨7, 0⟩ x y).val env = some (if a < c then 1 else 0) := by
  rw [val_bin hx hy]
  show lim (if a < c then 1 else 0) = _
  by_cases q : a < c
  · rw [if_pos q]; exact lim_bit (.inr rfl)
  · rw [if_neg q]; exact lim_bit (.inl rfl)
theorem val_add (hx : x.val env = some a) (hy : y.val env = some c) (h0 : -1000000 ≤ a + c) (h1 : a + c ≤ 1000000) : (Tm.bin ⟨3, 0⟩ x y).val env = some (a + c) := by
  rw [val_bin hx hy, show mach_bin 3 a c = a + c from w64 (n := a + c) (by omega) (by omega)]
  exact lim_ok h0 h1
theorem val_sub (hx : x.val env = some a) (hy : y.val env = some c) (h0 : -1000000 ≤ a - c) (h1 : a - c ≤ 1000000) : (Tm.bin ⟨4, 0⟩ x y).val env = some (a - c) := by
  rw [val_bin hx hy, show mach_bin 4 a c = a - c from w64 (n := a - c) (by omega) (by omega)]
  exact lim_ok h0 h1
theorem val_mul (hx : x.val env = some a) (hy : y.val env = some c) (h0 : -1000000 ≤ a * c) (h1 : a * c ≤ 1000000) : (Tm.bin ⟨5, 0⟩ x y).val env = some (a * c) := by
  rw [val_bin hx hy, show mach_bin 5 a c = a * c from w64 (n := a * c) (by omega) (by omega)]
  exact lim_ok h0 h1
end
end Go.Proofs.YtlejdidngmjicaaDoor.Q
