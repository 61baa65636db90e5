/- The law ModelTwice: no name stands twice, nor is a variable set twice by a rule; a state outside is none. -/
import Derived.Test.YteennleoieafiaaDoorKLModelTwice
import Derived.Test.YteennleoieafiaaDoorK16
namespace Go.Proofs.YteennleoieafiaaDoor.Q
open Go.RowKit Go.Proofs.YteennleoieafiaaDoorW.PrintWords Go.Proofs.YteennleoieafiaaDoorW.PrintMore Go.Proofs.YteennleoieafiaaDoor.P
set_option linter.unusedVariables false
theorem ev_same {α : Type} {f : Nat → Option α} {a b : α} (h : Ev f a) (h2 : Ev f b) : a = b := by
  obtain ⟨K, hK⟩ := h
  obtain ⟨L, hL⟩ := h2
  have a1 := hK (max K L) (by omega)
  have a2 := hL (max K L) (by omega)
  rw [a1] at a2
  exact Option.some.inj a2
/-- A rule too many that may not be. -/
theorem check_last {vs : List Vr} {rs : List Rl} (h : ModelOk vs rs) (hl : rs.length ≤ 11) {r : Rl} {e : Int} (he : Ev (fun k => model_rule.f k r.f0 r.f1 (vs.length : Int)) e) (h0 : e ≠ 0) : Ev (fun k => model_Check.f k vs (rs ++ [r])) e := by
  obtain ⟨n0, n1⟩ := nv_rng h
  have hlen : (rs ++ [r]).length = rs.length + 1 := by simp
  have hold : ∀ (j : Nat) (hj : j < (rs ++ [r]).length), j < rs.length → Ev (fun k => model_rule.f k (rs ++ [r])[j].f0 (rs ++ [r])[j].f1 (vs.length : Int)) 0 := fun j hj c => by
    rw [List.getElem_append_left c]
    exact rule_good n0 n1 (h.r _ (List.getElem_mem c))
  have hnew : ∀ (j : Nat) (hj : j < (rs ++ [r]).length), ¬ j < rs.length → Ev (fun k => model_rule.f k (rs ++ [r])[j].f0 (rs ++ [r])[j].f1 (vs.length : Int)) e := fun j hj c => by
    obtain rfl : j = rs.length := by omega
    rw [List.getElem_append_right (Nat.le_refl _)]
    simpa using he
  refine check_vars h.v (by omega) ?_
  refine rules_loop vs (rs ++ [r]) (by omega) e (fun i hi => ?_) (fun hall => ?_)
  · by_cases c : i < rs.length
    · exact ⟨0, hold i hi c, .inl rfl⟩
    · exact ⟨e, hnew i hi c, .inr ⟨rfl, fun j hj hjl => hold j hjl (by omega)⟩⟩
  · exact ev_same (hnew rs.length (by omega) (by omega)) (hall rs.length (by omega))
theorem num_ok (nv n : Int) (h0 : -1000 ≤ n) (h1 : n ≤ 1000) : ExOk nv false [⟨1, n⟩] := ⟨.leaf ⟨1, n⟩, rfl, .num n h0 h1, Nat.le_trans (Nat.le_refl 1) (by omega)⟩
theorem yes_ok (nv : Int) : ExOk nv true [⟨11, 0⟩] := ⟨.leaf ⟨11, 0⟩, rfl, .yes 11 (.inl rfl), by decide⟩
theorem rule_twice {nv : Int} (h2 : 2 ≤ nv) (h1 : nv ≤ 6) : Ev (fun k => model_rule.f k [⟨11, 0⟩] [⟨1, [⟨1, 0⟩]⟩, ⟨1, [⟨1, 1⟩]⟩] nv) 7 := by
  refine Ev.congr (f := fun k => (model_kind.f k [⟨11, 0⟩] nv true).bind fun e => if e = 0 then model_rule.go k nv [⟨1, [⟨1, 0⟩]⟩, ⟨1, [⟨1, 1⟩]⟩] [] else some e) (fun k => ?_) (Ev.bind (kind_good (by omega) h1 (yes_ok nv)) ?_)
  · unfold model_rule.f
    rw [if_neg (by decide)]
    simp only [if_pos (show nv ≤ 1000000 by omega)]
  · simp only [if_true]
    refine Ev.congr (f := fun k => (model_kind.f k [⟨1, 0⟩] nv false).bind fun e => if e = 0 then model_rule.go k nv [⟨1, [⟨1, 1⟩]⟩] ([] ++ [1]) else some e) (fun k => ?_) (Ev.bind (kind_good (by omega) h1 (num_ok nv 0 (by decide) (by decide))) ?_)
    · rw [model_rule.go, if_neg (show ¬ ((1 : Int) < 0 ∨ (1 : Int) ≥ nv) by omega), if_neg (by simp)]
    · simp only [if_true]
      refine Ev.congr (f := fun _ => some 7) (fun k => ?_) (Ev.now _)
      rw [model_rule.go, if_neg (show ¬ ((1 : Int) < 0 ∨ (1 : Int) ≥ nv) by omega), if_pos (by simp)]
theorem rule_num {nv : Int} (h0 : 0 ≤ nv) (h1 : nv ≤ 6) : Ev (fun k => model_rule.f k [⟨1, 1⟩] [] nv) 5 := by
  refine Ev.congr (f := fun k => (model_kind.f k [⟨1, 1⟩] nv true).bind fun e => if e = 0 then model_rule.go k nv [] [] else some e) (fun k => ?_) (Ev.bind (a := 5) ?_ ?_)
  · unfold model_rule.f
    rw [if_neg (by decide)]
    simp only [if_pos (show nv ≤ 1000000 by omega)]
  · have := kind_is h0 h1 (num_ok nv 1 (by decide) (by decide)) true
    simpa using this
  · simp only [show ¬ ((5 : Int) = 0) by decide, if_false]
    exact Ev.now _
theorem vars_twice {x y : Vr} (ox : OwnVar foretellkeep_Model.nx x) (oy : OwnVar foretellkeep_Model.ny y) {z : Vr} (hz : z = x ∨ z = y) (k : Nat) (rs : List Rl) : model_Check.f k ([x, y] ++ [z]) rs = some 7 := by
  have hv := own_vars ox oy
  have n1 := hv.nm x (by simp)
  have n2 := hv.nm y (by simp)
  have r1 := ox.rng
  have r2 := oy.rng
  have s1 := ox.spn
  have s2 := oy.spn
  have h1 := ox.hi
  have h2 := oy.hi
  have hxy : y.f0.data.toList ≠ x.f0.data.toList := by rw [ox.name, oy.name]; decide +kernel
  have hm : 1 * spn x * spn y ≤ 4096 := by
    have : spn x * spn y ≤ 4 * 4 := Int.le_trans (Int.mul_le_mul_of_nonneg_right s1.2 (by omega)) (Int.mul_le_mul_of_nonneg_left s2.2 (by decide))
    rw [Int.one_mul]
    omega
  have nz : model_name.ok z.f0 = true := by rcases hz with rfl | rfl <;> assumption
  have e : model_variables.go ([x, y] ++ [z]) [] 1 = 7 := by
    show model_variables.go (x :: y :: z :: []) [] 1 = 7
    rw [model_variables.go, if_neg (by rw [n1]; decide), if_neg (by simp), if_neg (by simpa using r1), if_neg (by omega), if_neg (by show ¬ 1 * spn x > 4096; omega)]
    rw [model_variables.go, if_neg (by rw [n2]; decide), if_neg (by simpa using hxy), if_neg (by simpa using r2), if_neg (by omega), if_neg (by show ¬ 1 * spn x * spn y > 4096; omega)]
    rw [model_variables.go, if_neg (by rw [nz]; decide), if_pos (by rcases hz with rfl | rfl <;> simp)]
  unfold model_Check.f model_variables.f
  rw [if_neg (by simp), e]
  rfl
theorem ModelTwice : P.foretellkeep_ModelTwice.Pur := by
  intro a b c d e f l at_ hw hat
  obtain ⟨vs, rs, hm, ho⟩ := own_model hw
  have q0 := pk_lo at_ (m := 2) (by decide)
  have q1 := pk_hi at_ (m := 2) (by decide)
  have hfew := ho.few
  have hlen := ho.len
  refine Ev.rounds (r := true) ?_
  unfold foretellkeep_ModelTwice.f
  refine Ev.bind hm (Ev.bind (a := pk at_ 2) (Ev.congr (fun _ => picked_is hat (by decide)) (Ev.now _)) ?_)
  generalize pk at_ 2 = q at *
  unfold foretellkeep_ModelTwice.go
  simp only [if_pos q0, if_pos (show q < (vs.length : Int) by omega), if_pos (show vs.length ≤ 1000 by omega), if_pos (show rs.length ≤ 1000 by omega)]
  have n2 : (2 : Int) ≤ (vs.length : Int) := by omega
  have hn : ∀ n : Int, Ev (fun _ : Nat => foretellkeep_num.f n) [⟨1, n⟩] := fun n => ⟨0, fun _ _ => rfl⟩
  have h1 := check_last ho.m (by omega) (r := ⟨[⟨11, 0⟩], [⟨1, [⟨1, 0⟩]⟩, ⟨1, [⟨1, 1⟩]⟩]⟩) (rule_twice n2 (by omega)) (by decide)
  have h2 := check_last ho.m (by omega) (r := ⟨[⟨1, 1⟩], []⟩) (rule_num (by omega) (by omega)) (by decide)
  have h3 : Ev (fun k => model_Check.f k (vs ++ [rd_T32 vs q]) rs) 7 := by
    obtain ⟨x, y, rfl, ox, oy⟩ := ho.two
    refine ⟨0, fun k _ => vars_twice ox oy ?_ k rs⟩
    have : q = 0 ∨ q = 1 := by omega
    rcases this with rfl | rfl
    · exact .inl rfl
    · exact .inr rfl
  refine Ev.bind (hn 0) (Ev.bind (hn 1) (Ev.bind (model_good ho.m) ?_))
  simp only [if_true]
  refine Ev.bind h3 ?_
  simp only [if_true]
  refine Ev.bind h1 ?_
  simp only [if_true]
  refine Ev.bind h2 ?_
  simp only [if_true]
  exact Ev.now _
end Go.Proofs.YteennleoieafiaaDoor.Q
