-- PACKED by pack.py of this repo: FForetellkeepTruth FForetellkeepHas QVals QVars QTerm QTake QGen QLies FForetellkeepJoined QJoin QUniq QHas O
import Derived.WalkSpells
import Derived.ProofKit
import Derived.OpenShut
import Derived.Deep.Slices
import Derived.Test.YteennleoieafiaaDoorK1
import Derived.Test.YteennleoieafiaaDoorK3
import Derived.Test.YteennleoieafiaaDoorK2
import Derived.Test.YteennleoieafiaaDoorK0
section
namespace Go.Proofs.YteennleoieafiaaDoor.P
open Go.RowKit Go.Proofs.YteennleoieafiaaDoorW.PrintWords Go.Proofs.YteennleoieafiaaDoorW.PrintLast Go.Proofs.YteennleoieafiaaDoorW.PrintMore Go.Proofs.YteennleoieafiaaDoor.G
attribute [local go_sem] max2_int min2_int max_two min_two max_three min_three max_four min_four   -- for this text's walks alone
set_option linter.unusedVariables false
set_option linter.unusedSimpArgs false

/-! ### foretellkeep_Truth: function 28 -/
--IMPORT FGrownTake
--IMPORT Derived.WalkSpells
def foretellkeep_Truth.f (k : Nat) (l0 : List (S97)) (a1 : Int) : Option ((List (S35))) := (grown_truth.f k l0 a1 ⟨0, 0, []⟩ 3).bind fun st => some st.out
theorem foretellkeep_Truth.mono : ∀ a0 a1 k, LeO (foretellkeep_Truth.f k a0 a1) (foretellkeep_Truth.f (k + 1) a0 a1) := by
  intro a0 a1 k
  unfold foretellkeep_Truth.f
  exact LeO.bind (grown_truth.mono_f k _ _ _ _) (fun _ => LeO.refl _)
set_option maxHeartbeats 8000000 in
set_option maxRecDepth 100000 in
theorem foretellkeep_Truth.calls (k : Nat) (A0 : Option Addr) (c0 : Nat) (l0 : List (S97)) (a1 : Int) (r : List (S35)) (w : World) (hr0 : Kd.C k97 w A0 l0.length l0) (hc0 : l0.length ≤ c0) (h : foretellkeep_Truth.f k l0 a1 = some r) :
    Calls Tryd.prog 28 #[.slice A0 l0.length c0, .int .i64 a1] w fun e w' => ∃ v0_ : Value, e = .returned (v0_) ∧ Kd.R k35 35 w' w.heap.size (fun _ => True) v0_ r ∧ Below w.heap.size w w' := by
  have R0 := Aside0.mk hr0
  clear hr0 hc0
  unfold foretellkeep_Truth.f at h
  obtain ⟨st, h1, h⟩ := Option.bind_eq_some_iff.mp h
  obtain rfl := Option.some.inj h
  have H1 := Aside0.mk h1
  clear h h1
  go_enter Tryd.func28, Tryd.ntmps28
  go_wp2_with (first | ((with_reducible refine gate_dst (N := 9) rfl ?_); go_must (refine box_event ?hg (N := 9) ?hd (cs := #[.slice A0 l0.length c0, .int .i64 0, .int .i64 a1, .int .i64 0, .int .i64 0, .slice none 0 0]) (t := 81) ?hr ?_; (case hd => rfl); (case hg => rfl); (case hr => first | (go_simp; done) | (go_simp; rfl)); intro g hg w1 hbox hb; have HV := Aside0.mk (show GrownAt w w1 g A0 l0.length c0 a1 0 ⟨0, 0, []⟩ from ⟨_, hbox, Kd.R_nil _ _ _ _ _, hb⟩); have BG := Aside0.mk (show w.heap.size ≤ g by rw [hg]; exact Nat.le_refl _); clear hb hbox hg)) | (go_at_call 38; go_must (refine (grown_truth.calls w A0 c0 l0 g a1 0 R0.out BG.out k _ _ _ _ HV.out H1.out).mono ?_; rintro e w2 ⟨rfl, hv⟩; obtain ⟨vo, k2, ro, b2⟩ := hv; have K2 := Aside0.mk k2; have RO := Aside0.mk ro; have HB := Aside0.mk b2; clear k2 ro b2; have hcz5 : w2.cell? ⟨g, 5, none⟩ = some vo := (blk_cell K2.out 5).trans rfl)))
  go_ret
  exact ⟨_, rfl, RO.out, HB.out⟩

end Go.Proofs.YteennleoieafiaaDoor.P
end
section
namespace Go.Proofs.YteennleoieafiaaDoor.P
open Go.RowKit Go.Proofs.YteennleoieafiaaDoorW.PrintWords Go.Proofs.YteennleoieafiaaDoorW.PrintLast Go.Proofs.YteennleoieafiaaDoorW.PrintMore Go.Proofs.YteennleoieafiaaDoor.G
attribute [local go_sem] max2_int min2_int max_two min_two max_three min_three max_four min_four   -- for this text's walks alone
set_option linter.unusedVariables false
set_option linter.unusedSimpArgs false

/-! ### foretellkeep_has: function 26 -/
def foretellkeep_has.l0 : Nat → List Int → Int → Int → Option (Bool)
  | 0, _, _, _ => none
  | k + 1, x0, x1, x5 => if x5 < (x0.length : Int) then (if 0 ≤ x5 then (if (rd x0 x5) = x1 then (some true) else (foretellkeep_has.l0 k x0 x1 (wrap64 (x5 + 1)))) else (none)) else (some false)
def foretellkeep_has.f (k : Nat) (l0 : List Int) (a1 : Int) : Option (Bool) := foretellkeep_has.l0 k l0 a1 0
theorem foretellkeep_has.mono_l : ∀ k, (∀ y0 y1 y2, LeO (foretellkeep_has.l0 k y0 y1 y2) (foretellkeep_has.l0 (k + 1) y0 y1 y2))
  | 0 => fun _ _ _ r h => by simp [foretellkeep_has.l0] at h
  | k + 1 => by
    have ih0 := foretellkeep_has.mono_l k
    · intro y0 y1 y2
      unfold foretellkeep_has.l0
      repeat' first
      | (with_reducible exact ih0 _ _ _)
      | (with_reducible exact LeO.refl _)
      | (with_reducible exact LeO.none _)
      | (with_reducible refine LeO.ite ?_ ?_)
      | (with_reducible refine LeO.bind ?_ (fun _ => ?_))
      | exact ih0 _ _ _
      | exact LeO.none _
      | refine LeO.ite ?_ ?_
      | refine LeO.bind ?_ (fun _ => ?_)
theorem foretellkeep_has.mono : ∀ a0 a1 k, LeO (foretellkeep_has.f k a0 a1) (foretellkeep_has.f (k + 1) a0 a1) := by
  intro a0 a1 k
  have ih0 := foretellkeep_has.mono_l k
  unfold foretellkeep_has.f
  repeat' first
      | (with_reducible exact ih0 _ _ _)
      | (with_reducible exact LeO.refl _)
      | (with_reducible exact LeO.none _)
      | (with_reducible refine LeO.ite ?_ ?_)
      | (with_reducible refine LeO.bind ?_ (fun _ => ?_))
      | exact ih0 _ _ _
      | exact LeO.none _
      | refine LeO.ite ?_ ?_
      | refine LeO.bind ?_ (fun _ => ?_)
set_option maxHeartbeats 8000000 in
set_option maxRecDepth 100000 in
theorem foretellkeep_has.calls (k : Nat) (A0 : Option Addr) (c0 : Nat) (l0 : List Int) (a1 : Int) (r : Bool) (w : World) (hr0 : Kd.C (Kd.int .i64) w A0 l0.length l0) (hc0 : l0.length ≤ c0) (h : foretellkeep_has.f k l0 a1 = some r) :
    Calls Tryd.prog 26 #[.slice A0 l0.length c0, .int .i64 a1] w fun e w' => e = .returned (.bool r) ∧ Drawn0 w w' := by
  have HR0 := Aside0.mk hr0
  have HC0 := Aside0.mk hc0
  clear hr0 hc0
  have H : (foretellkeep_has.l0 k l0 a1 0) = some r := h
  clear h
  have H' := Aside0.mk H
  clear H
  go_enter Tryd.func26, Tryd.ntmps26
  go_wp2
  go_loopg [5] k (fun kq v5 w' => ∃ (x5_1 : Int), v5 = .int .i64 x5_1 ∧ Aside0 (foretellkeep_has.l0 kq l0 a1 x5_1 = some r) ∧ Aside0 (kq ≤ k) ∧ Drawn0 w w')
  case atStart => exact ⟨(0), (by first | rfl | (simp; done) | (simp [*]; done)), H', ⟨Nat.le_refl _⟩, by repeat (first | exact Drawn0.refl _ | apply Drawn0.step)⟩
  case round =>
    clear H'
    try clear c2
    try clear p2
    obtain ⟨x5_1, rfl, HA, HK1, ⟨m1, rfl⟩⟩ := hrel
    cases gk with
    | zero => exact absurd HA.out (by simp [foretellkeep_has.l0])
    | succ k1 =>
      have H := HA.out
      clear HA
      simp only [foretellkeep_has.l0] at H
      by_cases c3 : x5_1 < (l0.length : Int)
      · rw [if_pos c3] at H
        have c3b0 : decide (x5_1 < (l0.length : Int)) = true := decide_eq_true c3
        clear c3
        by_cases c4 : 0 ≤ x5_1
        · rw [if_pos c4] at H
          have c4b0 : decide (0 ≤ x5_1) = true := decide_eq_true c4
          clear c4
          by_cases c5 : (rd l0 x5_1) = a1
          · rw [if_pos c5] at H
            have c5b0 : ((rd l0 x5_1) == a1) = true := beq_iff_eq.mpr c5
            have c5b1 : ((rd l0 x5_1) != a1) = false := bne_eq_false_iff_eq.mpr c5
            clear c5
            obtain rfl := Option.some.inj H
            have p602 : 0 ≤ (x5_1 : Int) := of_decide_eq_true (by first | (with_reducible assumption) | assumption)
            have q602 : x5_1 < (l0.length : Int) := of_decide_eq_true (by first | (with_reducible assumption) | assumption)
            obtain ⟨ad602, e602, hx602_0⟩ := Kd.at_int HR0.out x5_1 p602 q602
            cases e602
            replace p602 := eq_true p602
            replace q602 := eq_true q602
            go_wp2
            go_ret
            exact ⟨by first | rfl | (simp; done) | (simp [*]; done), by repeat (first | exact Drawn0.refl _ | apply Drawn0.step)⟩
          · rw [if_neg c5] at H
            have c5b0 : ((rd l0 x5_1) == a1) = false := beq_eq_false_iff_ne.mpr c5
            have c5b1 : ((rd l0 x5_1) != a1) = true := bne_iff_ne.mpr c5
            have H' := Aside0.mk H
            clear H
            have p602 : 0 ≤ (x5_1 : Int) := of_decide_eq_true (by first | (with_reducible assumption) | assumption)
            have q602 : x5_1 < (l0.length : Int) := of_decide_eq_true (by first | (with_reducible assumption) | assumption)
            obtain ⟨ad602, e602, hx602_0⟩ := Kd.at_int HR0.out x5_1 p602 q602
            cases e602
            replace p602 := eq_true p602
            replace q602 := eq_true q602
            go_wp2
            go_roundg k1
            case measure => have := HK1.out; omega
            case rel => exact ⟨(wrap64 (x5_1 + 1)), (by first | rfl | (simp; done) | (simp [*]; done)), H', ⟨by have := HK1.out; omega⟩, by repeat (first | exact Drawn0.refl _ | apply Drawn0.step)⟩
        · rw [if_neg c4] at H
          exact absurd H (by simp)
      · rw [if_neg c3] at H
        have c3b0 : decide (x5_1 < (l0.length : Int)) = false := decide_eq_false c3
        clear c3
        obtain rfl := Option.some.inj H
        go_wp2
        go_ret
        exact ⟨by first | rfl | (simp; done) | (simp [*]; done), by repeat (first | exact Drawn0.refl _ | apply Drawn0.step)⟩

end Go.Proofs.YteennleoieafiaaDoor.P
end
section
namespace Go.Proofs.YteennleoieafiaaDoor.Q
open Go.RowKit Go.Proofs.YteennleoieafiaaDoorW.PrintWords Go.Proofs.YteennleoieafiaaDoorW.PrintMore Go.Proofs.YteennleoieafiaaDoor.P
set_option linter.unusedVariables false
abbrev Vr := S32
def spn (v : Vr) : Int := v.f2 - v.f1 + 1
def cnt : List Vr → Int
  | [] => 1
  | v :: l => cnt l * spn v
def codeR : List Vr → List Int → Int
  | v :: l, x :: xs => codeR l xs * spn v + (x - v.f1)
  | _, _ => 0
def valR : List Vr → Int → List Int
  | [], _ => []
  | v :: l, c => (v.f1 + c % spn v) :: valR l (c / spn v)
def inR : List Vr → List Int → Prop
  | [], [] => True
  | v :: l, x :: xs => v.f1 ≤ x ∧ x ≤ v.f2 ∧ inR l xs
  | _, _ => False
theorem cnt_append : ∀ a b : List Vr, cnt (a ++ b) = cnt a * cnt b
  | [], b => by simp [cnt]
  | v :: a, b => by rw [List.cons_append, cnt, cnt, cnt_append a b, Int.mul_assoc, Int.mul_assoc, Int.mul_comm (cnt b)]
theorem cnt_reverse : ∀ l : List Vr, cnt l.reverse = cnt l
  | [] => rfl
  | v :: l => by rw [List.reverse_cons, cnt_append, cnt_reverse l]; simp [cnt]
theorem cnt_pos : ∀ {l : List Vr}, (∀ v ∈ l, v.f1 ≤ v.f2) → 0 < cnt l
  | [], _ => by decide
  | v :: l, h => by
    have h1 := cnt_pos (l := l) (fun u hu => h u (List.mem_cons_of_mem _ hu))
    have h2 := h v List.mem_cons_self
    exact Int.mul_pos h1 (by unfold spn; omega)
theorem cnt_le : ∀ {a b : List Vr}, (∀ v ∈ a ++ b, v.f1 ≤ v.f2) → cnt a ≤ cnt (a ++ b) := by
  intro a b h
  rw [cnt_append]
  have h1 := cnt_pos (l := a) (fun u hu => h u (List.mem_append_left _ hu))
  have h2 := cnt_pos (l := b) (fun u hu => h u (List.mem_append_right _ hu))
  have : cnt a * 1 ≤ cnt a * cnt b := Int.mul_le_mul_of_nonneg_left h2 (Int.le_of_lt h1)
  omega
theorem inR_len : ∀ {l : List Vr} {xs : List Int}, inR l xs → xs.length = l.length
  | [], [], _ => rfl
  | [], _ :: _, h => h.elim
  | _ :: _, [], h => h.elim
  | _ :: l, _ :: xs, h => by rw [List.length_cons, List.length_cons, inR_len h.2.2]
theorem codeR_rng : ∀ {l : List Vr} {xs : List Int}, (∀ v ∈ l, v.f1 ≤ v.f2) → inR l xs → 0 ≤ codeR l xs ∧ codeR l xs < cnt l
  | [], [], _, _ => by decide
  | [], _ :: _, _, h => h.elim
  | _ :: _, [], _, h => h.elim
  | v :: l, x :: xs, hl, h => by
    obtain ⟨h1, h2, h3⟩ := h
    obtain ⟨a, b⟩ := codeR_rng (l := l) (fun u hu => hl u (List.mem_cons_of_mem _ hu)) h3
    have hs : 0 < spn v := by unfold spn; omega
    have hx : x - v.f1 < spn v := by unfold spn; omega
    have h0 : 0 ≤ codeR l xs * spn v := Int.mul_nonneg a (Int.le_of_lt hs)
    have h4 : (codeR l xs + 1) * spn v ≤ cnt l * spn v := Int.mul_le_mul_of_nonneg_right b (Int.le_of_lt hs)
    rw [Int.add_mul, Int.one_mul] at h4
    simp only [codeR, cnt]
    omega
theorem valR_in : ∀ {l : List Vr} (c : Int), (∀ v ∈ l, v.f1 ≤ v.f2) → inR l (valR l c)
  | [], _, _ => trivial
  | v :: l, c, h => by
    have hv := h v List.mem_cons_self
    have hs : 0 < spn v := by unfold spn; omega
    have h1 := Int.emod_nonneg c (show spn v ≠ 0 by omega)
    have h2 := Int.emod_lt_of_pos c hs
    refine ⟨by omega, ?_, valR_in _ fun u hu => h u (List.mem_cons_of_mem _ hu)⟩
    have : spn v = v.f2 - v.f1 + 1 := rfl
    omega
def codeS (vs : List Vr) (xs : List Int) : Int := codeR vs.reverse xs.reverse
def valS (vs : List Vr) (c : Int) : List Int := (valR vs.reverse c).reverse
def inS : List Vr → List Int → Prop := inR
theorem inR_snoc : ∀ {l : List Vr} {xs : List Int} {v : Vr} {x : Int}, inR l xs → v.f1 ≤ x → x ≤ v.f2 → inR (l ++ [v]) (xs ++ [x])
  | [], [], v, x, _, h1, h2 => ⟨h1, h2, trivial⟩
  | [], _ :: _, _, _, h, _, _ => h.elim
  | _ :: _, [], _, _, h, _, _ => h.elim
  | _ :: l, _ :: xs, v, x, h, h1, h2 => ⟨h.1, h.2.1, inR_snoc h.2.2 h1 h2⟩
theorem inR_reverse : ∀ {l : List Vr} {xs : List Int}, inR l xs → inR l.reverse xs.reverse
  | [], [], _ => trivial
  | [], _ :: _, h => h.elim
  | _ :: _, [], h => h.elim
  | v :: l, x :: xs, h => by
    rw [List.reverse_cons, List.reverse_cons]
    exact inR_snoc (inR_reverse h.2.2) h.1 h.2.1
theorem inR_iff (l : List Vr) (xs : List Int) : inR l xs ↔ inR l.reverse xs.reverse :=
  ⟨inR_reverse, fun h => by have := inR_reverse h; rwa [List.reverse_reverse, List.reverse_reverse] at this⟩
theorem rev_le {l : List Vr} (h : ∀ v ∈ l, v.f1 ≤ v.f2) : ∀ v ∈ l.reverse, v.f1 ≤ v.f2 := fun v hv => h v (List.mem_reverse.mp hv)
theorem codeS_rng {l : List Vr} {xs : List Int} (hl : ∀ v ∈ l, v.f1 ≤ v.f2) (h : inS l xs) : 0 ≤ codeS l xs ∧ codeS l xs < cnt l := by
  have := codeR_rng (rev_le hl) (inR_reverse h)
  rwa [cnt_reverse] at this
theorem valS_in {l : List Vr} (c : Int) (h : ∀ v ∈ l, v.f1 ≤ v.f2) : inS l (valS l c) := by
  refine (inR_iff l _).mpr ?_
  unfold valS
  rw [List.reverse_reverse]
  exact valR_in c (rev_le h)
theorem codeS_snoc (l : List Vr) (xs : List Int) (v : Vr) (x : Int) : codeS (l ++ [v]) (xs ++ [x]) = codeS l xs * spn v + (x - v.f1) := by
  simp [codeS, codeR]
theorem inR_get : ∀ {l : List Vr} {xs : List Int}, inR l xs → ∀ (i : Nat) (v : Vr) (x : Int), l[i]? = some v → xs[i]? = some x → v.f1 ≤ x ∧ x ≤ v.f2
  | [], [], _, i, v, x, h, _ => by simp at h
  | [], _ :: _, h, _, _, _, _, _ => h.elim
  | _ :: _, [], h, _, _, _, _, _ => h.elim
  | u :: l, y :: xs, h, 0, v, x, h1, h2 => by
    obtain rfl : u = v := by simpa using h1
    obtain rfl : y = x := by simpa using h2
    exact ⟨h.1, h.2.1⟩
  | u :: l, y :: xs, h, i + 1, v, x, h1, h2 => inR_get h.2.2 i v x (by simpa using h1) (by simpa using h2)
theorem inR_of : ∀ {l : List Vr} {xs : List Int}, xs.length = l.length → (∀ (i : Nat) (v : Vr) (x : Int), l[i]? = some v → xs[i]? = some x → v.f1 ≤ x ∧ x ≤ v.f2) → inR l xs
  | [], [], _, _ => trivial
  | [], _ :: _, h, _ => by simp at h
  | _ :: _, [], h, _ => by simp at h
  | u :: l, y :: xs, h, hh => by
    obtain ⟨a, b⟩ := hh 0 u y rfl rfl
    exact ⟨a, b, inR_of (by simpa using h) fun i v x h1 h2 => hh (i + 1) v x (by simpa using h1) (by simpa using h2)⟩
theorem inR_set {l : List Vr} {xs : List Int} (h : inR l xs) {i : Nat} {v : Vr} (hv : l[i]? = some v) {n : Int} (h0 : v.f1 ≤ n) (h1 : n ≤ v.f2) : inR l (xs.set i n) := by
  have hlen := inR_len h
  have hi : i < l.length := (List.getElem?_eq_some_iff.mp hv).1
  refine inR_of (by simpa using hlen) fun j u x hu hx => ?_
  by_cases e : j = i
  · subst e
    obtain rfl : v = u := Option.some.inj (hv.symm.trans hu)
    rw [List.getElem?_set_self (by omega)] at hx
    obtain rfl := Option.some.inj hx
    exact ⟨h0, h1⟩
  · rw [List.getElem?_set_ne (by omega)] at hx
    exact inR_get h j u x hu hx
end Go.Proofs.YteennleoieafiaaDoor.Q
end
section
namespace Go.Proofs.YteennleoieafiaaDoor.Q
open Go.RowKit Go.Proofs.YteennleoieafiaaDoorW.PrintWords Go.Proofs.YteennleoieafiaaDoorW.PrintMore Go.Proofs.YteennleoieafiaaDoor.P
set_option linter.unusedVariables false
structure VarsOk (l : List Vr) : Prop where
  len : l.length ≤ 6
  nm : ∀ v ∈ l, model_name.ok v.f0 = true
  nd : (l.map fun v => v.f0.data.toList).Nodup
  rng : ∀ v ∈ l, model_variables.rng v
  sp : ∀ v ∈ l, v.f2 - v.f1 < 64
  st : cnt l ≤ 4096
theorem VarsOk.le {l : List Vr} (h : VarsOk l) : ∀ v ∈ l, v.f1 ≤ v.f2 := fun v hv => (h.rng v hv).2.2.1
theorem VarsOk.bd {l : List Vr} (h : VarsOk l) : ∀ v ∈ l, -1000 ≤ v.f1 ∧ v.f2 ≤ 1000 := fun v hv => ⟨(h.rng v hv).1, (h.rng v hv).2.1⟩
theorem spn_pos {v : Vr} (h : v.f1 ≤ v.f2) : 0 < spn v := by unfold spn; omega
theorem go_iff : ∀ (l : List Vr) (seen : List (List UInt8)) (st : Int), 1 ≤ st → (model_variables.go l seen st = 0 ↔ ((∀ v ∈ l, model_name.ok v.f0 = true) ∧ (l.map fun v => v.f0.data.toList).Nodup ∧ (∀ v ∈ l, v.f0.data.toList ∉ seen) ∧ (∀ v ∈ l, model_variables.rng v) ∧ (∀ v ∈ l, v.f2 - v.f1 < 64) ∧ (l = [] ∨ st * cnt l ≤ 4096))) := by
  intro l
  induction l with
  | nil => intro seen st h; simp [model_variables.go]
  | cons v l ih =>
    intro seen st hst
    unfold model_variables.go
    by_cases c1 : model_name.ok v.f0 = false
    · rw [if_pos c1]
      refine ⟨fun h => absurd h (by decide), fun h => ?_⟩
      have := h.1 v List.mem_cons_self
      rw [c1] at this
      cases this
    rw [if_neg c1]
    have c1' : model_name.ok v.f0 = true := by simpa using c1
    by_cases c2 : v.f0.data.toList ∈ seen
    · rw [if_pos c2]
      exact ⟨fun h => absurd h (by decide), fun h => absurd c2 (h.2.2.1 v List.mem_cons_self)⟩
    rw [if_neg c2]
    by_cases c3n : ¬ model_variables.rng v
    · rw [if_pos c3n]
      exact ⟨fun h => absurd h (by decide), fun h => absurd (h.2.2.2.1 v List.mem_cons_self) c3n⟩
    have c3 : model_variables.rng v := Decidable.not_not.mp c3n
    rw [if_neg c3n]
    by_cases c4 : v.f2 - v.f1 ≥ 64
    · rw [if_pos c4]
      exact ⟨fun h => absurd h (by decide), fun h => absurd (h.2.2.2.2.1 v List.mem_cons_self) (by omega)⟩
    rw [if_neg c4]
    have hle : v.f1 ≤ v.f2 := c3.2.2.1
    have hs := spn_pos hle
    have hsp : v.f2 - v.f1 + 1 = spn v := rfl
    rw [hsp]
    have hst1 : 1 ≤ st * spn v := by
      have : st * 1 ≤ st * spn v := Int.mul_le_mul_of_nonneg_left hs (by omega)
      omega
    by_cases c5 : st * spn v > 4096
    · rw [if_pos c5]
      refine ⟨fun h => absurd h (by decide), fun h => ?_⟩
      have hpos := cnt_pos (l := l) (fun u hu => (h.2.2.2.1 u (List.mem_cons_of_mem _ hu)).2.2.1)
      have h6 := h.2.2.2.2.2
      rcases h6 with h6 | h6
      · cases h6
      · rw [cnt, Int.mul_comm (cnt l), ← Int.mul_assoc] at h6
        have : st * spn v * 1 ≤ st * spn v * cnt l := Int.mul_le_mul_of_nonneg_left hpos (by omega)
        omega
    rw [if_neg c5, ih _ _ hst1]
    have hmul : st * cnt (v :: l) = st * spn v * cnt l := by rw [cnt, Int.mul_comm (cnt l), ← Int.mul_assoc]
    constructor
    · rintro ⟨h1, h2, h3, h4, h5, h6⟩
      refine ⟨?_, ?_, ?_, ?_, ?_, .inr ?_⟩
      · intro u hu
        rcases List.mem_cons.mp hu with rfl | hu
        · exact c1'
        · exact h1 u hu
      · rw [List.map_cons, List.nodup_cons]
        refine ⟨fun hm => ?_, h2⟩
        obtain ⟨u, hu, e⟩ := List.mem_map.mp hm
        exact h3 u hu (by rw [e]; simp)
      · intro u hu
        rcases List.mem_cons.mp hu with rfl | hu
        · exact c2
        · exact fun hm => h3 u hu (List.mem_append_left _ hm)
      · intro u hu
        rcases List.mem_cons.mp hu with rfl | hu
        · exact c3
        · exact h4 u hu
      · intro u hu
        rcases List.mem_cons.mp hu with rfl | hu
        · omega
        · exact h5 u hu
      · rw [hmul]
        rcases h6 with rfl | h6
        · rw [cnt]; omega
        · exact h6
    · rintro ⟨h1, h2, h3, h4, h5, h6⟩
      rw [List.map_cons, List.nodup_cons] at h2
      refine ⟨fun u hu => h1 u (List.mem_cons_of_mem _ hu), h2.2, fun u hu hm => ?_, fun u hu => h4 u (List.mem_cons_of_mem _ hu), fun u hu => h5 u (List.mem_cons_of_mem _ hu), .inr ?_⟩
      · rcases List.mem_append.mp hm with hm | hm
        · exact h3 u (List.mem_cons_of_mem _ hu) hm
        · exact h2.1 (List.mem_map.mpr ⟨u, hu, by simpa using hm⟩)
      · rcases h6 with h6 | h6
        · cases h6
        · rwa [hmul] at h6
theorem vars_iff (k : Nat) (l : List Vr) : model_variables.f k l = some 0 ↔ VarsOk l := by
  unfold model_variables.f
  by_cases c : (l.length : Int) > 6
  · rw [if_pos c]
    exact ⟨fun h => absurd (Option.some.inj h) (by decide), fun h => absurd h.len (by omega)⟩
  rw [if_neg c]
  constructor
  · intro h
    obtain ⟨h1, h2, _, h4, h5, h6⟩ := (go_iff l [] 1 (by decide)).mp (Option.some.inj h)
    refine ⟨by omega, h1, h2, h4, h5, ?_⟩
    rcases h6 with rfl | h6
    · decide
    · omega
  · intro h
    congr 1
    exact (go_iff l [] 1 (by decide)).mpr ⟨h.nm, h.nd, fun _ _ => by simp, h.rng, h.sp, .inr (by have := h.st; omega)⟩
structure OwnVar (nm : ByteArray) (v : Vr) : Prop where
  name : v.f0 = nm
  lo : -1 ≤ v.f1 ∧ v.f1 ≤ 1
  hi : v.f1 ≤ v.f2 ∧ v.f2 ≤ v.f1 + 3
  ini : v.f1 ≤ v.f3 ∧ v.f3 ≤ v.f2
theorem OwnVar.rng {nm : ByteArray} {v : Vr} (h : OwnVar nm v) : model_variables.rng v := by
  obtain ⟨_, h1, h2, h3⟩ := h
  unfold model_variables.rng
  omega
theorem OwnVar.spn {nm : ByteArray} {v : Vr} (h : OwnVar nm v) : 1 ≤ spn v ∧ spn v ≤ 4 := by
  obtain ⟨_, h1, h2, h3⟩ := h
  unfold Q.spn
  omega
end Go.Proofs.YteennleoieafiaaDoor.Q
end
section
namespace Go.Proofs.YteennleoieafiaaDoor.Q
open Go.RowKit Go.Proofs.YteennleoieafiaaDoorW.PrintWords Go.Proofs.YteennleoieafiaaDoorW.PrintMore Go.Proofs.YteennleoieafiaaDoor.P
set_option linter.unusedVariables false
abbrev Op := S35
abbrev Raw := S97
inductive Tm
  | leaf (o : Op)
  | un (o : Op) (a : Tm)
  | bin (o : Op) (a b : Tm)
def Tm.flat : Tm → List Op
  | .leaf o => [o]
  | .un o a => o :: a.flat
  | .bin o a b => o :: (a.flat ++ b.flat)
def Tm.size : Tm → Nat
  | .leaf _ => 1
  | .un _ a => a.size + 1
  | .bin _ a b => a.size + b.size + 1
theorem Tm.flat_len : ∀ t : Tm, t.flat.length = t.size
  | .leaf _ => rfl
  | .un _ a => by simp [Tm.flat, Tm.size, Tm.flat_len a]
  | .bin _ a b => by simp [Tm.flat, Tm.size, Tm.flat_len a, Tm.flat_len b]
theorem Tm.size_pos (t : Tm) : 0 < t.size := by cases t <;> simp [Tm.size]
def Tm.ok : Tm → Prop
  | .leaf o => 1 ≤ o.f0 ∧ o.f0 ≤ 18 ∧ polish_Parts.tab.getD o.f0.toNat 0 = 0
  | .un o a => 1 ≤ o.f0 ∧ o.f0 ≤ 18 ∧ polish_Parts.tab.getD o.f0.toNat 0 = 1 ∧ a.ok
  | .bin o a b => 1 ≤ o.f0 ∧ o.f0 ≤ 18 ∧ polish_Parts.tab.getD o.f0.toNat 0 = 2 ∧ a.ok ∧ b.ok
def Tm.ends : Int → Tm → List Int
  | p, .leaf _ => [p + 1]
  | p, .un _ a => (p + 1 + a.size) :: a.ends (p + 1)
  | p, .bin _ a b => (p + 1 + a.size + b.size) :: (a.ends (p + 1) ++ b.ends (p + 1 + a.size))
theorem Tm.ends_len : ∀ (t : Tm) (p : Int), (t.ends p).length = t.size
  | .leaf _, _ => rfl
  | .un _ a, p => by simp [Tm.ends, Tm.size, Tm.ends_len a]
  | .bin _ a b, p => by simp [Tm.ends, Tm.size, Tm.ends_len a, Tm.ends_len b]
theorem rdT_at {l pre post : List Op} {o : Op} (h : l = pre ++ o :: post) {p : Int} (hp : p = (pre.length : Int)) : rd_T35 l p = o := by
  subst h; subst hp
  unfold rd_T35
  rw [Int.toNat_natCast, List.getD_eq_getElem?_getD, List.getElem?_append_right (Nat.le_refl _)]
  simp
theorem skip_ok : ∀ (t : Tm), t.ok → ∀ (l pre post : List Op) (A M B : List Int) (p : Int), l = pre ++ (t.flat ++ post) → p = (pre.length : Int) → A.length = pre.length → M.length = t.size → l.length ≤ 1000000 →
    Ev (fun k => polish_skip.f k l p (A ++ (M ++ B))) (0, p + t.size, A ++ (t.ends p ++ B)) := by
  intro t
  induction t with
  | leaf o =>
    intro hok l pre post A M B p hl hp hA hM hlen
    obtain ⟨h1, h2, h3⟩ := hok
    have hrd : rd_T35 l p = o := rdT_at (post := post) hl hp
    have hll : l.length = pre.length + (1 + post.length) := by rw [hl]; simp [Tm.flat]; omega
    obtain ⟨m, rfl⟩ : ∃ m, M = [m] := by
      cases M with
      | nil => simp [Tm.size] at hM
      | cons m M => cases M with
        | nil => exact ⟨m, rfl⟩
        | cons _ _ => simp [Tm.size] at hM
    refine Ev.step (f := fun k => polish_skip.l k l p 0 0 (p + 1) (A ++ ([m] ++ B))) (fun k => ?_) (Ev.step (f := fun _ => some (0, p + 1, A ++ ([p + 1] ++ B))) (fun k => ?_) (Ev.now _))
    · simp only [polish_skip.f, hrd, h3]
      rw [if_pos (by omega), if_pos (by omega), if_neg (by omega), if_neg (by omega), w64 (n := p + 1) (by omega) (by omega)]
    · simp only [polish_skip.l]
      rw [if_neg (by omega), if_pos (by simp; omega)]
      congr 3
      rw [hp, Int.toNat_natCast, ← hA]
      simp
  | un o a iha =>
    intro hok l pre post A M B p hl hp hA hM hlen
    obtain ⟨h1, h2, h3, h4⟩ := hok
    have hrd : rd_T35 l p = o := rdT_at (post := a.flat ++ post) (by rw [hl]; rfl) hp
    have hll : l.length = pre.length + (1 + a.size + post.length) := by rw [hl]; simp [Tm.flat, Tm.flat_len]; omega
    obtain ⟨m, M', rfl⟩ : ∃ m M', M = m :: M' := by
      cases M with
      | nil => simp [Tm.size] at hM
      | cons m M => exact ⟨m, M, rfl⟩
    have hM' : M'.length = a.size := by simp [Tm.size] at hM; omega
    have ha := iha h4 l (pre ++ [o]) post (A ++ [m]) M' B (p + 1) (by rw [hl]; simp [Tm.flat]) (by rw [List.length_append]; simp; omega) (by simp [hA]) hM' hlen
    have hfin : Ev (fun k => polish_skip.l k l p 1 1 (p + 1 + a.size) ((A ++ [m]) ++ (a.ends (p + 1) ++ B))) (0, p + (Tm.un o a).size, A ++ ((Tm.un o a).ends p ++ B)) := by
      refine Ev.step (f := fun _ => some (0, p + (Tm.un o a).size, A ++ ((Tm.un o a).ends p ++ B))) (fun k => ?_) (Ev.now _)
      simp only [polish_skip.l]
      rw [if_neg (by omega), if_pos (by simp; omega)]
      have e : (A ++ [m] ++ (a.ends (p + 1) ++ B)).set p.toNat (p + 1 + a.size) = A ++ ((p + 1 + a.size) :: a.ends (p + 1) ++ B) := by
        rw [hp, Int.toNat_natCast, ← hA]
        simp
      rw [e]
      refine congrArg some (Prod.ext rfl (Prod.ext ?_ rfl))
      show p + 1 + (a.size : Int) = p + ((a.size + 1 : Nat) : Int)
      omega
    refine Ev.step (f := fun k => polish_skip.l k l p 1 0 (p + 1) (A ++ (m :: M' ++ B))) (fun k => ?_) ?_
    · simp only [polish_skip.f, hrd, h3]
      rw [if_pos (by omega), if_pos (by omega), if_neg (by omega), if_neg (by omega), w64 (n := p + 1) (by omega) (by omega)]
    refine Ev.step (f := fun k => (polish_skip.f k l (p + 1) ((A ++ [m]) ++ (M' ++ B))).bind fun r => if r.1 = 0 then polish_skip.l k l p 1 1 r.2.1 r.2.2 else some (r.1, 0, r.2.2)) (fun k => ?_) (Ev.bind ha ?_)
    · simp only [polish_skip.l]
      rw [if_pos (by omega), w64 (n := (0 : Int) + 1) (by omega) (by omega)]
      simp
    · simp only [if_true]
      exact hfin
  | bin o a b iha ihb =>
    intro hok l pre post A M B p hl hp hA hM hlen
    obtain ⟨h1, h2, h3, h4, h5⟩ := hok
    have hrd : rd_T35 l p = o := rdT_at (post := a.flat ++ b.flat ++ post) (by rw [hl]; rfl) hp
    have hll : l.length = pre.length + (1 + a.size + b.size + post.length) := by rw [hl]; simp [Tm.flat, Tm.flat_len]; omega
    obtain ⟨m, M', rfl⟩ : ∃ m M', M = m :: M' := by
      cases M with
      | nil => simp [Tm.size] at hM
      | cons m M => exact ⟨m, M, rfl⟩
    obtain ⟨Ma, Mb, rfl, hMa, hMb⟩ : ∃ Ma Mb, M' = Ma ++ Mb ∧ Ma.length = a.size ∧ Mb.length = b.size := by
      refine ⟨M'.take a.size, M'.drop a.size, (List.take_append_drop _ _).symm, ?_, ?_⟩
      · simp [Tm.size] at hM; rw [List.length_take]; omega
      · simp [Tm.size] at hM; rw [List.length_drop]; omega
    have ha := iha h4 l (pre ++ [o]) (b.flat ++ post) (A ++ [m]) Ma (Mb ++ B) (p + 1) (by rw [hl]; simp [Tm.flat]) (by rw [List.length_append]; simp; omega) (by simp [hA]) hMa hlen
    have hb := ihb h5 l (pre ++ [o] ++ a.flat) post (A ++ [m] ++ a.ends (p + 1)) Mb B (p + 1 + a.size) (by rw [hl]; simp [Tm.flat]) (by simp [Tm.flat_len]; omega) (by simp [hA, Tm.flat_len, Tm.ends_len]) hMb hlen
    have hfin : Ev (fun k => polish_skip.l k l p 2 2 (p + 1 + a.size + b.size) ((A ++ [m] ++ a.ends (p + 1)) ++ (b.ends (p + 1 + a.size) ++ B))) (0, p + (Tm.bin o a b).size, A ++ ((Tm.bin o a b).ends p ++ B)) := by
      refine Ev.step (f := fun _ => some (0, p + (Tm.bin o a b).size, A ++ ((Tm.bin o a b).ends p ++ B))) (fun k => ?_) (Ev.now _)
      simp only [polish_skip.l]
      rw [if_neg (by omega), if_pos (by simp; omega)]
      have e : (A ++ [m] ++ a.ends (p + 1) ++ (b.ends (p + 1 + a.size) ++ B)).set p.toNat (p + 1 + a.size + b.size) = A ++ ((p + 1 + a.size + b.size) :: (a.ends (p + 1) ++ b.ends (p + 1 + a.size)) ++ B) := by
        rw [hp, Int.toNat_natCast, ← hA]
        simp
      rw [e]
      refine congrArg some (Prod.ext rfl (Prod.ext ?_ rfl))
      show p + 1 + (a.size : Int) + b.size = p + ((a.size + b.size + 1 : Nat) : Int)
      omega
    refine Ev.step (f := fun k => polish_skip.l k l p 2 0 (p + 1) (A ++ (m :: (Ma ++ Mb) ++ B))) (fun k => ?_) ?_
    · simp only [polish_skip.f, hrd, h3]
      rw [if_pos (by omega), if_pos (by omega), if_neg (by omega), if_neg (by omega), w64 (n := p + 1) (by omega) (by omega)]
    refine Ev.step (f := fun k => (polish_skip.f k l (p + 1) ((A ++ [m]) ++ (Ma ++ (Mb ++ B)))).bind fun r => if r.1 = 0 then polish_skip.l k l p 2 1 r.2.1 r.2.2 else some (r.1, 0, r.2.2)) (fun k => ?_) (Ev.bind ha ?_)
    · simp only [polish_skip.l]
      rw [if_pos (by omega), w64 (n := (0 : Int) + 1) (by omega) (by omega)]
      simp
    simp only [if_true]
    refine Ev.step (f := fun k => (polish_skip.f k l (p + 1 + a.size) ((A ++ [m] ++ a.ends (p + 1)) ++ (Mb ++ B))).bind fun r => if r.1 = 0 then polish_skip.l k l p 2 2 r.2.1 r.2.2 else some (r.1, 0, r.2.2)) (fun k => ?_) (Ev.bind hb ?_)
    · simp only [polish_skip.l]
      rw [if_pos (by omega), w64 (n := (1 : Int) + 1) (by omega) (by omega)]
      simp
    · simp only [if_true]
      exact hfin
theorem ends_ok (t : Tm) (h : t.ok) (hs : t.size ≤ 60) : Ev (fun k => polish_Ends.f k t.flat) (t.ends 0, 0) := by
  have hl := t.flat_len
  unfold polish_Ends.f
  simp only [if_neg (show ¬ (60 < (t.flat.length : Int)) by omega)]
  refine Ev.bind (a := ((0 : Int), (t.size : Int), t.ends 0)) ?_ ?_
  · have := skip_ok t h t.flat [] [] [] (List.replicate t.flat.length 0) [] 0 (by simp) rfl rfl (by simp [hl]) (by omega)
    simpa using this
  · simp only [if_true, hl]
    exact Ev.now _
end Go.Proofs.YteennleoieafiaaDoor.Q
end
section
namespace Go.Proofs.YteennleoieafiaaDoor.Q
open Go.RowKit Go.Proofs.YteennleoieafiaaDoorW.PrintWords Go.Proofs.YteennleoieafiaaDoorW.PrintMore Go.Proofs.YteennleoieafiaaDoor.P
set_option linter.unusedVariables false
def rawWf (raw : List Raw) : Prop := ∀ y ∈ raw, ((Lit.int .i64 y.f0).wf = true ∧ (Lit.int .i64 y.f1).wf = true)
theorem take_is {raw : List Raw} (hw : rawWf raw) (a tp : Int) (out : List Op) (h0 : 0 ≤ a) (h1 : a ≤ 1000000) : ∃ r : Raw, grown_take.f raw ⟨a, tp, out⟩ = some (r, ⟨a + 1, tp, out⟩) ∧ (Lit.int .i64 r.f0).wf = true ∧ (Lit.int .i64 r.f1).wf = true := by
  unfold grown_take.f
  simp only [w64 (n := a + 1) (by omega) (by omega)]
  by_cases c : a < (raw.length : Int)
  · rw [if_pos c, if_pos h0]
    have hm : rd_T97 raw a ∈ raw := by
      unfold rd_T97
      rw [List.getD_eq_getElem?_getD, List.getElem?_eq_getElem (show a.toNat < raw.length by omega)]
      exact List.getElem_mem _
    exact ⟨_, rfl, (hw _ hm).1, (hw _ hm).2⟩
  · rw [if_neg c]
    exact ⟨⟨0, 0⟩, rfl, by decide, by decide⟩
theorem put_ok (a tp : Int) (out : List Op) (kind value : Int) (h : out.length ≤ 1000000) : grown_put.f ⟨a, tp, out⟩ kind value = some ⟨a, tp, out ++ [⟨kind, value⟩]⟩ := by
  unfold grown_put.f
  rw [if_pos (show out.length < 8796093022208 by omega)]
end Go.Proofs.YteennleoieafiaaDoor.Q
end
section
namespace Go.Proofs.YteennleoieafiaaDoor.Q
open Go.RowKit Go.Proofs.YteennleoieafiaaDoorW.PrintWords Go.Proofs.YteennleoieafiaaDoorW.PrintMore Go.Proofs.YteennleoieafiaaDoor.P
set_option linter.unusedVariables false
inductive NumT (vars : Int) : Tm → Prop
  | num (v : Int) (h0 : -4 ≤ v) (h1 : v ≤ 4) : NumT vars (.leaf ⟨1, v⟩)
  | var (v : Int) (h0 : 0 ≤ v) (h1 : v < vars) : NumT vars (.leaf ⟨2, v⟩)
  | bin (o : Int) (a b : Tm) (h0 : 3 ≤ o) (h1 : o ≤ 5) (ha : NumT vars a) (hb : NumT vars b) : NumT vars (.bin ⟨o, 0⟩ a b)
inductive TruthT (vars : Int) : Tm → Prop
  | yes (o : Int) (h : o = 11 ∨ o = 12) : TruthT vars (.leaf ⟨o, 0⟩)
  | cmp (o : Int) (a b : Tm) (h : o = 6 ∨ o = 7) (ha : NumT vars a) (hb : NumT vars b) (hs : a.size ≤ 3 ∧ b.size ≤ 3) : TruthT vars (.bin ⟨o, 0⟩ a b)
  | not (a : Tm) (ha : TruthT vars a) : TruthT vars (.un ⟨10, 0⟩ a)
  | log (o : Int) (a b : Tm) (h : o = 8 ∨ o = 9) (ha : TruthT vars a) (hb : TruthT vars b) : TruthT vars (.bin ⟨o, 0⟩ a b)
theorem NumT.ok {vars : Int} {t : Tm} (h : NumT vars t) : t.ok := by
  induction h with
  | num v => exact ⟨(by decide : (1 : Int) ≤ 1), (by decide : (1 : Int) ≤ 18), (by decide : polish_Parts.tab.getD (1 : Int).toNat 0 = 0)⟩
  | var v => exact ⟨(by decide : (1 : Int) ≤ 2), (by decide : (2 : Int) ≤ 18), (by decide : polish_Parts.tab.getD (2 : Int).toNat 0 = 0)⟩
  | bin o a b h0 h1 _ _ iha ihb =>
    have : o = 3 ∨ o = 4 ∨ o = 5 := by omega
    rcases this with rfl | rfl | rfl <;> exact ⟨by decide, by decide, by decide, iha, ihb⟩
theorem TruthT.ok {vars : Int} {t : Tm} (h : TruthT vars t) : t.ok := by
  induction h with
  | yes o h => rcases h with rfl | rfl <;> exact ⟨by decide, by decide, by decide⟩
  | cmp o a b h ha hb _ => rcases h with rfl | rfl <;> exact ⟨by decide, by decide, by decide, ha.ok, hb.ok⟩
  | not a _ ih => exact ⟨by decide, by decide, by decide, ih⟩
  | log o a b h _ _ iha ihb => rcases h with rfl | rfl <;> exact ⟨by decide, by decide, by decide, iha, ihb⟩
theorem number_gen {raw : List Raw} (hw : rawWf raw) (vars : Int) (hv : vars ≤ 100) : ∀ (d : Nat), d ≤ 3 → ∀ (a tp : Int) (out : List Op), 0 ≤ a → a + (2 ^ (d + 1) : Nat) ≤ 100000 → out.length + 2 ^ (d + 1) ≤ 100000 →
    ∃ t, NumT vars t ∧ t.size + 1 ≤ 2 ^ (d + 1) ∧ (14 ≤ a → t.size = 1) ∧ Ev (fun k => grown_number.f k raw vars ⟨a, tp, out⟩ (d : Int)) ⟨a + t.size, tp, out ++ t.flat⟩ := by
  intro d
  induction d with
  | zero =>
    intro _ a tp out h0 h1 ho
    obtain ⟨r, hr, w0, w1⟩ := take_is hw a tp out h0 (by omega)
    have p5 := picked_is w0 (m := 5) (by decide)
    have p2 := picked_is w0 (m := 2) (by decide)
    have l2 := pk_lo r.f0 (m := 2) (by decide)
    have u2 := pk_hi r.f0 (m := 2) (by decide)
    generalize pk r.f0 2 = op at *
    by_cases c : op = 1 ∧ 0 < vars
    · have pv := picked_is w1 (m := vars) c.2
      have lv := pk_lo r.f1 c.2
      have uv := pk_hi r.f1 c.2
      generalize pk r.f1 vars = v at *
      refine ⟨.leaf ⟨2, v⟩, .var v lv uv, by simp [Tm.size], fun _ => rfl, Ev.step (f := fun _ => some ⟨a + 1, tp, out ++ [⟨2, v⟩]⟩) (fun k => ?_) (Ev.now _)⟩
      simp only [grown_number.f, hr, p5, p2, Option.bind_some]
      rw [if_pos (.inl rfl), Option.bind_some, if_pos c, pv, Option.bind_some, put_ok _ _ _ _ _ (by omega)]
    · have pv := picked_is w1 (m := 9) (by decide)
      have lv := pk_lo r.f1 (m := 9) (by decide)
      have uv := pk_hi r.f1 (m := 9) (by decide)
      generalize pk r.f1 9 = v at *
      refine ⟨.leaf ⟨1, v - 4⟩, .num (v - 4) (by omega) (by omega), by simp [Tm.size], fun _ => rfl, Ev.step (f := fun _ => some ⟨a + 1, tp, out ++ [⟨1, v - 4⟩]⟩) (fun k => ?_) (Ev.now _)⟩
      simp only [grown_number.f, hr, p5, p2, Option.bind_some]
      rw [if_pos (.inl rfl), Option.bind_some, if_neg c, if_pos (by omega), pv, Option.bind_some, w64 (n := v - 4) (by omega) (by omega), put_ok _ _ _ _ _ (by omega)]
  | succ d ih =>
    intro hd a tp out h0 h1 ho
    have hpow : 2 ≤ 2 ^ (d + 1) := by
      have : 2 ^ (d + 1) = 2 ^ d * 2 := Nat.pow_succ 2 d
      have : 0 < 2 ^ d := Nat.pow_pos (by decide)
      omega
    have hpow2 : 2 ^ (d + 1 + 1) = 2 ^ (d + 1) * 2 := Nat.pow_succ 2 (d + 1)
    have hpow3 : 2 ^ (d + 1) ≤ 8 := by
      have : d + 1 ≤ 3 := hd
      exact Nat.pow_le_pow_right (by decide) this
    obtain ⟨r, hr, w0, w1⟩ := take_is hw a tp out h0 (by omega)
    have p5 := picked_is w0 (m := 5) (by decide)
    have p2 := picked_is w0 (m := 2) (by decide)
    have l2 := pk_lo r.f0 (m := 2) (by decide)
    have u2 := pk_hi r.f0 (m := 2) (by decide)
    have l5 := pk_lo r.f0 (m := 5) (by decide)
    have u5 := pk_hi r.f0 (m := 5) (by decide)
    obtain ⟨op, hop, o0, o1, o2⟩ : ∃ op : Int, (if ((d + 1 : Nat) : Int) = 0 ∨ 14 < a + 1 then foretellkeep_picked.f r.f0 2 else some (pk r.f0 5)) = some op ∧ 0 ≤ op ∧ op < 5 ∧ (14 ≤ a → op < 2) := by
      by_cases c : ((d + 1 : Nat) : Int) = 0 ∨ 14 < a + 1
      · rw [if_pos c, p2]
        exact ⟨_, rfl, l2, by omega, fun _ => u2⟩
      · rw [if_neg c]
        exact ⟨_, rfl, l5, u5, by omega⟩
    by_cases c : op = 1 ∧ 0 < vars
    · have pv := picked_is w1 (m := vars) c.2
      have lv := pk_lo r.f1 c.2
      have uv := pk_hi r.f1 c.2
      generalize pk r.f1 vars = v at *
      refine ⟨.leaf ⟨2, v⟩, .var v lv uv, by simp [Tm.size]; omega, fun _ => rfl, Ev.step (f := fun _ => some ⟨a + 1, tp, out ++ [⟨2, v⟩]⟩) (fun k => ?_) (Ev.now _)⟩
      simp only [grown_number.f, hr, p5, Option.bind_some]
      rw [hop, Option.bind_some, if_pos c, pv, Option.bind_some, put_ok _ _ _ _ _ (by omega)]
    · by_cases c2 : op < 2
      · have pv := picked_is w1 (m := 9) (by decide)
        have lv := pk_lo r.f1 (m := 9) (by decide)
        have uv := pk_hi r.f1 (m := 9) (by decide)
        generalize pk r.f1 9 = v at *
        refine ⟨.leaf ⟨1, v - 4⟩, .num (v - 4) (by omega) (by omega), by simp [Tm.size]; omega, fun _ => rfl, Ev.step (f := fun _ => some ⟨a + 1, tp, out ++ [⟨1, v - 4⟩]⟩) (fun k => ?_) (Ev.now _)⟩
        simp only [grown_number.f, hr, p5, Option.bind_some]
        rw [hop, Option.bind_some, if_neg c, if_pos c2, pv, Option.bind_some, w64 (n := v - 4) (by omega) (by omega), put_ok _ _ _ _ _ (by omega)]
      · obtain ⟨t1, n1, s1, _, e1⟩ := ih (by omega) (a + 1) tp (out ++ [⟨1 + op, 0⟩]) (by omega) (by omega) (by rw [List.length_append, List.length_singleton]; omega)
        obtain ⟨t2, n2, s2, _, e2⟩ := ih (by omega) (a + 1 + t1.size) tp (out ++ [⟨1 + op, 0⟩] ++ t1.flat) (by omega) (by omega) (by rw [List.length_append, List.length_append, List.length_singleton, Tm.flat_len]; omega)
        refine ⟨.bin ⟨1 + op, 0⟩ t1 t2, .bin _ _ _ (by omega) (by omega) n1 n2, by simp only [Tm.size]; omega, fun h => by have := o2 h; omega, ?_⟩
        refine Ev.step (f := fun k => (grown_number.f k raw vars ⟨a + 1, tp, out ++ [⟨1 + op, 0⟩]⟩ (d : Int)).bind fun s2 => grown_number.f k raw vars s2 (d : Int)) (fun k => ?_) (Ev.bind e1 ?_)
        · simp only [grown_number.f, hr, p5, Option.bind_some]
          rw [hop, Option.bind_some, if_neg c, if_neg c2, w64 (n := 3 + op) (by omega) (by omega), w64 (n := 3 + op - 2) (by omega) (by omega), put_ok _ _ _ _ _ (by omega), Option.bind_some, w64 (n := ((d + 1 : Nat) : Int) - 1) (by omega) (by omega), show ((d + 1 : Nat) : Int) - 1 = (d : Int) by omega, show 3 + op - 2 = 1 + op by omega]
        · have e : (⟨a + (Tm.bin ⟨1 + op, 0⟩ t1 t2).size, tp, out ++ (Tm.bin ⟨1 + op, 0⟩ t1 t2).flat⟩ : GrSt) = ⟨a + 1 + t1.size + t2.size, tp, out ++ [⟨1 + op, 0⟩] ++ t1.flat ++ t2.flat⟩ := by
            simp [Tm.size, Tm.flat]
            omega
          rw [e]
          exact e2
theorem truth_gen {raw : List Raw} (hw : rawWf raw) (vars : Int) (hv : vars ≤ 100) : ∀ (d : Nat) (a tp : Int) (out : List Op), d ≤ 10 → 0 ≤ a → a + 1000 * d ≤ 40000 → out.length + 1000 * d ≤ 40000 →
    ∃ t, TruthT vars t ∧ ((a ≤ 9 → a + t.size ≤ 16 + 3 * d) ∧ (10 ≤ a → t.size ≤ 6) ∧ (13 ≤ a → t.size ≤ 3)) ∧ Ev (fun k => grown_truth.f k raw vars ⟨a, tp, out⟩ (d : Int)) ⟨a + t.size, tp, out ++ t.flat⟩ := by
  have hcmp : ∀ (o : Int), (o = 6 ∨ o = 7) → ∀ (a tp : Int) (out : List Op), 0 ≤ a → a ≤ 50000 → out.length ≤ 50000 →
      ∃ t, TruthT vars t ∧ (t.size ≤ 7 ∧ (10 ≤ a → t.size ≤ 6) ∧ (13 ≤ a → t.size ≤ 3)) ∧ Ev (fun k => (grown_number.f k raw vars ⟨a + 1, tp, out ++ [⟨o, 0⟩]⟩ 1).bind fun s2 => grown_number.f k raw vars s2 1) ⟨a + t.size, tp, out ++ t.flat⟩ := by
    intro o ho a tp out h0 h1 hl
    obtain ⟨t1, n1, s1, z1, e1⟩ := number_gen hw vars hv 1 (by decide) (a + 1) tp (out ++ [⟨o, 0⟩]) (by omega) (by omega) (by rw [List.length_append, List.length_singleton]; omega)
    obtain ⟨t2, n2, s2, z2, e2⟩ := number_gen hw vars hv 1 (by decide) (a + 1 + t1.size) tp (out ++ [⟨o, 0⟩] ++ t1.flat) (by omega) (by omega) (by rw [List.length_append, List.length_append, List.length_singleton, Tm.flat_len]; omega)
    have q1 := t1.size_pos
    have q2 := t2.size_pos
    refine ⟨.bin ⟨o, 0⟩ t1 t2, .cmp _ _ _ ho n1 n2 ⟨by omega, by omega⟩, by simp only [Tm.size]; refine ⟨?_, ?_, ?_⟩ <;> omega, Ev.bind e1 ?_⟩
    have e : (⟨a + (Tm.bin ⟨o, 0⟩ t1 t2).size, tp, out ++ (Tm.bin ⟨o, 0⟩ t1 t2).flat⟩ : GrSt) = ⟨a + 1 + t1.size + t2.size, tp, out ++ [⟨o, 0⟩] ++ t1.flat ++ t2.flat⟩ := by
      simp [Tm.size, Tm.flat]
      omega
    rw [e]
    exact e2
  intro d
  induction d with
  | zero =>
    intro a tp out hd h0 h1 ho
    obtain ⟨r, hr, w0, w1⟩ := take_is hw a tp out h0 (by omega)
    have p9 := picked_is w0 (m := 9) (by decide)
    have p3 := picked_is w0 (m := 3) (by decide)
    have l3 := pk_lo r.f0 (m := 3) (by decide)
    have u3 := pk_hi r.f0 (m := 3) (by decide)
    generalize pk r.f0 3 = op at *
    have hop : op = 0 ∨ op = 1 ∨ op = 2 := by omega
    rcases hop with rfl | rfl | rfl
    · have pv := picked_is w1 (m := 2) (by decide)
      have lv := pk_lo r.f1 (m := 2) (by decide)
      have uv := pk_hi r.f1 (m := 2) (by decide)
      generalize pk r.f1 2 = v at *
      refine ⟨.leaf ⟨11 + v, 0⟩, .yes _ (by omega), by simp only [Tm.size]; refine ⟨?_, ?_, ?_⟩ <;> omega, Ev.step (f := fun _ => some ⟨a + 1, tp, out ++ [⟨11 + v, 0⟩]⟩) (fun k => ?_) (Ev.now _)⟩
      simp only [grown_truth.f, hr, p9, p3, Option.bind_some]
      rw [if_pos (.inl rfl), Option.bind_some, if_pos rfl, pv, Option.bind_some, w64 (n := 11 + v) (by omega) (by omega), put_ok _ _ _ _ _ (by omega)]
    · obtain ⟨t, ht, hs, he⟩ := hcmp 7 (.inr rfl) a tp out h0 (by omega) (by omega)
      refine ⟨t, ht, by omega, Ev.step (fun k => ?_) he⟩
      simp only [grown_truth.f, hr, p9, p3, Option.bind_some]
      rw [if_pos (.inl rfl), Option.bind_some, if_neg (by decide), if_pos (.inl rfl), put_ok _ _ _ _ _ (by omega), Option.bind_some]
    · obtain ⟨t, ht, hs, he⟩ := hcmp 6 (.inl rfl) a tp out h0 (by omega) (by omega)
      refine ⟨t, ht, by omega, Ev.step (fun k => ?_) he⟩
      simp only [grown_truth.f, hr, p9, p3, Option.bind_some]
      rw [if_pos (.inl rfl), Option.bind_some, if_neg (by decide), if_neg (by decide), if_pos (.inl rfl), put_ok _ _ _ _ _ (by omega), Option.bind_some]
  | succ d ih =>
    intro a tp out hd h0 h1 ho
    obtain ⟨r, hr, w0, w1⟩ := take_is hw a tp out h0 (by omega)
    have p9 := picked_is w0 (m := 9) (by decide)
    have p3 := picked_is w0 (m := 3) (by decide)
    have l3 := pk_lo r.f0 (m := 3) (by decide)
    have u3 := pk_hi r.f0 (m := 3) (by decide)
    have l9 := pk_lo r.f0 (m := 9) (by decide)
    have u9 := pk_hi r.f0 (m := 9) (by decide)
    obtain ⟨op, hop, o0, o1, o2⟩ : ∃ op : Int, (if ((d + 1 : Nat) : Int) = 0 ∨ 10 < a + 1 then foretellkeep_picked.f r.f0 3 else some (pk r.f0 9)) = some op ∧ 0 ≤ op ∧ op < 9 ∧ (10 ≤ a → op < 3) := by
      by_cases c : ((d + 1 : Nat) : Int) = 0 ∨ 10 < a + 1
      · rw [if_pos c, p3]
        exact ⟨_, rfl, l3, by omega, fun _ => u3⟩
      · rw [if_neg c]
        exact ⟨_, rfl, l9, u9, by omega⟩
    by_cases c0 : op = 0
    · have pv := picked_is w1 (m := 2) (by decide)
      have lv := pk_lo r.f1 (m := 2) (by decide)
      have uv := pk_hi r.f1 (m := 2) (by decide)
      generalize pk r.f1 2 = v at *
      refine ⟨.leaf ⟨11 + v, 0⟩, .yes _ (by omega), by simp only [Tm.size]; refine ⟨?_, ?_, ?_⟩ <;> omega, Ev.step (f := fun _ => some ⟨a + 1, tp, out ++ [⟨11 + v, 0⟩]⟩) (fun k => ?_) (Ev.now _)⟩
      simp only [grown_truth.f, hr, p9, Option.bind_some]
      rw [hop, Option.bind_some, if_pos c0, pv, Option.bind_some, w64 (n := 11 + v) (by omega) (by omega), put_ok _ _ _ _ _ (by omega)]
    by_cases c1 : op = 1 ∨ op = 3
    · obtain ⟨t, ht, hs, he⟩ := hcmp 7 (.inr rfl) a tp out h0 (by omega) (by omega)
      refine ⟨t, ht, by omega, Ev.step (fun k => ?_) he⟩
      simp only [grown_truth.f, hr, p9, Option.bind_some]
      rw [hop, Option.bind_some, if_neg c0, if_pos c1, put_ok _ _ _ _ _ (by omega), Option.bind_some]
    by_cases c2 : op = 2 ∨ op = 4
    · obtain ⟨t, ht, hs, he⟩ := hcmp 6 (.inl rfl) a tp out h0 (by omega) (by omega)
      refine ⟨t, ht, by omega, Ev.step (fun k => ?_) he⟩
      simp only [grown_truth.f, hr, p9, Option.bind_some]
      rw [hop, Option.bind_some, if_neg c0, if_neg c1, if_pos c2, put_ok _ _ _ _ _ (by omega), Option.bind_some]
    by_cases c3 : op = 5
    · obtain ⟨t1, n1, s1, e1⟩ := ih (a + 1) tp (out ++ [⟨10, 0⟩]) (by omega) (by omega) (by omega) (by rw [List.length_append, List.length_singleton]; omega)
      refine ⟨.un ⟨10, 0⟩ t1, .not _ n1, by simp only [Tm.size]; refine ⟨?_, ?_, ?_⟩ <;> omega, ?_⟩
      refine Ev.step (f := fun k => grown_truth.f k raw vars ⟨a + 1, tp, out ++ [⟨10, 0⟩]⟩ (d : Int)) (fun k => ?_) ?_
      · simp only [grown_truth.f, hr, p9, Option.bind_some]
        rw [hop, Option.bind_some, if_neg c0, if_neg c1, if_neg c2, if_pos c3, put_ok _ _ _ _ _ (by omega), Option.bind_some, w64 (n := ((d + 1 : Nat) : Int) - 1) (by omega) (by omega), show ((d + 1 : Nat) : Int) - 1 = (d : Int) by omega]
      · have e : (⟨a + (Tm.un ⟨10, 0⟩ t1).size, tp, out ++ (Tm.un ⟨10, 0⟩ t1).flat⟩ : GrSt) = ⟨a + 1 + t1.size, tp, out ++ [⟨10, 0⟩] ++ t1.flat⟩ := by
          simp [Tm.size, Tm.flat]
          omega
        rw [e]
        exact e1
    · have hm := Int.tmod_eq_emod_of_nonneg (a := op) (b := 2) o0
      have hkind : ∃ o : Int, (o = 8 ∨ o = 9) ∧ 8 + Int.tmod op 2 = o := ⟨_, by omega, rfl⟩
      obtain ⟨o, ho89, hko⟩ := hkind
      obtain ⟨t1, n1, s1, e1⟩ := ih (a + 1) tp (out ++ [⟨o, 0⟩]) (by omega) (by omega) (by omega) (by rw [List.length_append, List.length_singleton]; omega)
      obtain ⟨t2, n2, s2, e2⟩ := ih (a + 1 + t1.size) tp (out ++ [⟨o, 0⟩] ++ t1.flat) (by omega) (by omega) (by omega) (by rw [List.length_append, List.length_append, List.length_singleton, Tm.flat_len]; omega)
      refine ⟨.bin ⟨o, 0⟩ t1 t2, .log _ _ _ ho89 n1 n2, by simp only [Tm.size]; refine ⟨?_, ?_, ?_⟩ <;> omega, ?_⟩
      refine Ev.step (f := fun k => (grown_truth.f k raw vars ⟨a + 1, tp, out ++ [⟨o, 0⟩]⟩ (d : Int)).bind fun s2 => grown_truth.f k raw vars s2 (d : Int)) (fun k => ?_) (Ev.bind e1 ?_)
      · simp only [grown_truth.f, hr, p9, Option.bind_some]
        rw [hop, Option.bind_some, if_neg c0, if_neg c1, if_neg c2, if_neg c3, hko, w64 (n := o) (by omega) (by omega), put_ok _ _ _ _ _ (by omega), Option.bind_some, w64 (n := ((d + 1 : Nat) : Int) - 1) (by omega) (by omega), show ((d + 1 : Nat) : Int) - 1 = (d : Int) by omega]
      · have e : (⟨a + (Tm.bin ⟨o, 0⟩ t1 t2).size, tp, out ++ (Tm.bin ⟨o, 0⟩ t1 t2).flat⟩ : GrSt) = ⟨a + 1 + t1.size + t2.size, tp, out ++ [⟨o, 0⟩] ++ t1.flat ++ t2.flat⟩ := by
          simp [Tm.size, Tm.flat]
          omega
        rw [e]
        exact e2
theorem truth_is {raw : List Raw} (hw : rawWf raw) (vars : Int) (hv : vars ≤ 100) : ∃ t, TruthT vars t ∧ t.size ≤ 25 ∧ Ev (fun k => foretellkeep_Truth.f k raw vars) t.flat := by
  obtain ⟨t, ht, hs, he⟩ := truth_gen hw vars hv 3 0 0 [] (by decide) (by decide) (by decide) (by decide)
  refine ⟨t, ht, by omega, ?_⟩
  unfold foretellkeep_Truth.f
  exact Ev.bind he (Ev.now _)
theorem number_is {raw : List Raw} (hw : rawWf raw) (vars : Int) (hv : vars ≤ 100) : ∃ t, NumT vars t ∧ t.size ≤ 7 ∧ Ev (fun k => foretellkeep_Number.f k raw vars) t.flat := by
  obtain ⟨t, ht, hs, _, he⟩ := number_gen hw vars hv 2 (by decide) 0 0 [] (by decide) (by decide) (by decide)
  refine ⟨t, ht, by omega, ?_⟩
  unfold foretellkeep_Number.f
  exact Ev.bind he (Ev.now _)
end Go.Proofs.YteennleoieafiaaDoor.Q
end
section
namespace Go.Proofs.YteennleoieafiaaDoor.Q
open Go.RowKit Go.Proofs.YteennleoieafiaaDoorW.PrintWords Go.Proofs.YteennleoieafiaaDoorW.PrintMore Go.Proofs.YteennleoieafiaaDoor.P
set_option linter.unusedVariables false
def Tm.rt : Tm → Op
  | .leaf o => o
  | .un o _ => o
  | .bin o _ _ => o
theorem Tm.flat_rt (t : Tm) : ∃ rest, t.flat = t.rt :: rest := by cases t <;> exact ⟨_, rfl⟩
theorem Tm.ends_rt (t : Tm) (p : Int) : ∃ rest, t.ends p = (p + t.size) :: rest := by
  cases t with
  | leaf o => exact ⟨_, rfl⟩
  | un o a => exact ⟨a.ends (p + 1), by simp only [Tm.ends, Tm.size]; congr 1; omega⟩
  | bin o a b => exact ⟨a.ends (p + 1) ++ b.ends (p + 1 + a.size), by simp only [Tm.ends, Tm.size]; congr 1; omega⟩
theorem rd_at {es A B : List Int} {e : Int} (h : es = A ++ e :: B) {p : Int} (hp : p = (A.length : Int)) : rd es p = e := by
  subst h; subst hp
  unfold rd
  rw [Int.toNat_natCast, List.getD_eq_getElem?_getD, List.getElem?_append_right (Nat.le_refl _)]
  simp
structure Lies (t : Tm) (p : Int) (l : List Op) (es : List Int) : Prop where
  ops : ∃ pre post, l = pre ++ (t.flat ++ post) ∧ p = (pre.length : Int)
  ends : ∃ A B, es = A ++ (t.ends p ++ B) ∧ p = (A.length : Int)
theorem Lies.p0 {t : Tm} {p : Int} {l : List Op} {es : List Int} (h : Lies t p l es) : 0 ≤ p ∧ p + t.size ≤ l.length ∧ p + t.size ≤ es.length := by
  obtain ⟨⟨pre, post, h1, h2⟩, ⟨A, B, h3, h4⟩⟩ := h
  refine ⟨by omega, ?_, ?_⟩
  · rw [h1, List.length_append, List.length_append, t.flat_len]; omega
  · rw [h3, List.length_append, List.length_append, t.ends_len]; omega
theorem Lies.rt {t : Tm} {p : Int} {l : List Op} {es : List Int} (h : Lies t p l es) : rd_T35 l p = t.rt ∧ rd es p = p + t.size := by
  obtain ⟨⟨pre, post, h1, h2⟩, ⟨A, B, h3, h4⟩⟩ := h
  obtain ⟨r1, hr1⟩ := t.flat_rt
  obtain ⟨r2, hr2⟩ := t.ends_rt p
  rw [hr1] at h1
  rw [hr2] at h3
  exact ⟨rdT_at (pre := pre) (post := r1 ++ post) (by rw [h1]; simp) h2, rd_at (A := A) (B := r2 ++ B) (by rw [h3]; simp) h4⟩
theorem Lies.un {o : Op} {a : Tm} {p : Int} {l : List Op} {es : List Int} (h : Lies (.un o a) p l es) : Lies a (p + 1) l es := by
  obtain ⟨⟨pre, post, h1, h2⟩, ⟨A, B, h3, h4⟩⟩ := h
  exact ⟨⟨pre ++ [o], post, by rw [h1]; simp [Tm.flat], by rw [List.length_append, List.length_singleton]; omega⟩, ⟨A ++ [p + 1 + a.size], B, by rw [h3]; simp [Tm.ends], by rw [List.length_append, List.length_singleton]; omega⟩⟩
theorem Lies.left {o : Op} {a b : Tm} {p : Int} {l : List Op} {es : List Int} (h : Lies (.bin o a b) p l es) : Lies a (p + 1) l es := by
  obtain ⟨⟨pre, post, h1, h2⟩, ⟨A, B, h3, h4⟩⟩ := h
  exact ⟨⟨pre ++ [o], b.flat ++ post, by rw [h1]; simp [Tm.flat], by rw [List.length_append, List.length_singleton]; omega⟩, ⟨A ++ [p + 1 + a.size + b.size], b.ends (p + 1 + a.size) ++ B, by rw [h3]; simp [Tm.ends], by rw [List.length_append, List.length_singleton]; omega⟩⟩
theorem Lies.right {o : Op} {a b : Tm} {p : Int} {l : List Op} {es : List Int} (h : Lies (.bin o a b) p l es) : Lies b (p + 1 + a.size) l es := by
  obtain ⟨⟨pre, post, h1, h2⟩, ⟨A, B, h3, h4⟩⟩ := h
  exact ⟨⟨pre ++ [o] ++ a.flat, post, by rw [h1]; simp [Tm.flat], by rw [List.length_append, List.length_append, List.length_singleton, a.flat_len]; omega⟩, ⟨A ++ [p + 1 + a.size + b.size] ++ a.ends (p + 1), B, by rw [h3]; simp [Tm.ends], by rw [List.length_append, List.length_append, List.length_singleton, a.ends_len]; omega⟩⟩
theorem lies_whole (t : Tm) : Lies t 0 t.flat (t.ends 0) := ⟨⟨[], [], by simp, rfl⟩, ⟨[], [], by simp, rfl⟩⟩
end Go.Proofs.YteennleoieafiaaDoor.Q
end
section
namespace Go.Proofs.YteennleoieafiaaDoor.P
open Go.RowKit Go.Proofs.YteennleoieafiaaDoorW.PrintWords Go.Proofs.YteennleoieafiaaDoorW.PrintLast Go.Proofs.YteennleoieafiaaDoorW.PrintMore Go.Proofs.YteennleoieafiaaDoor.G
attribute [local go_sem] max2_int min2_int max_two min_two max_three min_three max_four min_four   -- for this text's walks alone
set_option linter.unusedVariables false
set_option linter.unusedSimpArgs false

/-! ### foretellkeep_joined: function 34 -/
def foretellkeep_joined.l0 : Nat → List (List (S35)) → List (S35) → Int → Option ((List (S35)))
  | 0, _, _, _ => none
  | k + 1, x1, x5, x6 => if x6 < (x1.length : Int) then (if 0 ≤ x6 then (if x5.length + (rd_L4 x1 x6).length < 8796093022208 then (foretellkeep_joined.l0 k x1 (x5 ++ (rd_L4 x1 x6)) (wrap64 (x6 + 1))) else (none)) else (none)) else (some x5)
def foretellkeep_joined.f (k : Nat) (a0 : Int) (l1 : List (List (S35))) : Option ((List (S35))) := foretellkeep_joined.l0 k l1 (([(⟨a0, 0⟩ : S35)] : List (S35))) 0
theorem foretellkeep_joined.mono_l : ∀ k, (∀ y0 y1 y2, LeO (foretellkeep_joined.l0 k y0 y1 y2) (foretellkeep_joined.l0 (k + 1) y0 y1 y2))
  | 0 => fun _ _ _ r h => by simp [foretellkeep_joined.l0] at h
  | k + 1 => by
    have ih0 := foretellkeep_joined.mono_l k
    · intro y0 y1 y2
      unfold foretellkeep_joined.l0
      repeat' first
      | (with_reducible exact ih0 _ _ _)
      | (with_reducible exact LeO.refl _)
      | (with_reducible exact LeO.none _)
      | (with_reducible refine LeO.ite ?_ ?_)
      | (with_reducible refine LeO.bind ?_ (fun _ => ?_))
      | exact ih0 _ _ _
      | exact LeO.none _
      | refine LeO.ite ?_ ?_
      | refine LeO.bind ?_ (fun _ => ?_)
theorem foretellkeep_joined.mono : ∀ a0 a1 k, LeO (foretellkeep_joined.f k a0 a1) (foretellkeep_joined.f (k + 1) a0 a1) := by
  intro a0 a1 k
  have ih0 := foretellkeep_joined.mono_l k
  unfold foretellkeep_joined.f
  repeat' first
      | (with_reducible exact ih0 _ _ _)
      | (with_reducible exact LeO.refl _)
      | (with_reducible exact LeO.none _)
      | (with_reducible refine LeO.ite ?_ ?_)
      | (with_reducible refine LeO.bind ?_ (fun _ => ?_))
      | exact ih0 _ _ _
      | exact LeO.none _
      | refine LeO.ite ?_ ?_
      | refine LeO.bind ?_ (fun _ => ?_)
set_option maxHeartbeats 8000000 in
set_option maxRecDepth 100000 in
theorem foretellkeep_joined.calls (k : Nat) (a0 : Int) (A1 : Option Addr) (c1 : Nat) (l1 : List (List (S35))) (r : List (S35)) (w : World) (hr1 : Kd.C (Kd.slice 35 k35) w A1 l1.length l1) (hc1 : l1.length ≤ c1) (h : foretellkeep_joined.f k a0 l1 = some r) :
    Calls Tryd.prog 34 #[.int .i64 a0, .slice A1 l1.length c1] w fun e w' => ∃ v0_ : Value, e = .returned (v0_) ∧ Kd.R k35 35 w' w.heap.size (fun _ => True) v0_ r ∧ Below w.heap.size w w' := by
  have hu35 := Tryd.underlying35
  have HR1 := Aside0.mk hr1
  have HC1 := Aside0.mk hc1
  clear hr1 hc1
  have HB := Aside0.mk (Below.refl w.heap.size w)
  have H : (foretellkeep_joined.l0 k l1 (([(⟨a0, 0⟩ : S35)] : List (S35))) 0) = some r := h
  clear h
  obtain ⟨y344, hy344⟩ : ∃ y_ : List (S35), y_ = (([(⟨a0, 0⟩ : S35)] : List (S35))) := ⟨_, rfl⟩
  replace H : (foretellkeep_joined.l0 k l1 y344 0) = some r := by first | (rw [hy344]; with_reducible exact H) | (have H2_ := (Option.bind_some _ _).symm.trans H; rw [hy344]; with_reducible exact H2_) | (have H2_ := (Option.bind_some _ _).symm.trans H; with_reducible exact H2_) | with_reducible exact H | (rw [hy344]; exact H) | exact H
  have Ny344 := Aside0.mk hy344
  clear hy344
  have H' := Aside0.mk H
  clear H
  go_enter Tryd.func34, Tryd.ntmps34
  go_wp2_with (first | ((with_reducible refine gate_dst (N := 9) rfl ?_); refine Kd.R_lit k35 _ 35 ?hg (N := 9) ?hd (xs := ([(⟨a0, 0⟩ : S35)] : List (S35))) (inner := [.int .i64 a0, .int .i64 0]) (ok := fun _ => True) (okp := fun _ => True) ?hr ?hp (fun _ hk => hk) trivial (Below.refl _ _) (Nat.le_refl _) (by simp) ?_; (case hd => rfl); (case hg => rfl); (case hr => first | (go_simp; done) | (go_simp; rfl)); (case hp => exact (Reps.c2 (show Kd.M k35 _ _ _ (⟨a0, 0⟩ : S35) [.int .i64 a0, .int .i64 0] from (k35_mkM _ _ _ (⟨a0, 0⟩ : S35) )) (Reps.none _ _))); intro v345 w3 ho4 hb hg_ hnew_; clear hg_ hnew_; (first | rw [← Ny344.out] at ho4 | (simp only [Int.reduceToNat] at ho4; rw [← Ny344.out] at ho4)); have n0_ := Aside0.mk (Kd.R_lower ho4 (below_size (by repeat (first | (with_reducible first | exact HB.out | apply below_alloc | apply pw_below_drewN | apply below_drew1) | exact HB.out)))); have n1_ := Aside0.mk (below_step (by repeat (first | (with_reducible first | exact HB.out | apply below_alloc | apply pw_below_drewN | apply below_drew1) | exact HB.out)) hb); clear HB; have HO346 := n0_; have HB := n1_; clear n0_ n1_; clear hb ho4))
  go_loopg [5, 6] k (fun kq v5 v6 w' => ∃ (x5_1 : List (S35)) (x6_1 : Int), v6 = .int .i64 x6_1 ∧ Aside0 (foretellkeep_joined.l0 kq l1 x5_1 x6_1 = some r) ∧ Aside0 (kq ≤ k) ∧ Aside0 (Kd.R k35 35 w' w.heap.size (fun _ => True) v5 x5_1) ∧ Aside0 (Below w.heap.size w w'))
  case atStart => exact ⟨(y344), (0), (by first | rfl | (simp; done) | (simp [*]; done)), H', ⟨Nat.le_refl _⟩, ⟨by (with_reducible repeat (first | apply Kd.R_alloc | apply Kd.R_drewN | apply Kd.R_drew)); exact HO346.out⟩, ⟨by repeat (first | (with_reducible first | exact HB.out | apply below_alloc | apply pw_below_drewN | apply below_drew1) | exact HB.out)⟩⟩
  case round =>
    clear H'
    try clear c1
    try clear c2
    try clear p2
    try clear c3
    obtain ⟨x5_1, x6_1, rfl, HA, HK1, HO_5, HB⟩ := hrel
    cases gk with
    | zero => exact absurd HA.out (by simp [foretellkeep_joined.l0])
    | succ k1 =>
      have H := HA.out
      clear HA
      simp only [foretellkeep_joined.l0] at H
      by_cases c5 : x6_1 < (l1.length : Int)
      · rw [if_pos c5] at H
        have c5b0 : decide (x6_1 < (l1.length : Int)) = true := decide_eq_true c5
        clear c5
        by_cases c6 : 0 ≤ x6_1
        · rw [if_pos c6] at H
          have c6b0 : decide (0 ≤ x6_1) = true := decide_eq_true c6
          clear c6
          by_cases c7 : x5_1.length + (rd_L4 l1 x6_1).length < 8796093022208
          · rw [if_pos c7] at H
            have LMc7 := Aside0.mk c7
            clear c7
            obtain ⟨y348, hy348⟩ : ∃ y_ : List (S35), y_ = (x5_1 ++ (rd_L4 l1 x6_1)) := ⟨_, rfl⟩
            replace H : (foretellkeep_joined.l0 k1 l1 y348 (wrap64 (x6_1 + 1))) = some r := by first | (rw [hy348]; with_reducible exact H) | (have H2_ := (Option.bind_some _ _).symm.trans H; rw [hy348]; with_reducible exact H2_) | (have H2_ := (Option.bind_some _ _).symm.trans H; with_reducible exact H2_) | with_reducible exact H | (rw [hy348]; exact H) | exact H
            have Ny348 := Aside0.mk hy348
            clear hy348
            have H' := Aside0.mk H
            clear H
            have p347 : 0 ≤ (x6_1 : Int) := of_decide_eq_true (by first | (with_reducible assumption) | assumption)
            have q347 : x6_1 < (l1.length : Int) := of_decide_eq_true (by first | (with_reducible assumption) | assumption)
            obtain ⟨ad347, A347_0, c347_0, e347, hx347_0, hl347_0, hi347_0⟩ := at_L4 HR1.out x6_1 p347 q347
            cases e347
            replace hx347_0 := (HB.out.cell (World.block_lt_of_cell? w _ hx347_0)).trans hx347_0
            have HR347_0 := Aside0.mk hi347_0
            have HC347_0 := Aside0.mk hl347_0
            clear hi347_0 hl347_0
            replace p347 := eq_true p347
            replace q347 := eq_true q347
            go_wp2_with (first | ((with_reducible refine gate_builtin (b := .append) (xs := #[.tmp 16, .tmp 20]) rfl ?_); at_builtin; refine Kd.R_append_rows k35 (w0 := w) w.heap.size rfl (.tmp 16) (.tmp 20) 36 35 (.agg #[(.int .i64 0), (.int .i64 0)]) 16 rfl Tryd.underlying36 info35 rfl (by decide) (by omega) u5 x5_1 (rd_L4 l1 x6_1) _ _ _ (fun _ => True) (fun _ => False) rfl rfl ?aO ?aR (fun _ _ h => h) (fun _ h => h.elim) ?aF ?aB ?aS ?aL ?_; (case aR => repeat (first | exact (Kd.C_below HR347_0.out HB.out) | (with_reducible refine Kd.C_alloc ?_ _) | (with_reducible refine Kd.C_drewN ?_ _) | (with_reducible refine Kd.C_drew ?_))); (case aB => exact (by repeat (first | (with_reducible first | exact HB.out | apply below_alloc | apply pw_below_drewN | apply below_drew1) | exact HB.out))); (case aF => exact (fun _ _ => trivial)); (case aO => exact (by (with_reducible repeat (first | apply Kd.R_alloc | apply Kd.R_drewN | apply Kd.R_drew)); exact HO_5.out)); (case aS => exact (below_size (by repeat (first | (with_reducible first | exact HB.out | apply below_alloc | apply pw_below_drewN | apply below_drew1) | exact HB.out)))); (case aL => have := LMc7.out; omega); intro v349 w8 ho hb hg hat; rw [← Ny348.out] at ho; have n0_ := Aside0.mk (hb); have n1_ := Aside0.mk (ho); clear HB; clear HO_5; have HB := n0_; have HO350 := n1_; clear n0_ n1_; clear ho hb hg hat))
            go_roundg k1
            case measure => have := HK1.out; omega
            case rel => exact ⟨(y348), (wrap64 (x6_1 + 1)), (by first | rfl | (simp; done) | (simp [*]; done)), H', ⟨by have := HK1.out; omega⟩, ⟨by (with_reducible repeat (first | apply Kd.R_alloc | apply Kd.R_drewN | apply Kd.R_drew)); exact HO350.out⟩, ⟨by repeat (first | (with_reducible first | exact HB.out | apply below_alloc | apply pw_below_drewN | apply below_drew1) | exact HB.out)⟩⟩
          · rw [if_neg c7] at H
            exact absurd H (by simp)
        · rw [if_neg c6] at H
          exact absurd H (by simp)
      · rw [if_neg c5] at H
        have c5b0 : decide (x6_1 < (l1.length : Int)) = false := decide_eq_false c5
        clear c5
        obtain rfl := Option.some.inj H
        go_wp2
        go_ret
        exact ⟨_, by first | rfl | (simp [errW_none, errW_some] <;> rfl) | (simp [*, errW_none, errW_some] <;> rfl), by (with_reducible repeat (first | apply Kd.R_alloc | apply Kd.R_drewN | apply Kd.R_drew)); exact HO_5.out, by repeat (first | (with_reducible first | exact HB.out | apply below_alloc | apply pw_below_drewN | apply below_drew1) | exact HB.out)⟩

end Go.Proofs.YteennleoieafiaaDoor.P
end
section
namespace Go.Proofs.YteennleoieafiaaDoor.Q
open Go.RowKit Go.Proofs.YteennleoieafiaaDoorW.PrintWords Go.Proofs.YteennleoieafiaaDoorW.PrintMore Go.Proofs.YteennleoieafiaaDoor.P
set_option linter.unusedVariables false
end Go.Proofs.YteennleoieafiaaDoor.Q
end
section
namespace Go.Proofs.YteennleoieafiaaDoor.Q
open Go.RowKit Go.Proofs.YteennleoieafiaaDoorW.PrintWords Go.Proofs.YteennleoieafiaaDoorW.PrintMore Go.Proofs.YteennleoieafiaaDoor.P
set_option linter.unusedVariables false
theorem upTo_facts {d : Array Int} (hs : ∀ i j : Nat, i ≤ j → j < d.size → d[i]! ≤ d[j]!) : ∀ m, m ≤ d.size → (Lib.compactUpTo d m).Pairwise (· < ·) ∧ ∀ x, x ∈ Lib.compactUpTo d m ↔ ∃ j, j < m ∧ d[j]! = x := by
  intro m
  induction m with
  | zero => intro _; exact ⟨by simp [Lib.compactUpTo], fun x => by simp [Lib.compactUpTo]⟩
  | succ m ih =>
    intro hm
    obtain ⟨h1, h2⟩ := ih (by omega)
    rw [Lib.compactUpTo_succ]
    by_cases hk : Lib.keeps d m = true
    · rw [if_pos hk]
      have hlt : ∀ x ∈ Lib.compactUpTo d m, x < d[m]! := by
        intro x hx
        obtain ⟨j, hj, rfl⟩ := (h2 x).mp hx
        have hne : d[m]! ≠ d[m - 1]! := by
          unfold Lib.keeps at hk
          rcases of_decide_eq_true hk with h | h
          · omega
          · exact h
        have a := hs j (m - 1) (by omega) (by omega)
        have b := hs (m - 1) m (by omega) (by omega)
        omega
      refine ⟨?_, fun x => ?_⟩
      · rw [List.pairwise_append]
        exact ⟨h1, List.pairwise_singleton _ _, fun a ha b hb => by obtain rfl := List.mem_singleton.mp hb; exact hlt a ha⟩
      · rw [List.mem_append, List.mem_singleton, h2]
        constructor
        · rintro (⟨j, hj, e⟩ | rfl)
          · exact ⟨j, by omega, e⟩
          · exact ⟨m, by omega, rfl⟩
        · rintro ⟨j, hj, e⟩
          by_cases c : j = m
          · subst c; exact .inr e.symm
          · exact .inl ⟨j, by omega, e⟩
    · rw [if_neg hk, List.append_nil]
      refine ⟨h1, fun x => ?_⟩
      rw [h2]
      constructor
      · rintro ⟨j, hj, e⟩
        exact ⟨j, by omega, e⟩
      · rintro ⟨j, hj, e⟩
        by_cases c : j = m
        · subst c
          unfold Lib.keeps at hk
          have hk2 : ¬ (j = 0 ∨ d[j]! ≠ d[j - 1]!) := fun h => hk (decide_eq_true h)
          have h0 : j ≠ 0 := fun h => hk2 (.inl h)
          have he : d[j]! = d[j - 1]! := Decidable.not_not.mp (fun h => hk2 (.inr h))
          exact ⟨j - 1, by omega, by rw [← he]; exact e⟩
        · exact ⟨j, by omega, e⟩
theorem srt_sorted (l : List Int) : (srt l).Pairwise (· ≤ ·) := by
  have := List.pairwise_mergeSort (le := fun x y : Int => decide (x ≤ y)) (fun a b c h1 h2 => by simp only [decide_eq_true_eq] at *; omega) (fun a b => by simp only [Bool.or_eq_true, decide_eq_true_eq]; omega) l
  exact this.imp (fun h => of_decide_eq_true h)
theorem srt_mem (l : List Int) (x : Int) : x ∈ srt l ↔ x ∈ l := List.mem_mergeSort
theorem get_bang {l : List Int} {j : Nat} (h : j < l.length) : l.toArray[j]! = l[j] := by simp [h]
theorem uniq_facts (l : List Int) : (uniq l).Pairwise (· < ·) ∧ ∀ x, x ∈ uniq l ↔ x ∈ l := by
  have hs := List.pairwise_iff_getElem.mp (srt_sorted l)
  obtain ⟨h1, h2⟩ := upTo_facts (d := (srt l).toArray) (fun i j hij hj => by
    have hj' : j < (srt l).length := by simpa using hj
    rw [get_bang (show i < (srt l).length by omega), get_bang hj']
    by_cases e : i = j
    · subst e; exact Int.le_refl _
    · exact hs i j (by omega) hj' (by omega)) (srt l).length (by simp)
  refine ⟨h1, fun x => ?_⟩
  rw [← srt_mem l x]
  show x ∈ Lib.compactUpTo _ _ ↔ _
  rw [h2]
  constructor
  · rintro ⟨j, hj, rfl⟩
    rw [get_bang hj]
    exact List.getElem_mem hj
  · intro hx
    obtain ⟨j, hj, rfl⟩ := List.getElem_of_mem hx
    exact ⟨j, hj, get_bang hj⟩
theorem uniq_len (l : List Int) : (uniq l).length ≤ l.length := by
  have := compact_len (srt l)
  rw [srt_len] at this
  exact this
theorem uniq_mem (l : List Int) (x : Int) : x ∈ uniq l ↔ x ∈ l := (uniq_facts l).2 x
theorem uniq_empty {l : List Int} : uniq l = [] ↔ l = [] := by
  constructor
  · intro h
    cases l with
    | nil => rfl
    | cons a l =>
      have := (uniq_mem (a :: l) a).mpr List.mem_cons_self
      rw [h] at this
      cases this
  · rintro rfl; exact uniq_nil
end Go.Proofs.YteennleoieafiaaDoor.Q
end
section
namespace Go.Proofs.YteennleoieafiaaDoor.Q
open Go.RowKit Go.Proofs.YteennleoieafiaaDoorW.PrintWords Go.Proofs.YteennleoieafiaaDoorW.PrintMore Go.Proofs.YteennleoieafiaaDoor.P
set_option linter.unusedVariables false
theorem has_is (l : List Int) (n : Int) (hl : l.length ≤ 1000000000) : Ev (fun k => foretellkeep_has.f k l n) (decide (n ∈ l)) := by
  have key : ∀ (d i : Nat), i + d = l.length → n ∉ l.take i → Ev (fun k => foretellkeep_has.l0 k l n (i : Int)) (decide (n ∈ l)) := by
    intro d
    induction d with
    | zero =>
      intro i hi hn
      rw [List.take_of_length_le (by omega)] at hn
      refine Ev.step (f := fun _ => some (decide (n ∈ l))) (fun k => ?_) (Ev.now _)
      rw [foretellkeep_has.l0, if_neg (by omega), decide_eq_false hn]
    | succ d ih =>
      intro i hi hn
      have hil : i < l.length := by omega
      by_cases c : l[i] = n
      · refine Ev.step (f := fun _ => some (decide (n ∈ l))) (fun k => ?_) (Ev.now _)
        rw [foretellkeep_has.l0, if_pos (by omega), if_pos (by omega), rd_eq hil, if_pos c, decide_eq_true (by rw [← c]; exact List.getElem_mem hil)]
      · refine Ev.step (f := fun k => foretellkeep_has.l0 k l n ((i + 1 : Nat) : Int)) (fun k => ?_) (ih (i + 1) (by omega) ?_)
        · rw [foretellkeep_has.l0, if_pos (by omega), if_pos (by omega), rd_eq hil, if_neg c, w64 (n := (i : Int) + 1) (by omega) (by omega)]
          rfl
        · rw [List.take_add_one, List.getElem?_eq_getElem hil]
          intro hm
          rcases List.mem_append.mp hm with hm | hm
          · exact hn hm
          · have e : n = l[i] := by simpa using hm
            exact c e.symm
  exact key l.length 0 (Nat.zero_add _) (by simp)
end Go.Proofs.YteennleoieafiaaDoor.Q
end
section
/- How a law's arguments, whatever their type is made of (numbers, truths, texts, slices, structs, short arrays), read as the printed kinds. Nothing of the program stands here. -/
namespace Go.Proofs.YteennleoieafiaaDoor.O
open Go.RowKit Go.Deep Go.Proofs.YteennleoieafiaaDoorW.PrintWords Go.Proofs.YteennleoieafiaaDoorW.PrintLast Go.Proofs.YteennleoieafiaaDoorW.PrintMore
set_option linter.unusedVariables false
variable {P : Program}

/-- What reads as data of type t reads as kind d, and is well formed. -/
def Opens (P : Program) (t : TypeId) {α : Type} (d : Kd α) (wf : α → Prop) : Prop :=
  ∀ {H : Type} {enc : TypeId × Value → H} {w : World} {base : Nat} {spare : Nat → Bool} {held : Bool} {fuel : Nat} {cs : List Value} {x : DataW H × List MemPlace},
    DataW.trod enc P w base spare held fuel t cs = some x → ∃ a, d.K w a cs ∧ wf a

theorem opens_int {t : TypeId} {k : IntKind} (ht : P.underlying t = some (.int k)) : Opens P t (Kd.int k) (fun n => (Lit.int k n).wf = true) := by
  intro H enc w base spare held fuel cs x h
  obtain ⟨n, rfl, _, hw⟩ := DataW.trod_int ht h
  exact ⟨n, rfl, hw⟩
theorem opens_bool {t : TypeId} (ht : P.underlying t = some .bool) : Opens P t Kd.bool (fun _ => True) := by
  intro H enc w base spare held fuel cs x h
  obtain ⟨n, rfl, _⟩ := DataW.trod_bool ht h
  exact ⟨n, rfl, trivial⟩
theorem opens_string {t : TypeId} (ht : P.underlying t = some .string) : Opens P t Kd.string (fun s => s.size ≤ maxLen) := by
  intro H enc w base spare held fuel cs x h
  obtain ⟨n, rfl, _, hw⟩ := DataW.trod_string ht h
  exact ⟨n, rfl, hw⟩
theorem opens_iso {t : TypeId} {α β : Type} {d : Kd α} {wf : α → Prop} (h : Opens P t d wf) (f : β → α) (g : α → β) (hg : ∀ a, f (g a) = a) : Opens P t (Kd.iso d f) (fun b => wf (f b)) := by
  intro H enc w base spare held fuel cs x hx
  obtain ⟨a, ha, hw⟩ := h hx
  exact ⟨g a, by show d.K w (f (g a)) cs; rw [hg]; exact ha, by show wf (f (g a)); rw [hg]; exact hw⟩
theorem opens_slice {t e : TypeId} {α : Type} {d : Kd α} {wf : α → Prop} (ht : P.underlying t = some (.slice e)) (hc : P.cellsOf e = d.sz) (h : Opens P e d wf) :
    Opens P t (Kd.slice e d) (fun l => l.length ≤ maxLen ∧ ∀ a ∈ l, wf a) := by
  intro H enc w base spare held fuel cs x hx
  rcases open_slice ht hx with ⟨rfl, _⟩ | ⟨ad, len, cap, m, n, D, Pl, rfl, hb, hl, hm, hmm, _, hel⟩
  · exact ⟨[], ⟨none, 0, rfl, Nat.le_refl _, rfl, by simp, fun hh => absurd hh (Nat.lt_irrefl 0)⟩, by simp, fun a ha => by simp at ha⟩
  · have hlm : len ≤ m := by rw [hmm]; split <;> omega
    have hex : ∀ i, i < len → ∃ a, (∃ cs', w.cells? base (ad.add (i * P.cellsOf e)) (P.cellsOf e) = some cs' ∧ d.K w a cs') ∧ wf a := by
      intro i hi
      obtain ⟨cs', h1, h2⟩ := hel i (by omega)
      obtain ⟨a, ha, hw⟩ := h h2
      exact ⟨a, ⟨cs', h1, ha⟩, hw⟩
    have hlist : ∀ k, k ≤ len → ∃ l : List α, l.length = k ∧ ∀ (i : Nat) (p : α), l[i]? = some p → (∃ cs', w.cells? base (ad.add (i * P.cellsOf e)) (P.cellsOf e) = some cs' ∧ d.K w p cs') ∧ wf p := by
      intro k
      induction k with
      | zero => intro _; exact ⟨[], rfl, fun i p hp => by simp at hp⟩
      | succ k ih =>
        intro hk
        obtain ⟨l, hll, hl2⟩ := ih (by omega)
        obtain ⟨a, ha⟩ := hex k (by omega)
        refine ⟨l ++ [a], by simp [hll], fun i p hp => ?_⟩
        by_cases hi : i < l.length
        · rw [List.getElem?_append_left hi] at hp; exact hl2 i p hp
        · rw [List.getElem?_append_right (by omega)] at hp
          have hik : i - l.length = 0 := by
            rcases Nat.eq_zero_or_pos (i - l.length) with h0 | h0
            · exact h0
            · obtain ⟨q, hq⟩ : ∃ q, i - l.length = q + 1 := ⟨i - l.length - 1, by omega⟩
              rw [hq] at hp; simp at hp
          rw [hik] at hp
          have : i = k := by omega
          subst this
          obtain rfl : a = p := by simpa using hp
          exact ha
    obtain ⟨l, hll, hl2⟩ := hlist len (Nat.le_refl _)
    refine ⟨l, ⟨some ad, cap, by rw [hll], by omega, rfl, by rw [hll]; have : maxLen = 9223372036854775807 := rfl; omega, fun _ => ⟨ad, rfl, fun j p hj => ?_⟩⟩, by omega, fun a ha => ?_⟩
    · obtain ⟨⟨cs', h1, h2⟩, _⟩ := hl2 j p hj
      obtain ⟨_, hlen, hcell⟩ := World.cells?_some h1
      refine ⟨cs', by rw [hlen, hc], h2, fun i u hu => ?_⟩
      have hi : i < cs'.length := (List.getElem?_eq_some_iff.1 hu).1
      have h3 := hcell i (by omega)
      rw [hu] at h3
      rw [← hc, ← Addr.add_add]
      exact h3
    · obtain ⟨i, hi, rfl⟩ := List.getElem_of_mem ha
      exact (hl2 i _ (List.getElem?_eq_getElem hi)).2

/-- Fields in line from a cell on. -/
def OpensF (P : Program) (off : Nat) (fs : List (TypeId × Nat)) {α : Type} (d : Kd α) (wf : α → Prop) : Prop :=
  ∀ {H : Type} {enc : TypeId × Value → H} {w : World} {base : Nat} {spare : Nat → Bool} {held : Bool} {cs : List Value},
    cs.length = off + d.sz → (∀ (i : Nat) f, fs[i]? = some f → ∃ fuel x, DataW.trod enc P w base spare held fuel f.1 ((cs.drop f.2).take (P.cellsOf f.1)) = some x) → ∃ a, d.K w a (cs.drop off) ∧ wf a
theorem opensF_one {off : Nat} {t : TypeId} {α : Type} {d : Kd α} {wf : α → Prop} (hc : P.cellsOf t = d.sz) (h : Opens P t d wf) : OpensF P off [(t, off)] d wf := by
  intro H enc w base spare held cs hl hf
  obtain ⟨fuel, x, hx⟩ := hf 0 _ rfl
  obtain ⟨a, ha, hw⟩ := h hx
  refine ⟨a, ?_, hw⟩
  rw [List.take_of_length_le (by simp [hl, hc])] at ha
  exact ha
theorem opensF_cons {off off' : Nat} {t : TypeId} {fs : List (TypeId × Nat)} {α β : Type} {d : Kd α} {d' : Kd β} {wf : α → Prop} {wf' : β → Prop} (hc : P.cellsOf t = d.sz) (ho : off' = off + d.sz) (h : Opens P t d wf) (h' : OpensF P off' fs d' wf') :
    OpensF P off ((t, off) :: fs) (Kd.pair d d') (fun x => wf x.1 ∧ wf' x.2) := by
  intro H enc w base spare held cs hl hf
  obtain ⟨fuel, x, hx⟩ := hf 0 _ rfl
  obtain ⟨a, ha, hw⟩ := h hx
  have hl' : cs.length = off + (d.sz + d'.sz) := hl
  obtain ⟨b, hb, hw'⟩ := h' (enc := enc) (w := w) (base := base) (spare := spare) (held := held) (cs := cs) (by omega) (fun i f hi => hf (i + 1) f (by simpa using hi))
  refine ⟨(a, b), ⟨(cs.drop off).take (P.cellsOf t), cs.drop off', ?_, ha, hb⟩, hw, hw'⟩
  rw [hc, ho, ← List.drop_drop, List.take_append_drop]
theorem opens_struct {t : TypeId} {fs : Array Field} {l : List (TypeId × Nat)} {α : Type} {d : Kd α} {wf : α → Prop} (ht : P.underlying t = some (.struct fs)) (hl : fs.toList.map (fun f => (f.type, f.offset)) = l) (hc : P.cellsOf t = d.sz) (h : OpensF P 0 l d wf) : Opens P t d wf := by
  intro H enc w base spare held fuel cs x hx
  obtain ⟨xs, n, _, _, hlen, hxs, hf⟩ := DataW.trod_struct ht hx
  have := h (enc := enc) (w := w) (base := base) (spare := spare) (held := held) (cs := cs) (by omega) (fun i f hi => by
    rw [← hl, List.getElem?_map] at hi
    obtain ⟨f', hf', rfl⟩ := Option.map_eq_some_iff.1 hi
    have hi2 : fs[i]? = some f' := by simpa using hf'
    have hil : i < fs.size := (Array.getElem?_eq_some_iff.1 hi2).1
    exact ⟨n, xs[i]'(by omega), by rw [hf i f' hi2]; exact List.getElem?_eq_getElem _⟩)
  simpa using this
theorem opens_array {t e : TypeId} {n : Nat} {l : List (TypeId × Nat)} {α : Type} {d : Kd α} {wf : α → Prop} (ht : P.underlying t = some (.array n e)) (hl : (List.range n).map (fun i => (e, i * P.cellsOf e)) = l) (hc : P.cellsOf t = d.sz) (h : OpensF P 0 l d wf) : Opens P t d wf := by
  intro H enc w base spare held fuel cs x hx
  cases fuel with
  | zero => simp [DataW.trod] at hx
  | succ m =>
    unfold DataW.trod at hx
    rw [ht] at hx
    split at hx <;> simp_all
    obtain ⟨hlen, xs, hp, _⟩ := hx
    have := h (enc := enc) (w := w) (base := base) (spare := spare) (held := held) (cs := _) (by rw [hlen]; omega) (fun i f hi => by
      rw [← hl, List.getElem?_map] at hi
      obtain ⟨i', hi', rfl⟩ := Option.map_eq_some_iff.1 hi
      obtain ⟨h1, h2⟩ := List.getElem?_eq_some_iff.1 hi'
      have hxl := mapM_some_length hp
      have h3 : i = i' := by simpa using h2
      subst h3
      have hg := mapM_some_get hp i i hi'
      exact ⟨m, xs[i]'(by rw [hxl]; exact h1), by rw [hg]; exact List.getElem?_eq_getElem _⟩)
    simpa using this

theorem okWide_struct {t : TypeId} {fs : Array Field} {W : World} {r : Reach} {b0 : Nat} {v : Value} (ht : P.underlying t = some (.struct fs)) (h : Value.okWide P W r b0 t v) : ∃ xs : Array Value, v = .agg xs := by
  simp only [Value.okWide, ht] at h
  obtain ⟨cs, h1, _⟩ := h
  exact ⟨cs, h1⟩
theorem okWide_array {t e : TypeId} {n : Nat} {W : World} {r : Reach} {b0 : Nat} {v : Value} (ht : P.underlying t = some (.array n e)) (h : Value.okWide P W r b0 t v) : ∃ xs : Array Value, v = .agg xs := by
  simp only [Value.okWide, ht] at h
  obtain ⟨cs, h1, _⟩ := h
  exact ⟨cs, h1⟩
theorem slice_inj {a A : Option Addr} {n c m d : Nat} (h : (Value.slice a n c).cells.toList = [.slice A m d]) : a = A ∧ n = m ∧ c = d := by
  simpa [Value.cells] using h
theorem agg_inj {xs : Array Value} {l : List Value} (h : (Value.agg xs).cells.toList = l) : xs = l.toArray := by
  have h2 : xs.toList = l := h
  rw [← h2]
theorem agg_of {xs : Array Value} {l : List Value} (h : (Value.agg xs).cells.toList = l) : (Value.agg xs) = .agg l.toArray := by
  have h2 : xs.toList = l := h
  rw [← h2]
theorem slice_of {a : Option Addr} {n c : Nat} {v : Value} (h : (Value.slice a n c).cells.toList = [v]) : (Value.slice a n c) = v := by
  simpa [Value.cells] using h
theorem one_of {v u : Value} (h : v.cells.toList = [u]) (hv : v.cells.toList = [v]) : v = u := by
  rw [hv] at h
  simpa using h
end Go.Proofs.YteennleoieafiaaDoor.O
end
