-- PACKED by pack.py of this repo: FForetellkeepTruth QGen FForetellkeepJoined QJoin O
import Derived.WalkSpells
import Derived.ProofKit
import Derived.OpenShut
import Derived.Deep.Slices
import Derived.Test.YteennleoieafiaaDoorK2
import Derived.Test.YteennleoieafiaaDoorK4
import Derived.Test.YteennleoieafiaaDoorK3
import Derived.Test.YteennleoieafiaaDoorK1
section
namespace Go.Proofs.YteennleoieafiaaDoor.P
open Go.RowKit Go.Proofs.YteennleoieafiaaDoorW.PrintWords Go.Proofs.YteennleoieafiaaDoorW.PrintLast Go.Proofs.YteennleoieafiaaDoorW.PrintMore Go.Proofs.YteennleoieafiaaDoor.G
attribute [local go_sem] max2_int min2_int max_two min_two max_three min_three max_four min_four   -- for this text's walks alone
set_option linter.unusedVariables false
set_option linter.unusedSimpArgs false

/-! ### foretellkeep_Truth: function 28 -/
--IMPORT FGrownTake
--IMPORT Derived.WalkSpells
def foretellkeep_Truth.f (k : Nat) (l0 : List (S97)) (a1 : Int) : Option ((List (S35))) := (grown_truth.f k l0 a1 ⟨0, 0, []⟩ 3).bind fun st => some st.out
theorem foretellkeep_Truth.mono : ∀ a0 a1 k, LeO (foretellkeep_Truth.f k a0 a1) (foretellkeep_Truth.f (k + 1) a0 a1) := by
  intro a0 a1 k
  unfold foretellkeep_Truth.f
  exact LeO.bind (grown_truth.mono_f k _ _ _ _) (fun _ => LeO.refl _)
set_option maxHeartbeats 8000000 in
set_option maxRecDepth 100000 in
theorem foretellkeep_Truth.calls (k : Nat) (A0 : Option Addr) (c0 : Nat) (l0 : List (S97)) (a1 : Int) (r : List (S35)) (w : World) (hr0 : Kd.C k97 w A0 l0.length l0) (hc0 : l0.length ≤ c0) (h : foretellkeep_Truth.f k l0 a1 = some r) :
    Calls Tryd.prog 28 #[.slice A0 l0.length c0, .int .i64 a1] w fun e w' => ∃ v0_ : Value, e = .returned (v0_) ∧ Kd.R k35 35 w' w.heap.size (fun _ => True) v0_ r ∧ Below w.heap.size w w' := by
  have R0 := Aside0.mk hr0
  clear hr0 hc0
  unfold foretellkeep_Truth.f at h
  obtain ⟨st, h1, h⟩ := Option.bind_eq_some_iff.mp h
  obtain rfl := Option.some.inj h
  have H1 := Aside0.mk h1
  clear h h1
  go_enter Tryd.func28, Tryd.ntmps28
  go_wp2_with (first | ((with_reducible refine gate_dst (N := 9) rfl ?_); go_must (refine box_event ?hg (N := 9) ?hd (cs := #[.slice A0 l0.length c0, .int .i64 0, .int .i64 a1, .int .i64 0, .int .i64 0, .slice none 0 0]) (t := 81) ?hr ?_; (case hd => rfl); (case hg => rfl); (case hr => first | (go_simp; done) | (go_simp; rfl)); intro g hg w1 hbox hb; have HV := Aside0.mk (show GrownAt w w1 g A0 l0.length c0 a1 0 ⟨0, 0, []⟩ from ⟨_, hbox, Kd.R_nil _ _ _ _ _, hb⟩); have BG := Aside0.mk (show w.heap.size ≤ g by rw [hg]; exact Nat.le_refl _); clear hb hbox hg)) | (go_at_call 38; go_must (refine (grown_truth.calls w A0 c0 l0 g a1 0 R0.out BG.out k _ _ _ _ HV.out H1.out).mono ?_; rintro e w2 ⟨rfl, hv⟩; obtain ⟨vo, k2, ro, b2⟩ := hv; have K2 := Aside0.mk k2; have RO := Aside0.mk ro; have HB := Aside0.mk b2; clear k2 ro b2; have hcz5 : w2.cell? ⟨g, 5, none⟩ = some vo := (blk_cell K2.out 5).trans rfl)))
  go_ret
  exact ⟨_, rfl, RO.out, HB.out⟩

end Go.Proofs.YteennleoieafiaaDoor.P
end
section
namespace Go.Proofs.YteennleoieafiaaDoor.Q
open Go.RowKit Go.Proofs.YteennleoieafiaaDoorW.PrintWords Go.Proofs.YteennleoieafiaaDoorW.PrintMore Go.Proofs.YteennleoieafiaaDoor.P
set_option linter.unusedVariables false
inductive NumT (vars : Int) : Tm → Prop
  | num (v : Int) (h0 : -4 ≤ v) (h1 : v ≤ 4) : NumT vars (.leaf ⟨1, v⟩)
  | var (v : Int) (h0 : 0 ≤ v) (h1 : v < vars) : NumT vars (.leaf ⟨2, v⟩)
  | bin (o : Int) (a b : Tm) (h0 : 3 ≤ o) (h1 : o ≤ 5) (ha : NumT vars a) (hb : NumT vars b) : NumT vars (.bin ⟨o, 0⟩ a b)
inductive TruthT (vars : Int) : Tm → Prop
  | yes (o : Int) (h : o = 11 ∨ o = 12) : TruthT vars (.leaf ⟨o, 0⟩)
  | cmp (o : Int) (a b : Tm) (h : o = 6 ∨ o = 7) (ha : NumT vars a) (hb : NumT vars b) (hs : a.size ≤ 3 ∧ b.size ≤ 3) : TruthT vars (.bin ⟨o, 0⟩ a b)
  | not (a : Tm) (ha : TruthT vars a) : TruthT vars (.un ⟨10, 0⟩ a)
  | log (o : Int) (a b : Tm) (h : o = 8 ∨ o = 9) (ha : TruthT vars a) (hb : TruthT vars b) : TruthT vars (.bin ⟨o, 0⟩ a b)
theorem NumT.ok {vars : Int} {t : Tm} (h : NumT vars t) : t.ok := by
  induction h with
  | num v => exact ⟨(by decide : (1 : Int) ≤ 1), (by decide : (1 : Int) ≤ 18), (by decide : polish_Parts.tab.getD (1 : Int).toNat 0 = 0)⟩
  | var v => exact ⟨(by decide : (1 : Int) ≤ 2), (by decide : (2 : Int) ≤ 18), (by decide : polish_Parts.tab.getD (2 : Int).toNat 0 = 0)⟩
  | bin o a b h0 h1 _ _ iha ihb =>
    have : o = 3 ∨ o = 4 ∨ o = 5 := by omega
    rcases this with rfl | rfl | rfl <;> exact ⟨by decide, by decide, by decide, iha, ihb⟩
theorem TruthT.ok {vars : Int} {t : Tm} (h : TruthT vars t) : t.ok := by
  induction h with
  | yes o h => rcases h with rfl | rfl <;> exact ⟨by decide, by decide, by decide⟩
  | cmp o a b h ha hb _ => rcases h with rfl | rfl <;> exact ⟨by decide, by decide, by decide, ha.ok, hb.ok⟩
  | not a _ ih => exact ⟨by decide, by decide, by decide, ih⟩
  | log o a b h _ _ iha ihb => rcases h with rfl | rfl <;> exact ⟨by decide, by decide, by decide, iha, ihb⟩
theorem number_gen {raw : List Raw} (hw : rawWf raw) (vars : Int) (hv : vars ≤ 100) : ∀ (d : Nat), d ≤ 3 → ∀ (a tp : Int) (out : List Op), 0 ≤ a → a + (2 ^ (d + 1) : Nat) ≤ 100000 → out.length + 2 ^ (d + 1) ≤ 100000 →
    ∃ t, NumT vars t ∧ t.size + 1 ≤ 2 ^ (d + 1) ∧ (14 ≤ a → t.size = 1) ∧ Ev (fun k => grown_number.f k raw vars ⟨a, tp, out⟩ (d : Int)) ⟨a + t.size, tp, out ++ t.flat⟩ := by
  intro d
  induction d with
  | zero =>
    intro _ a tp out h0 h1 ho
    obtain ⟨r, hr, w0, w1⟩ := take_is hw a tp out h0 (by omega)
    have p5 := picked_is w0 (m := 5) (by decide)
    have p2 := picked_is w0 (m := 2) (by decide)
    have l2 := pk_lo r.f0 (m := 2) (by decide)
    have u2 := pk_hi r.f0 (m := 2) (by decide)
    generalize pk r.f0 2 = op at *
    by_cases c : op = 1 ∧ 0 < vars
    · have pv := picked_is w1 (m := vars) c.2
      have lv := pk_lo r.f1 c.2
      have uv := pk_hi r.f1 c.2
      generalize pk r.f1 vars = v at *
      refine ⟨.leaf ⟨2, v⟩, .var v lv uv, by simp [Tm.size], fun _ => rfl, Ev.step (f := fun _ => some ⟨a + 1, tp, out ++ [⟨2, v⟩]⟩) (fun k => ?_) (Ev.now _)⟩
      simp only [grown_number.f, hr, p5, p2, Option.bind_some]
      rw [if_pos (.inl rfl), Option.bind_some, if_pos c, pv, Option.bind_some, put_ok _ _ _ _ _ (by omega)]
    · have pv := picked_is w1 (m := 9) (by decide)
      have lv := pk_lo r.f1 (m := 9) (by decide)
      have uv := pk_hi r.f1 (m := 9) (by decide)
      generalize pk r.f1 9 = v at *
      refine ⟨.leaf ⟨1, v - 4⟩, .num (v - 4) (by omega) (by omega), by simp [Tm.size], fun _ => rfl, Ev.step (f := fun _ => some ⟨a + 1, tp, out ++ [⟨1, v - 4⟩]⟩) (fun k => ?_) (Ev.now _)⟩
      simp only [grown_number.f, hr, p5, p2, Option.bind_some]
      rw [if_pos (.inl rfl), Option.bind_some, if_neg c, if_pos (by omega), pv, Option.bind_some, w64 (n := v - 4) (by omega) (by omega), put_ok _ _ _ _ _ (by omega)]
  | succ d ih =>
    intro hd a tp out h0 h1 ho
    have hpow : 2 ≤ 2 ^ (d + 1) := by
      have : 2 ^ (d + 1) = 2 ^ d * 2 := Nat.pow_succ 2 d
      have : 0 < 2 ^ d := Nat.pow_pos (by decide)
      omega
    have hpow2 : 2 ^ (d + 1 + 1) = 2 ^ (d + 1) * 2 := Nat.pow_succ 2 (d + 1)
    have hpow3 : 2 ^ (d + 1) ≤ 8 := by
      have : d + 1 ≤ 3 := hd
      exact Nat.pow_le_pow_right (by decide) this
    obtain ⟨r, hr, w0, w1⟩ := take_is hw a tp out h0 (by omega)
    have p5 := picked_is w0 (m := 5) (by decide)
    have p2 := picked_is w0 (m := 2) (by decide)
    have l2 := pk_lo r.f0 (m := 2) (by decide)
    have u2 := pk_hi r.f0 (m := 2) (by decide)
    have l5 := pk_lo r.f0 (m := 5) (by decide)
    have u5 := pk_hi r.f0 (m := 5) (by decide)
    obtain ⟨op, hop, o0, o1, o2⟩ : ∃ op : Int, (if ((d + 1 : Nat) : Int) = 0 ∨ 14 < a + 1 then foretellkeep_picked.f r.f0 2 else some (pk r.f0 5)) = some op ∧ 0 ≤ op ∧ op < 5 ∧ (14 ≤ a → op < 2) := by
      by_cases c : ((d + 1 : Nat) : Int) = 0 ∨ 14 < a + 1
      · rw [if_pos c, p2]
        exact ⟨_, rfl, l2, by omega, fun _ => u2⟩
      · rw [if_neg c]
        exact ⟨_, rfl, l5, u5, by omega⟩
    by_cases c : op = 1 ∧ 0 < vars
    · have pv := picked_is w1 (m := vars) c.2
      have lv := pk_lo r.f1 c.2
      have uv := pk_hi r.f1 c.2
      generalize pk r.f1 vars = v at *
      refine ⟨.leaf ⟨2, v⟩, .var v lv uv, by simp [Tm.size]; omega, fun _ => rfl, Ev.step (f := fun _ => some ⟨a + 1, tp, out ++ [⟨2, v⟩]⟩) (fun k => ?_) (Ev.now _)⟩
      simp only [grown_number.f, hr, p5, Option.bind_some]
      rw [hop, Option.bind_some, if_pos c, pv, Option.bind_some, put_ok _ _ _ _ _ (by omega)]
    · by_cases c2 : op < 2
      · have pv := picked_is w1 (m := 9) (by decide)
        have lv := pk_lo r.f1 (m := 9) (by decide)
        have uv := pk_hi r.f1 (m := 9) (by decide)
        generalize pk r.f1 9 = v at *
        refine ⟨.leaf ⟨1, v - 4⟩, .num (v - 4) (by omega) (by omega), by simp [Tm.size]; omega, fun _ => rfl, Ev.step (f := fun _ => some ⟨a + 1, tp, out ++ [⟨1, v - 4⟩]⟩) (fun k => ?_) (Ev.now _)⟩
        simp only [grown_number.f, hr, p5, Option.bind_some]
        rw [hop, Option.bind_some, if_neg c, if_pos c2, pv, Option.bind_some, w64 (n := v - 4) (by omega) (by omega), put_ok _ _ _ _ _ (by omega)]
      · obtain ⟨t1, n1, s1, _, e1⟩ := ih (by omega) (a + 1) tp (out ++ [⟨1 + op, 0⟩]) (by omega) (by omega) (by rw [List.length_append, List.length_singleton]; omega)
        obtain ⟨t2, n2, s2, _, e2⟩ := ih (by omega) (a + 1 + t1.size) tp (out ++ [⟨1 + op, 0⟩] ++ t1.flat) (by omega) (by omega) (by rw [List.length_append, List.length_append, List.length_singleton, Tm.flat_len]; omega)
        refine ⟨.bin ⟨1 + op, 0⟩ t1 t2, .bin _ _ _ (by omega) (by omega) n1 n2, by simp only [Tm.size]; omega, fun h => by have := o2 h; omega, ?_⟩
        refine Ev.step (f := fun k => (grown_number.f k raw vars ⟨a + 1, tp, out ++ [⟨1 + op, 0⟩]⟩ (d : Int)).bind fun s2 => grown_number.f k raw vars s2 (d : Int)) (fun k => ?_) (Ev.bind e1 ?_)
        · simp only [grown_number.f, hr, p5, Option.bind_some]
          rw [hop, Option.bind_some, if_neg c, if_neg c2, w64 (n := 3 + op) (by omega) (by omega), w64 (n := 3 + op - 2) (by omega) (by omega), put_ok _ _ _ _ _ (by omega), Option.bind_some, w64 (n := ((d + 1 : Nat) : Int) - 1) (by omega) (by omega), show ((d + 1 : Nat) : Int) - 1 = (d : Int) by omega, show 3 + op - 2 = 1 + op by omega]
        · have e : (⟨a + (Tm.bin ⟨1 + op, 0⟩ t1 t2).size, tp, out ++ (Tm.bin ⟨1 + op, 0⟩ t1 t2).flat⟩ : GrSt) = ⟨a + 1 + t1.size + t2.size, tp, out ++ [⟨1 + op, 0⟩] ++ t1.flat ++ t2.flat⟩ := by
            simp [Tm.size, Tm.flat]
            omega
          rw [e]
          exact e2
theorem truth_gen {raw : List Raw} (hw : rawWf raw) (vars : Int) (hv : vars ≤ 100) : ∀ (d : Nat) (a tp : Int) (out : List Op), d ≤ 10 → 0 ≤ a → a + 1000 * d ≤ 40000 → out.length + 1000 * d ≤ 40000 →
    ∃ t, TruthT vars t ∧ ((a ≤ 9 → a + t.size ≤ 16 + 3 * d) ∧ (10 ≤ a → t.size ≤ 6) ∧ (13 ≤ a → t.size ≤ 3)) ∧ Ev (fun k => grown_truth.f k raw vars ⟨a, tp, out⟩ (d : Int)) ⟨a + t.size, tp, out ++ t.flat⟩ := by
  have hcmp : ∀ (o : Int), (o = 6 ∨ o = 7) → ∀ (a tp : Int) (out : List Op), 0 ≤ a → a ≤ 50000 → out.length ≤ 50000 →
      ∃ t, TruthT vars t ∧ (t.size ≤ 7 ∧ (10 ≤ a → t.size ≤ 6) ∧ (13 ≤ a → t.size ≤ 3)) ∧ Ev (fun k => (grown_number.f k raw vars ⟨a + 1, tp, out ++ [⟨o, 0⟩]⟩ 1).bind fun s2 => grown_number.f k raw vars s2 1) ⟨a + t.size, tp, out ++ t.flat⟩ := by
    intro o ho a tp out h0 h1 hl
    obtain ⟨t1, n1, s1, z1, e1⟩ := number_gen hw vars hv 1 (by decide) (a + 1) tp (out ++ [⟨o, 0⟩]) (by omega) (by omega) (by rw [List.length_append, List.length_singleton]; omega)
    obtain ⟨t2, n2, s2, z2, e2⟩ := number_gen hw vars hv 1 (by decide) (a + 1 + t1.size) tp (out ++ [⟨o, 0⟩] ++ t1.flat) (by omega) (by omega) (by rw [List.length_append, List.length_append, List.length_singleton, Tm.flat_len]; omega)
    have q1 := t1.size_pos
    have q2 := t2.size_pos
    refine ⟨.bin ⟨o, 0⟩ t1 t2, .cmp _ _ _ ho n1 n2 ⟨by omega, by omega⟩, by simp only [Tm.size]; refine ⟨?_, ?_, ?_⟩ <;> omega, Ev.bind e1 ?_⟩
    have e : (⟨a + (Tm.bin ⟨o, 0⟩ t1 t2).size, tp, out ++ (Tm.bin ⟨o, 0⟩ t1 t2).flat⟩ : GrSt) = ⟨a + 1 + t1.size + t2.size, tp, out ++ [⟨o, 0⟩] ++ t1.flat ++ t2.flat⟩ := by
      simp [Tm.size, Tm.flat]
      omega
    rw [e]
    exact e2
  intro d
  induction d with
  | zero =>
    intro a tp out hd h0 h1 ho
    obtain ⟨r, hr, w0, w1⟩ := take_is hw a tp out h0 (by omega)
    have p9 := picked_is w0 (m := 9) (by decide)
    have p3 := picked_is w0 (m := 3) (by decide)
    have l3 := pk_lo r.f0 (m := 3) (by decide)
    have u3 := pk_hi r.f0 (m := 3) (by decide)
    generalize pk r.f0 3 = op at *
    have hop : op = 0 ∨ op = 1 ∨ op = 2 := by omega
    rcases hop with rfl | rfl | rfl
    · have pv := picked_is w1 (m := 2) (by decide)
      have lv := pk_lo r.f1 (m := 2) (by decide)
      have uv := pk_hi r.f1 (m := 2) (by decide)
      generalize pk r.f1 2 = v at *
      refine ⟨.leaf ⟨11 + v, 0⟩, .yes _ (by omega), by simp only [Tm.size]; refine ⟨?_, ?_, ?_⟩ <;> omega, Ev.step (f := fun _ => some ⟨a + 1, tp, out ++ [⟨11 + v, 0⟩]⟩) (fun k => ?_) (Ev.now _)⟩
      simp only [grown_truth.f, hr, p9, p3, Option.bind_some]
      rw [if_pos (.inl rfl), Option.bind_some, if_pos rfl, pv, Option.bind_some, w64 (n := 11 + v) (by omega) (by omega), put_ok _ _ _ _ _ (by omega)]
    · obtain ⟨t, ht, hs, he⟩ := hcmp 7 (.inr rfl) a tp out h0 (by omega) (by omega)
      refine ⟨t, ht, by omega, Ev.step (fun k => ?_) he⟩
      simp only [grown_truth.f, hr, p9, p3, Option.bind_some]
      rw [if_pos (.inl rfl), Option.bind_some, if_neg (by decide), if_pos (.inl rfl), put_ok _ _ _ _ _ (by omega), Option.bind_some]
    · obtain ⟨t, ht, hs, he⟩ := hcmp 6 (.inl rfl) a tp out h0 (by omega) (by omega)
      refine ⟨t, ht, by omega, Ev.step (fun k => ?_) he⟩
      simp only [grown_truth.f, hr, p9, p3, Option.bind_some]
      rw [if_pos (.inl rfl), Option.bind_some, if_neg (by decide), if_neg (by decide), if_pos (.inl rfl), put_ok _ _ _ _ _ (by omega), Option.bind_some]
  | succ d ih =>
    intro a tp out hd h0 h1 ho
    obtain ⟨r, hr, w0, w1⟩ := take_is hw a tp out h0 (by omega)
    have p9 := picked_is w0 (m := 9) (by decide)
    have p3 := picked_is w0 (m := 3) (by decide)
    have l3 := pk_lo r.f0 (m := 3) (by decide)
    have u3 := pk_hi r.f0 (m := 3) (by decide)
    have l9 := pk_lo r.f0 (m := 9) (by decide)
    have u9 := pk_hi r.f0 (m := 9) (by decide)
    obtain ⟨op, hop, o0, o1, o2⟩ : ∃ op : Int, (if ((d + 1 : Nat) : Int) = 0 ∨ 10 < a + 1 then foretellkeep_picked.f r.f0 3 else some (pk r.f0 9)) = some op ∧ 0 ≤ op ∧ op < 9 ∧ (10 ≤ a → op < 3) := by
      by_cases c : ((d + 1 : Nat) : Int) = 0 ∨ 10 < a + 1
      · rw [if_pos c, p3]
        exact ⟨_, rfl, l3, by omega, fun _ => u3⟩
      · rw [if_neg c]
        exact ⟨_, rfl, l9, u9, by omega⟩
    by_cases c0 : op = 0
    · have pv := picked_is w1 (m := 2) (by decide)
      have lv := pk_lo r.f1 (m := 2) (by decide)
      have uv := pk_hi r.f1 (m := 2) (by decide)
      generalize pk r.f1 2 = v at *
      refine ⟨.leaf ⟨11 + v, 0⟩, .yes _ (by omega), by simp only [Tm.size]; refine ⟨?_, ?_, ?_⟩ <;> omega, Ev.step (f := fun _ => some ⟨a + 1, tp, out ++ [⟨11 + v, 0⟩]⟩) (fun k => ?_) (Ev.now _)⟩
      simp only [grown_truth.f, hr, p9, Option.bind_some]
      rw [hop, Option.bind_some, if_pos c0, pv, Option.bind_some, w64 (n := 11 + v) (by omega) (by omega), put_ok _ _ _ _ _ (by omega)]
    by_cases c1 : op = 1 ∨ op = 3
    · obtain ⟨t, ht, hs, he⟩ := hcmp 7 (.inr rfl) a tp out h0 (by omega) (by omega)
      refine ⟨t, ht, by omega, Ev.step (fun k => ?_) he⟩
      simp only [grown_truth.f, hr, p9, Option.bind_some]
      rw [hop, Option.bind_some, if_neg c0, if_pos c1, put_ok _ _ _ _ _ (by omega), Option.bind_some]
    by_cases c2 : op = 2 ∨ op = 4
    · obtain ⟨t, ht, hs, he⟩ := hcmp 6 (.inl rfl) a tp out h0 (by omega) (by omega)
      refine ⟨t, ht, by omega, Ev.step (fun k => ?_) he⟩
      simp only [grown_truth.f, hr, p9, Option.bind_some]
      rw [hop, Option.bind_some, if_neg c0, if_neg c1, if_pos c2, put_ok _ _ _ _ _ (by omega), Option.bind_some]
    by_cases c3 : op = 5
    · obtain ⟨t1, n1, s1, e1⟩ := ih (a + 1) tp (out ++ [⟨10, 0⟩]) (by omega) (by omega) (by omega) (by rw [List.length_append, List.length_singleton]; omega)
      refine ⟨.un ⟨10, 0⟩ t1, .not _ n1, by simp only [Tm.size]; refine ⟨?_, ?_, ?_⟩ <;> omega, ?_⟩
      refine Ev.step (f := fun k => grown_truth.f k raw vars ⟨a + 1, tp, out ++ [⟨10, 0⟩]⟩ (d : Int)) (fun k => ?_) ?_
      · simp only [grown_truth.f, hr, p9, Option.bind_some]
        rw [hop, Option.bind_some, if_neg c0, if_neg c1, if_neg c2, if_pos c3, put_ok _ _ _ _ _ (by omega), Option.bind_some, w64 (n := ((d + 1 : Nat) : Int) - 1) (by omega) (by omega), show ((d + 1 : Nat) : Int) - 1 = (d : Int) by omega]
      · have e : (⟨a + (Tm.un ⟨10, 0⟩ t1).size, tp, out ++ (Tm.un ⟨10, 0⟩ t1).flat⟩ : GrSt) = ⟨a + 1 + t1.size, tp, out ++ [⟨10, 0⟩] ++ t1.flat⟩ := by
          simp [Tm.size, Tm.flat]
          omega
        rw [e]
        exact e1
    · have hm := Int.tmod_eq_emod_of_nonneg (a := op) (b := 2) o0
      have hkind : ∃ o : Int, (o = 8 ∨ o = 9) ∧ 8 + Int.tmod op 2 = o := ⟨_, by omega, rfl⟩
      obtain ⟨o, ho89, hko⟩ := hkind
      obtain ⟨t1, n1, s1, e1⟩ := ih (a + 1) tp (out ++ [⟨o, 0⟩]) (by omega) (by omega) (by omega) (by rw [List.length_append, List.length_singleton]; omega)
      obtain ⟨t2, n2, s2, e2⟩ := ih (a + 1 + t1.size) tp (out ++ [⟨o, 0⟩] ++ t1.flat) (by omega) (by omega) (by omega) (by rw [List.length_append, List.length_append, List.length_singleton, Tm.flat_len]; omega)
      refine ⟨.bin ⟨o, 0⟩ t1 t2, .log _ _ _ ho89 n1 n2, by simp only [Tm.size]; refine ⟨?_, ?_, ?_⟩ <;> omega, ?_⟩
      refine Ev.step (f := fun k => (grown_truth.f k raw vars ⟨a + 1, tp, out ++ [⟨o, 0⟩]⟩ (d : Int)).bind fun s2 => grown_truth.f k raw vars s2 (d : Int)) (fun k => ?_) (Ev.bind e1 ?_)
      · simp only [grown_truth.f, hr, p9, Option.bind_some]
        rw [hop, Option.bind_some, if_neg c0, if_neg c1, if_neg c2, if_neg c3, hko, w64 (n := o) (by omega) (by omega), put_ok _ _ _ _ _ (by omega), Option.bind_some, w64 (n := ((d + 1 : Nat) : Int) - 1) (by omega) (by omega), show ((d + 1 : Nat) : Int) - 1 = (d : Int) by omega]
      · have e : (⟨a + (Tm.bin ⟨o, 0⟩ t1 t2).size, tp, out ++ (Tm.bin ⟨o, 0⟩ t1 t2).flat⟩ : GrSt) = ⟨a + 1 + t1.size + t2.size, tp, out ++ [⟨o, 0⟩] ++ t1.flat ++ t2.flat⟩ := by
          simp [Tm.size, Tm.flat]
          omega
        rw [e]
        exact e2
theorem truth_is {raw : List Raw} (hw : rawWf raw) (vars : Int) (hv : vars ≤ 100) : ∃ t, TruthT vars t ∧ t.size ≤ 25 ∧ Ev (fun k => foretellkeep_Truth.f k raw vars) t.flat := by
  obtain ⟨t, ht, hs, he⟩ := truth_gen hw vars hv 3 0 0 [] (by decide) (by decide) (by decide) (by decide)
  refine ⟨t, ht, by omega, ?_⟩
  unfold foretellkeep_Truth.f
  exact Ev.bind he (Ev.now _)
theorem number_is {raw : List Raw} (hw : rawWf raw) (vars : Int) (hv : vars ≤ 100) : ∃ t, NumT vars t ∧ t.size ≤ 7 ∧ Ev (fun k => foretellkeep_Number.f k raw vars) t.flat := by
  obtain ⟨t, ht, hs, _, he⟩ := number_gen hw vars hv 2 (by decide) 0 0 [] (by decide) (by decide) (by decide)
  refine ⟨t, ht, by omega, ?_⟩
  unfold foretellkeep_Number.f
  exact Ev.bind he (Ev.now _)
end Go.Proofs.YteennleoieafiaaDoor.Q
end
section
namespace Go.Proofs.YteennleoieafiaaDoor.P
open Go.RowKit Go.Proofs.YteennleoieafiaaDoorW.PrintWords Go.Proofs.YteennleoieafiaaDoorW.PrintLast Go.Proofs.YteennleoieafiaaDoorW.PrintMore Go.Proofs.YteennleoieafiaaDoor.G
attribute [local go_sem] max2_int min2_int max_two min_two max_three min_three max_four min_four   -- for this text's walks alone
set_option linter.unusedVariables false
set_option linter.unusedSimpArgs false

/-! ### foretellkeep_joined: function 34 -/
def foretellkeep_joined.l0 : Nat → List (List (S35)) → List (S35) → Int → Option ((List (S35)))
  | 0, _, _, _ => none
  | k + 1, x1, x5, x6 => if x6 < (x1.length : Int) then (if 0 ≤ x6 then (if x5.length + (rd_L4 x1 x6).length < 8796093022208 then (foretellkeep_joined.l0 k x1 (x5 ++ (rd_L4 x1 x6)) (wrap64 (x6 + 1))) else (none)) else (none)) else (some x5)
def foretellkeep_joined.f (k : Nat) (a0 : Int) (l1 : List (List (S35))) : Option ((List (S35))) := foretellkeep_joined.l0 k l1 (([(⟨a0, 0⟩ : S35)] : List (S35))) 0
theorem foretellkeep_joined.mono_l : ∀ k, (∀ y0 y1 y2, LeO (foretellkeep_joined.l0 k y0 y1 y2) (foretellkeep_joined.l0 (k + 1) y0 y1 y2))
  | 0 => fun _ _ _ r h => by simp [foretellkeep_joined.l0] at h
  | k + 1 => by
    have ih0 := foretellkeep_joined.mono_l k
    · intro y0 y1 y2
      unfold foretellkeep_joined.l0
      repeat' first
      | (with_reducible exact ih0 _ _ _)
      | (with_reducible exact LeO.refl _)
      | (with_reducible exact LeO.none _)
      | (with_reducible refine LeO.ite ?_ ?_)
      | (with_reducible refine LeO.bind ?_ (fun _ => ?_))
      | exact ih0 _ _ _
      | exact LeO.none _
      | refine LeO.ite ?_ ?_
      | refine LeO.bind ?_ (fun _ => ?_)
theorem foretellkeep_joined.mono : ∀ a0 a1 k, LeO (foretellkeep_joined.f k a0 a1) (foretellkeep_joined.f (k + 1) a0 a1) := by
  intro a0 a1 k
  have ih0 := foretellkeep_joined.mono_l k
  unfold foretellkeep_joined.f
  repeat' first
      | (with_reducible exact ih0 _ _ _)
      | (with_reducible exact LeO.refl _)
      | (with_reducible exact LeO.none _)
      | (with_reducible refine LeO.ite ?_ ?_)
      | (with_reducible refine LeO.bind ?_ (fun _ => ?_))
      | exact ih0 _ _ _
      | exact LeO.none _
      | refine LeO.ite ?_ ?_
      | refine LeO.bind ?_ (fun _ => ?_)
set_option maxHeartbeats 8000000 in
set_option maxRecDepth 100000 in
theorem foretellkeep_joined.calls (k : Nat) (a0 : Int) (A1 : Option Addr) (c1 : Nat) (l1 : List (List (S35))) (r : List (S35)) (w : World) (hr1 : Kd.C (Kd.slice 35 k35) w A1 l1.length l1) (hc1 : l1.length ≤ c1) (h : foretellkeep_joined.f k a0 l1 = some r) :
    Calls Tryd.prog 34 #[.int .i64 a0, .slice A1 l1.length c1] w fun e w' => ∃ v0_ : Value, e = .returned (v0_) ∧ Kd.R k35 35 w' w.heap.size (fun _ => True) v0_ r ∧ Below w.heap.size w w' := by
  have hu35 := Tryd.underlying35
  have HR1 := Aside0.mk hr1
  have HC1 := Aside0.mk hc1
  clear hr1 hc1
  have HB := Aside0.mk (Below.refl w.heap.size w)
  have H : (foretellkeep_joined.l0 k l1 (([(⟨a0, 0⟩ : S35)] : List (S35))) 0) = some r := h
  clear h
  obtain ⟨y294, hy294⟩ : ∃ y_ : List (S35), y_ = (([(⟨a0, 0⟩ : S35)] : List (S35))) := ⟨_, rfl⟩
  replace H : (foretellkeep_joined.l0 k l1 y294 0) = some r := by first | (rw [hy294]; with_reducible exact H) | (have H2_ := (Option.bind_some _ _).symm.trans H; rw [hy294]; with_reducible exact H2_) | (have H2_ := (Option.bind_some _ _).symm.trans H; with_reducible exact H2_) | with_reducible exact H | (rw [hy294]; exact H) | exact H
  have Ny294 := Aside0.mk hy294
  clear hy294
  have H' := Aside0.mk H
  clear H
  go_enter Tryd.func34, Tryd.ntmps34
  go_wp2_with (first | ((with_reducible refine gate_dst (N := 9) rfl ?_); refine Kd.R_lit k35 _ 35 ?hg (N := 9) ?hd (xs := ([(⟨a0, 0⟩ : S35)] : List (S35))) (inner := [.int .i64 a0, .int .i64 0]) (ok := fun _ => True) (okp := fun _ => True) ?hr ?hp (fun _ hk => hk) trivial (Below.refl _ _) (Nat.le_refl _) (by simp) ?_; (case hd => rfl); (case hg => rfl); (case hr => first | (go_simp; done) | (go_simp; rfl)); (case hp => exact (Reps.c2 (show Kd.M k35 _ _ _ (⟨a0, 0⟩ : S35) [.int .i64 a0, .int .i64 0] from (k35_mkM _ _ _ (⟨a0, 0⟩ : S35) )) (Reps.none _ _))); intro v295 w3 ho4 hb hg_ hnew_; clear hg_ hnew_; (first | rw [← Ny294.out] at ho4 | (simp only [Int.reduceToNat] at ho4; rw [← Ny294.out] at ho4)); have n0_ := Aside0.mk (Kd.R_lower ho4 (below_size (by repeat (first | (with_reducible first | exact HB.out | apply below_alloc | apply pw_below_drewN | apply below_drew1) | exact HB.out)))); have n1_ := Aside0.mk (below_step (by repeat (first | (with_reducible first | exact HB.out | apply below_alloc | apply pw_below_drewN | apply below_drew1) | exact HB.out)) hb); clear HB; have HO296 := n0_; have HB := n1_; clear n0_ n1_; clear hb ho4))
  go_loopg [5, 6] k (fun kq v5 v6 w' => ∃ (x5_1 : List (S35)) (x6_1 : Int), v6 = .int .i64 x6_1 ∧ Aside0 (foretellkeep_joined.l0 kq l1 x5_1 x6_1 = some r) ∧ Aside0 (kq ≤ k) ∧ Aside0 (Kd.R k35 35 w' w.heap.size (fun _ => True) v5 x5_1) ∧ Aside0 (Below w.heap.size w w'))
  case atStart => exact ⟨(y294), (0), (by first | rfl | (simp; done) | (simp [*]; done)), H', ⟨Nat.le_refl _⟩, ⟨by (with_reducible repeat (first | apply Kd.R_alloc | apply Kd.R_drewN | apply Kd.R_drew)); exact HO296.out⟩, ⟨by repeat (first | (with_reducible first | exact HB.out | apply below_alloc | apply pw_below_drewN | apply below_drew1) | exact HB.out)⟩⟩
  case round =>
    clear H'
    try clear c1
    try clear c2
    try clear p2
    try clear c3
    obtain ⟨x5_1, x6_1, rfl, HA, HK1, HO_5, HB⟩ := hrel
    cases gk with
    | zero => exact absurd HA.out (by simp [foretellkeep_joined.l0])
    | succ k1 =>
      have H := HA.out
      clear HA
      simp only [foretellkeep_joined.l0] at H
      by_cases c5 : x6_1 < (l1.length : Int)
      · rw [if_pos c5] at H
        have c5b0 : decide (x6_1 < (l1.length : Int)) = true := decide_eq_true c5
        clear c5
        by_cases c6 : 0 ≤ x6_1
        · rw [if_pos c6] at H
          have c6b0 : decide (0 ≤ x6_1) = true := decide_eq_true c6
          clear c6
          by_cases c7 : x5_1.length + (rd_L4 l1 x6_1).length < 8796093022208
          · rw [if_pos c7] at H
            have LMc7 := Aside0.mk c7
            clear c7
            obtain ⟨y298, hy298⟩ : ∃ y_ : List (S35), y_ = (x5_1 ++ (rd_L4 l1 x6_1)) := ⟨_, rfl⟩
            replace H : (foretellkeep_joined.l0 k1 l1 y298 (wrap64 (x6_1 + 1))) = some r := by first | (rw [hy298]; with_reducible exact H) | (have H2_ := (Option.bind_some _ _).symm.trans H; rw [hy298]; with_reducible exact H2_) | (have H2_ := (Option.bind_some _ _).symm.trans H; with_reducible exact H2_) | with_reducible exact H | (rw [hy298]; exact H) | exact H
            have Ny298 := Aside0.mk hy298
            clear hy298
            have H' := Aside0.mk H
            clear H
            have p297 : 0 ≤ (x6_1 : Int) := of_decide_eq_true (by first | (with_reducible assumption) | assumption)
            have q297 : x6_1 < (l1.length : Int) := of_decide_eq_true (by first | (with_reducible assumption) | assumption)
            obtain ⟨ad297, A297_0, c297_0, e297, hx297_0, hl297_0, hi297_0⟩ := at_L4 HR1.out x6_1 p297 q297
            cases e297
            replace hx297_0 := (HB.out.cell (World.block_lt_of_cell? w _ hx297_0)).trans hx297_0
            have HR297_0 := Aside0.mk hi297_0
            have HC297_0 := Aside0.mk hl297_0
            clear hi297_0 hl297_0
            replace p297 := eq_true p297
            replace q297 := eq_true q297
            go_wp2_with (first | ((with_reducible refine gate_builtin (b := .append) (xs := #[.tmp 16, .tmp 20]) rfl ?_); at_builtin; refine Kd.R_append_rows k35 (w0 := w) w.heap.size rfl (.tmp 16) (.tmp 20) 36 35 (.agg #[(.int .i64 0), (.int .i64 0)]) 16 rfl Tryd.underlying36 info35 rfl (by decide) (by omega) u5 x5_1 (rd_L4 l1 x6_1) _ _ _ (fun _ => True) (fun _ => False) rfl rfl ?aO ?aR (fun _ _ h => h) (fun _ h => h.elim) ?aF ?aB ?aS ?aL ?_; (case aR => repeat (first | exact (Kd.C_below HR297_0.out HB.out) | (with_reducible refine Kd.C_alloc ?_ _) | (with_reducible refine Kd.C_drewN ?_ _) | (with_reducible refine Kd.C_drew ?_))); (case aB => exact (by repeat (first | (with_reducible first | exact HB.out | apply below_alloc | apply pw_below_drewN | apply below_drew1) | exact HB.out))); (case aF => exact (fun _ _ => trivial)); (case aO => exact (by (with_reducible repeat (first | apply Kd.R_alloc | apply Kd.R_drewN | apply Kd.R_drew)); exact HO_5.out)); (case aS => exact (below_size (by repeat (first | (with_reducible first | exact HB.out | apply below_alloc | apply pw_below_drewN | apply below_drew1) | exact HB.out)))); (case aL => have := LMc7.out; omega); intro v299 w8 ho hb hg hat; rw [← Ny298.out] at ho; have n0_ := Aside0.mk (hb); have n1_ := Aside0.mk (ho); clear HB; clear HO_5; have HB := n0_; have HO300 := n1_; clear n0_ n1_; clear ho hb hg hat))
            go_roundg k1
            case measure => have := HK1.out; omega
            case rel => exact ⟨(y298), (wrap64 (x6_1 + 1)), (by first | rfl | (simp; done) | (simp [*]; done)), H', ⟨by have := HK1.out; omega⟩, ⟨by (with_reducible repeat (first | apply Kd.R_alloc | apply Kd.R_drewN | apply Kd.R_drew)); exact HO300.out⟩, ⟨by repeat (first | (with_reducible first | exact HB.out | apply below_alloc | apply pw_below_drewN | apply below_drew1) | exact HB.out)⟩⟩
          · rw [if_neg c7] at H
            exact absurd H (by simp)
        · rw [if_neg c6] at H
          exact absurd H (by simp)
      · rw [if_neg c5] at H
        have c5b0 : decide (x6_1 < (l1.length : Int)) = false := decide_eq_false c5
        clear c5
        obtain rfl := Option.some.inj H
        go_wp2
        go_ret
        exact ⟨_, by first | rfl | (simp [errW_none, errW_some] <;> rfl) | (simp [*, errW_none, errW_some] <;> rfl), by (with_reducible repeat (first | apply Kd.R_alloc | apply Kd.R_drewN | apply Kd.R_drew)); exact HO_5.out, by repeat (first | (with_reducible first | exact HB.out | apply below_alloc | apply pw_below_drewN | apply below_drew1) | exact HB.out)⟩

end Go.Proofs.YteennleoieafiaaDoor.P
end
section
namespace Go.Proofs.YteennleoieafiaaDoor.Q
open Go.RowKit Go.Proofs.YteennleoieafiaaDoorW.PrintWords Go.Proofs.YteennleoieafiaaDoorW.PrintMore Go.Proofs.YteennleoieafiaaDoor.P
set_option linter.unusedVariables false
end Go.Proofs.YteennleoieafiaaDoor.Q
end
section
/- How a law's arguments, whatever their type is made of (numbers, truths, texts, slices, structs, short arrays), read as the printed kinds. Nothing of the program stands here. -/
namespace Go.Proofs.YteennleoieafiaaDoor.O
open Go.RowKit Go.Deep Go.Proofs.YteennleoieafiaaDoorW.PrintWords Go.Proofs.YteennleoieafiaaDoorW.PrintLast Go.Proofs.YteennleoieafiaaDoorW.PrintMore
set_option linter.unusedVariables false
variable {P : Program}

/-- What reads as data of type t reads as kind d, and is well formed. -/
def Opens (P : Program) (t : TypeId) {α : Type} (d : Kd α) (wf : α → Prop) : Prop :=
  ∀ {H : Type} {enc : TypeId × Value → H} {w : World} {base : Nat} {spare : Nat → Bool} {held : Bool} {fuel : Nat} {cs : List Value} {x : DataW H × List MemPlace},
    DataW.trod enc P w base spare held fuel t cs = some x → ∃ a, d.K w a cs ∧ wf a

theorem opens_int {t : TypeId} {k : IntKind} (ht : P.underlying t = some (.int k)) : Opens P t (Kd.int k) (fun n => (Lit.int k n).wf = true) := by
  intro H enc w base spare held fuel cs x h
  obtain ⟨n, rfl, _, hw⟩ := DataW.trod_int ht h
  exact ⟨n, rfl, hw⟩
theorem opens_bool {t : TypeId} (ht : P.underlying t = some .bool) : Opens P t Kd.bool (fun _ => True) := by
  intro H enc w base spare held fuel cs x h
  obtain ⟨n, rfl, _⟩ := DataW.trod_bool ht h
  exact ⟨n, rfl, trivial⟩
theorem opens_string {t : TypeId} (ht : P.underlying t = some .string) : Opens P t Kd.string (fun s => s.size ≤ maxLen) := by
  intro H enc w base spare held fuel cs x h
  obtain ⟨n, rfl, _, hw⟩ := DataW.trod_string ht h
  exact ⟨n, rfl, hw⟩
theorem opens_iso {t : TypeId} {α β : Type} {d : Kd α} {wf : α → Prop} (h : Opens P t d wf) (f : β → α) (g : α → β) (hg : ∀ a, f (g a) = a) : Opens P t (Kd.iso d f) (fun b => wf (f b)) := by
  intro H enc w base spare held fuel cs x hx
  obtain ⟨a, ha, hw⟩ := h hx
  exact ⟨g a, by show d.K w (f (g a)) cs; rw [hg]; exact ha, by show wf (f (g a)); rw [hg]; exact hw⟩
theorem opens_slice {t e : TypeId} {α : Type} {d : Kd α} {wf : α → Prop} (ht : P.underlying t = some (.slice e)) (hc : P.cellsOf e = d.sz) (h : Opens P e d wf) :
    Opens P t (Kd.slice e d) (fun l => l.length ≤ maxLen ∧ ∀ a ∈ l, wf a) := by
  intro H enc w base spare held fuel cs x hx
  rcases open_slice ht hx with ⟨rfl, _⟩ | ⟨ad, len, cap, m, n, D, Pl, rfl, hb, hl, hm, hmm, _, hel⟩
  · exact ⟨[], ⟨none, 0, rfl, Nat.le_refl _, rfl, by simp, fun hh => absurd hh (Nat.lt_irrefl 0)⟩, by simp, fun a ha => by simp at ha⟩
  · have hlm : len ≤ m := by rw [hmm]; split <;> omega
    have hex : ∀ i, i < len → ∃ a, (∃ cs', w.cells? base (ad.add (i * P.cellsOf e)) (P.cellsOf e) = some cs' ∧ d.K w a cs') ∧ wf a := by
      intro i hi
      obtain ⟨cs', h1, h2⟩ := hel i (by omega)
      obtain ⟨a, ha, hw⟩ := h h2
      exact ⟨a, ⟨cs', h1, ha⟩, hw⟩
    have hlist : ∀ k, k ≤ len → ∃ l : List α, l.length = k ∧ ∀ (i : Nat) (p : α), l[i]? = some p → (∃ cs', w.cells? base (ad.add (i * P.cellsOf e)) (P.cellsOf e) = some cs' ∧ d.K w p cs') ∧ wf p := by
      intro k
      induction k with
      | zero => intro _; exact ⟨[], rfl, fun i p hp => by simp at hp⟩
      | succ k ih =>
        intro hk
        obtain ⟨l, hll, hl2⟩ := ih (by omega)
        obtain ⟨a, ha⟩ := hex k (by omega)
        refine ⟨l ++ [a], by simp [hll], fun i p hp => ?_⟩
        by_cases hi : i < l.length
        · rw [List.getElem?_append_left hi] at hp; exact hl2 i p hp
        · rw [List.getElem?_append_right (by omega)] at hp
          have hik : i - l.length = 0 := by
            rcases Nat.eq_zero_or_pos (i - l.length) with h0 | h0
            · exact h0
            · obtain ⟨q, hq⟩ : ∃ q, i - l.length = q + 1 := ⟨i - l.length - 1, by omega⟩
              rw [hq] at hp; simp at hp
          rw [hik] at hp
          have : i = k := by omega
          subst this
          obtain rfl : a = p := by simpa using hp
          exact ha
    obtain ⟨l, hll, hl2⟩ := hlist len (Nat.le_refl _)
    refine ⟨l, ⟨some ad, cap, by rw [hll], by omega, rfl, by rw [hll]; have : maxLen = 9223372036854775807 := rfl; omega, fun _ => ⟨ad, rfl, fun j p hj => ?_⟩⟩, by omega, fun a ha => ?_⟩
    · obtain ⟨⟨cs', h1, h2⟩, _⟩ := hl2 j p hj
      obtain ⟨_, hlen, hcell⟩ := World.cells?_some h1
      refine ⟨cs', by rw [hlen, hc], h2, fun i u hu => ?_⟩
      have hi : i < cs'.length := (List.getElem?_eq_some_iff.1 hu).1
      have h3 := hcell i (by omega)
      rw [hu] at h3
      rw [← hc, ← Addr.add_add]
      exact h3
    · obtain ⟨i, hi, rfl⟩ := List.getElem_of_mem ha
      exact (hl2 i _ (List.getElem?_eq_getElem hi)).2

/-- Fields in line from a cell on. -/
def OpensF (P : Program) (off : Nat) (fs : List (TypeId × Nat)) {α : Type} (d : Kd α) (wf : α → Prop) : Prop :=
  ∀ {H : Type} {enc : TypeId × Value → H} {w : World} {base : Nat} {spare : Nat → Bool} {held : Bool} {cs : List Value},
    cs.length = off + d.sz → (∀ (i : Nat) f, fs[i]? = some f → ∃ fuel x, DataW.trod enc P w base spare held fuel f.1 ((cs.drop f.2).take (P.cellsOf f.1)) = some x) → ∃ a, d.K w a (cs.drop off) ∧ wf a
theorem opensF_one {off : Nat} {t : TypeId} {α : Type} {d : Kd α} {wf : α → Prop} (hc : P.cellsOf t = d.sz) (h : Opens P t d wf) : OpensF P off [(t, off)] d wf := by
  intro H enc w base spare held cs hl hf
  obtain ⟨fuel, x, hx⟩ := hf 0 _ rfl
  obtain ⟨a, ha, hw⟩ := h hx
  refine ⟨a, ?_, hw⟩
  rw [List.take_of_length_le (by simp [hl, hc])] at ha
  exact ha
theorem opensF_cons {off off' : Nat} {t : TypeId} {fs : List (TypeId × Nat)} {α β : Type} {d : Kd α} {d' : Kd β} {wf : α → Prop} {wf' : β → Prop} (hc : P.cellsOf t = d.sz) (ho : off' = off + d.sz) (h : Opens P t d wf) (h' : OpensF P off' fs d' wf') :
    OpensF P off ((t, off) :: fs) (Kd.pair d d') (fun x => wf x.1 ∧ wf' x.2) := by
  intro H enc w base spare held cs hl hf
  obtain ⟨fuel, x, hx⟩ := hf 0 _ rfl
  obtain ⟨a, ha, hw⟩ := h hx
  have hl' : cs.length = off + (d.sz + d'.sz) := hl
  obtain ⟨b, hb, hw'⟩ := h' (enc := enc) (w := w) (base := base) (spare := spare) (held := held) (cs := cs) (by omega) (fun i f hi => hf (i + 1) f (by simpa using hi))
  refine ⟨(a, b), ⟨(cs.drop off).take (P.cellsOf t), cs.drop off', ?_, ha, hb⟩, hw, hw'⟩
  rw [hc, ho, ← List.drop_drop, List.take_append_drop]
theorem opens_struct {t : TypeId} {fs : Array Field} {l : List (TypeId × Nat)} {α : Type} {d : Kd α} {wf : α → Prop} (ht : P.underlying t = some (.struct fs)) (hl : fs.toList.map (fun f => (f.type, f.offset)) = l) (hc : P.cellsOf t = d.sz) (h : OpensF P 0 l d wf) : Opens P t d wf := by
  intro H enc w base spare held fuel cs x hx
  obtain ⟨xs, n, _, _, hlen, hxs, hf⟩ := DataW.trod_struct ht hx
  have := h (enc := enc) (w := w) (base := base) (spare := spare) (held := held) (cs := cs) (by omega) (fun i f hi => by
    rw [← hl, List.getElem?_map] at hi
    obtain ⟨f', hf', rfl⟩ := Option.map_eq_some_iff.1 hi
    have hi2 : fs[i]? = some f' := by simpa using hf'
    have hil : i < fs.size := (Array.getElem?_eq_some_iff.1 hi2).1
    exact ⟨n, xs[i]'(by omega), by rw [hf i f' hi2]; exact List.getElem?_eq_getElem _⟩)
  simpa using this
theorem opens_array {t e : TypeId} {n : Nat} {l : List (TypeId × Nat)} {α : Type} {d : Kd α} {wf : α → Prop} (ht : P.underlying t = some (.array n e)) (hl : (List.range n).map (fun i => (e, i * P.cellsOf e)) = l) (hc : P.cellsOf t = d.sz) (h : OpensF P 0 l d wf) : Opens P t d wf := by
  intro H enc w base spare held fuel cs x hx
  cases fuel with
  | zero => simp [DataW.trod] at hx
  | succ m =>
    unfold DataW.trod at hx
    rw [ht] at hx
    split at hx <;> simp_all
    obtain ⟨hlen, xs, hp, _⟩ := hx
    have := h (enc := enc) (w := w) (base := base) (spare := spare) (held := held) (cs := _) (by rw [hlen]; omega) (fun i f hi => by
      rw [← hl, List.getElem?_map] at hi
      obtain ⟨i', hi', rfl⟩ := Option.map_eq_some_iff.1 hi
      obtain ⟨h1, h2⟩ := List.getElem?_eq_some_iff.1 hi'
      have hxl := mapM_some_length hp
      have h3 : i = i' := by simpa using h2
      subst h3
      have hg := mapM_some_get hp i i hi'
      exact ⟨m, xs[i]'(by rw [hxl]; exact h1), by rw [hg]; exact List.getElem?_eq_getElem _⟩)
    simpa using this

theorem okWide_struct {t : TypeId} {fs : Array Field} {W : World} {r : Reach} {b0 : Nat} {v : Value} (ht : P.underlying t = some (.struct fs)) (h : Value.okWide P W r b0 t v) : ∃ xs : Array Value, v = .agg xs := by
  simp only [Value.okWide, ht] at h
  obtain ⟨cs, h1, _⟩ := h
  exact ⟨cs, h1⟩
theorem okWide_array {t e : TypeId} {n : Nat} {W : World} {r : Reach} {b0 : Nat} {v : Value} (ht : P.underlying t = some (.array n e)) (h : Value.okWide P W r b0 t v) : ∃ xs : Array Value, v = .agg xs := by
  simp only [Value.okWide, ht] at h
  obtain ⟨cs, h1, _⟩ := h
  exact ⟨cs, h1⟩
theorem slice_inj {a A : Option Addr} {n c m d : Nat} (h : (Value.slice a n c).cells.toList = [.slice A m d]) : a = A ∧ n = m ∧ c = d := by
  simpa [Value.cells] using h
theorem agg_inj {xs : Array Value} {l : List Value} (h : (Value.agg xs).cells.toList = l) : xs = l.toArray := by
  have h2 : xs.toList = l := h
  rw [← h2]
theorem agg_of {xs : Array Value} {l : List Value} (h : (Value.agg xs).cells.toList = l) : (Value.agg xs) = .agg l.toArray := by
  have h2 : xs.toList = l := h
  rw [← h2]
theorem slice_of {a : Option Addr} {n c : Nat} {v : Value} (h : (Value.slice a n c).cells.toList = [v]) : (Value.slice a n c) = v := by
  simpa [Value.cells] using h
theorem one_of {v u : Value} (h : v.cells.toList = [u]) (hv : v.cells.toList = [v]) : v = u := by
  rw [hv] at h
  simpa using h
end Go.Proofs.YteennleoieafiaaDoor.O
end
