/- What the laws' generator makes: terms of numbers and truths, not too long. -/
import Derived.Test.YtlejdidngmjicaaDoorQTerm
import Derived.Test.YtlejdidngmjicaaDoorFForetellkeepNumber
namespace Go.Proofs.YtlejdidngmjicaaDoor.Q
open Go.RowKit Go.Proofs.YtlejdidngmjicaaDoorW.PrintWords Go.Proofs.YtlejdidngmjicaaDoorW.PrintMore Go.Proofs.YtlejdidngmjicaaDoor.P
set_option linter.unusedVariables false
inductive NumT (vars : Int) : Tm → Prop
  | num (v : Int) (h0 : -4 ≤ v) (h1 : v ≤ 4) : NumT vars (.leaf ⟨1, v⟩)
  | var (v : Int) (h0 : 0 ≤ v) (h1 : v < vars) : NumT vars (.leaf ⟨2, v⟩)
  | bin (o : Int) (a b : Tm) (h0 : 3 ≤ o) (h1 : o ≤ 5) (ha : NumT vars a) (hb : NumT vars b) : NumT vars (.bin ⟨o, 0⟩ a b)
inductive TruthT (vars : Int) : Tm → Prop
  | yes (o : Int) (h : o = 11 ∨ o = 12) : TruthT vars (.leaf ⟨o, 0⟩)
  | cmp (o : Int) (a b : Tm) (h : o = 6 ∨ o = 7) (ha : NumT vars a) (hb : NumT vars b) (hs : a.size ≤ 3 ∧ b.size ≤ 3) : TruthT vars (.bin ⟨o, 0⟩ a b)
  | not (a : Tm) (ha : TruthT vars a) : TruthT vars (.un ⟨10, 0⟩ a)
  | log (o : Int) (a b : Tm) (h : o = 8 ∨ o = 9) (ha : TruthT vars a) (hb : TruthT vars b) : TruthT vars (.bin ⟨o, 0⟩ a b)
theorem NumT.ok {vars : Int} {t : Tm} (h : NumT vars t) : t.ok := by
  induction h with
  | num v => exact ⟨(by decide : (1 : Int) ≤ 1), (by decide : (1 : Int) ≤ 18), (by decide : polish_Parts.tab.getD (1 : Int).toNat 0 = 0)⟩
  | var v => exact ⟨(by decide : (1 : Int) ≤ 2), (by decide : (2 : Int) ≤ 18), (by decide : polish_Parts.tab.getD (2 : Int).toNat 0 = 0)⟩
  | bin o a b h0 h1 _ _ iha ihb =>
    have : o = 3 ∨ o = 4 ∨ o = 5 := by omega
    rcases this with rfl | rfl | rfl <;> exact ⟨by decide, by decide, by decide, iha, ihb⟩
theorem TruthT.ok {vars : Int} {t : Tm} (h : TruthT vars t) : t.ok := by
  induction h with
  | yes o h => rcases h with rfl | rfl <;> exact ⟨by decide, by decide, by decide⟩
  | cmp o a b h ha hb _ => rcases h with rfl | rfl <;> exact ⟨by decide, by decide, by decide, ha.ok, hb.ok⟩
  | not a _ ih => exact ⟨by decide, by decide, by decide, ih⟩
  | log o a b h _ _ iha ihb => rcases h with rfl | rfl <;> exact ⟨by decide, by decide, by decide, iha, ihb⟩
def rawWf (raw : List Raw) : Prop := ∀ y ∈ raw, ((Lit.int .i64 y.f0).wf = true ∧ (Lit.int .i64 y.f1).wf = true)
theorem take_is {raw : List Raw} (hw : rawWf raw) (a tp : Int) (out : List Op) (h0 : 0 ≤ a) (h1 : a ≤ 1000000) : ∃ r : Raw, grown_take.f raw ⟨a, tp, out⟩ = some (r, ⟨a + 1, tp, out⟩) ∧ (Lit.int .i64 r.f0).wf = true ∧ (Lit.int .i64 r.f1).wf = true := by
  unfold grown_take.f
  simp only [w64 (n := a + 1) (by omega) (by omega)]
  by_cases c : a < (raw.length : Int)
  · rw [if_pos c, if_pos h0]
    have hm : rd_T69 raw a ∈ raw := by
      unfold rd_T69
      rw [List.getD_eq_getElem?_getD, List.getElem?_eq_getElem (show a.toNat < raw.length by omega)]
      exact List.getElem_mem _
    exact ⟨_, rfl, (hw _ hm).1, (hw _ hm).2⟩
  · rw [if_neg c]
    exact ⟨⟨0, 0⟩, rfl, by decide, by decide⟩
theorem put_ok (a tp : Int) (out : List Op) (kind value : Int) (h : out.length ≤ 1000000) : grown_put.f ⟨a, tp, out⟩ kind value = some ⟨a, tp, out ++ [⟨kind, value⟩]⟩ := by
  unfold grown_put.f
  rw [if_pos (show out.length < 8796093022208 by omega)]
/-- A number, so deep at most. -/
theorem number_gen {raw : List Raw} (hw : rawWf raw) (vars : Int) (hv : vars ≤ 100) : ∀ (d : Nat), d ≤ 3 → ∀ (a tp : Int) (out : List Op), 0 ≤ a → a + (2 ^ (d + 1) : Nat) ≤ 100000 → out.length + 2 ^ (d + 1) ≤ 100000 →
    ∃ t, NumT vars t ∧ t.size + 1 ≤ 2 ^ (d + 1) ∧ (14 ≤ a → t.size = 1) ∧ Ev (fun k => grown_number.f k raw vars ⟨a, tp, out⟩ (d : Int)) ⟨a + t.size, tp, out ++ t.flat⟩ := by
  intro d
  induction d with
  | zero =>
    intro _ a tp out h0 h1 ho
    obtain ⟨r, hr, w0, w1⟩ := take_is hw a tp out h0 (by omega)
    have p5 := picked_is w0 (m := 5) (by decide)
    have p2 := picked_is w0 (m := 2) (by decide)
    have l2 := pk_lo r.f0 (m := 2) (by decide)
    have u2 := pk_hi r.f0 (m := 2) (by decide)
    generalize pk r.f0 2 = op at *
    by_cases c : op = 1 ∧ 0 < vars
    · have pv := picked_is w1 (m := vars) c.2
      have lv := pk_lo r.f1 c.2
      have uv := pk_hi r.f1 c.2
      generalize pk r.f1 vars = v at *
      refine ⟨.leaf ⟨2, v⟩, .var v lv uv, by simp [Tm.size], fun _ => rfl, Ev.step (f := fun _ => some ⟨a + 1, tp, out ++ [⟨2, v⟩]⟩) (fun k => ?_) (Ev.now _)⟩
      simp only [grown_number.f, hr, p5, p2, Option.bind_some]
      rw [if_pos (.inl rfl), Option.bind_some, if_pos c, pv, Option.bind_some, put_ok _ _ _ _ _ (by omega)]
    · have pv := picked_is w1 (m := 9) (by decide)
      have lv := pk_lo r.f1 (m := 9) (by decide)
      have uv := pk_hi r.f1 (m := 9) (by decide)
      generalize pk r.f1 9 = v at *
      refine ⟨.leaf ⟨1, v - 4⟩, .num (v - 4) (by omega) (by omega), by simp [Tm.size], fun _ => rfl, Ev.step (f := fun _ => some ⟨a + 1, tp, out ++ [⟨1, v - 4⟩]⟩) (fun k => ?_) (Ev.now _)⟩
      simp only [grown_number.f, hr, p5, p2, Option.bind_some]
      rw [if_pos (.inl rfl), Option.bind_some, if_neg c, if_pos (by omega), pv, Option.bind_some, w64 (n := v - 4) (by omega) (by omega), put_ok _ _ _ _ _ (by omega)]
  | succ d ih =>
    intro hd a tp out h0 h1 ho
    have hpow : 2 ≤ 2 ^ (d + 1) := by
      have : 2 ^ (d + 1) = 2 ^ d * 2 := Nat.pow_succ 2 d
      have : 0 < 2 ^ d := Nat.pow_pos (by decide)
      omega
    have hpow2 : 2 ^ (d + 1 + 1) = 2 ^ (d + 1) * 2 := Nat.pow_succ 2 (d + 1)
    have hpow3 : 2 ^ (d + 1) ≤ 8 := by
      have : d + 1 ≤ 3 := hd
      exact Nat.pow_le_pow_right (by decide) this
    obtain ⟨r, hr, w0, w1⟩ := take_is hw a tp out h0 (by omega)
    have p5 := picked_is w0 (m := 5) (by decide)
    have p2 := picked_is w0 (m := 2) (by decide)
    have l2 := pk_lo r.f0 (m := 2) (by decide)
    have u2 := pk_hi r.f0 (m := 2) (by decide)
    have l5 := pk_lo r.f0 (m := 5) (by decide)
    have u5 := pk_hi r.f0 (m := 5) (by decide)
    obtain ⟨op, hop, o0, o1, o2⟩ : ∃ op : Int, (if ((d + 1 : Nat) : Int) = 0 ∨ 14 < a + 1 then foretellkeep_picked.f r.f0 2 else some (pk r.f0 5)) = some op ∧ 0 ≤ op ∧ op < 5 ∧ (14 ≤ a → op < 2) := by
      by_cases c : ((d + 1 : Nat) : Int) = 0 ∨ 14 < a + 1
      · rw [if_pos c, p2]
        exact ⟨_, rfl, l2, by omega, fun _ => u2⟩
      · rw [if_neg c]
        exact ⟨_, rfl, l5, u5, by omega⟩
    by_cases c : op = 1 ∧ 0 < vars
    · have pv := picked_is w1 (m := vars) c.2
      have lv := pk_lo r.f1 c.2
      have uv := pk_hi r.f1 c.2
      generalize pk r.f1 vars = v at *
      refine ⟨.leaf ⟨2, v⟩, .var v lv uv, by simp [Tm.size]; omega, fun _ => rfl, Ev.step (f := fun _ => some ⟨a + 1, tp, out ++ [⟨2, v⟩]⟩) (fun k => ?_) (Ev.now _)⟩
      simp only [grown_number.f, hr, p5, Option.bind_some]
      rw [hop, Option.bind_some, if_pos c, pv, Option.bind_some, put_ok _ _ _ _ _ (by omega)]
    · by_cases c2 : op < 2
      · have pv := picked_is w1 (m := 9) (by decide)
        have lv := pk_lo r.f1 (m := 9) (by decide)
        have uv := pk_hi r.f1 (m := 9) (by decide)
        generalize pk r.f1 9 = v at *
        refine ⟨.leaf ⟨1, v - 4⟩, .num (v - 4) (by omega) (by omega), by simp [Tm.size]; omega, fun _ => rfl, Ev.step (f := fun _ => some ⟨a + 1, tp, out ++ [⟨1, v - 4⟩]⟩) (fun k => ?_) (Ev.now _)⟩
        simp only [grown_number.f, hr, p5, Option.bind_some]
        rw [hop, Option.bind_some, if_neg c, if_pos c2, pv, Option.bind_some, w64 (n := v - 4) (by omega) (by omega), put_ok _ _ _ _ _ (by omega)]
      · obtain ⟨t1, n1, s1, _, e1⟩ := ih (by omega) (a + 1) tp (out ++ [⟨1 + op, 0⟩]) (by omega) (by omega) (by rw [List.length_append, List.length_singleton]; omega)
        obtain ⟨t2, n2, s2, _, e2⟩ := ih (by omega) (a + 1 + t1.size) tp (out ++ [⟨1 + op, 0⟩] ++ t1.flat) (by omega) (by omega) (by rw [List.length_append, List.length_append, List.length_singleton, Tm.flat_len]; omega)
        refine ⟨.bin ⟨1 + op, 0⟩ t1 t2, .bin _ _ _ (by omega) (by omega) n1 n2, by simp only [Tm.size]; omega, fun h => by have := o2 h; omega, ?_⟩
        refine Ev.step (f := fun k => (grown_number.f k raw vars ⟨a + 1, tp, out ++ [⟨1 + op, 0⟩]⟩ (d : Int)).bind fun s2 => grown_number.f k raw vars s2 (d : Int)) (fun k => ?_) (Ev.bind e1 ?_)
        · simp only [grown_number.f, hr, p5, Option.bind_some]
          rw [hop, Option.bind_some, if_neg c, if_neg c2, w64 (n := 3 + op) (by omega) (by omega), w64 (n := 3 + op - 2) (by omega) (by omega), put_ok _ _ _ _ _ (by omega), Option.bind_some, w64 (n := ((d + 1 : Nat) : Int) - 1) (by omega) (by omega), show ((d + 1 : Nat) : Int) - 1 = (d : Int) by omega, show 3 + op - 2 = 1 + op by omega]
        · have e : (⟨a + (Tm.bin ⟨1 + op, 0⟩ t1 t2).size, tp, out ++ (Tm.bin ⟨1 + op, 0⟩ t1 t2).flat⟩ : GrSt) = ⟨a + 1 + t1.size + t2.size, tp, out ++ [⟨1 + op, 0⟩] ++ t1.flat ++ t2.flat⟩ := by
            simp [Tm.size, Tm.flat]
            omega
          rw [e]
          exact e2
/-- A truth, so deep at most: from the eleventh op on it is short. -/
theorem truth_gen {raw : List Raw} (hw : rawWf raw) (vars : Int) (hv : vars ≤ 100) : ∀ (d : Nat) (a tp : Int) (out : List Op), d ≤ 10 → 0 ≤ a → a + 1000 * d ≤ 40000 → out.length + 1000 * d ≤ 40000 →
    ∃ t, TruthT vars t ∧ ((a ≤ 9 → a + t.size ≤ 16 + 3 * d) ∧ (10 ≤ a → t.size ≤ 6) ∧ (13 ≤ a → t.size ≤ 3)) ∧ Ev (fun k => grown_truth.f k raw vars ⟨a, tp, out⟩ (d : Int)) ⟨a + t.size, tp, out ++ t.flat⟩ := by
  -- the two numbers of a comparison
  have hcmp : ∀ (o : Int), (o = 6 ∨ o = 7) → ∀ (a tp : Int) (out : List Op), 0 ≤ a → a ≤ 50000 → out.length ≤ 50000 →
      ∃ t, TruthT vars t ∧ (t.size ≤ 7 ∧ (10 ≤ a → t.size ≤ 6) ∧ (13 ≤ a → t.size ≤ 3)) ∧ Ev (fun k => (grown_number.f k raw vars ⟨a + 1, tp, out ++ [⟨o, 0⟩]⟩ 1).bind fun s2 => grown_number.f k raw vars s2 1) ⟨a + t.size, tp, out ++ t.flat⟩ := by
    intro o ho a tp out h0 h1 hl
    obtain ⟨t1, n1, s1, z1, e1⟩ := number_gen hw vars hv 1 (by decide) (a + 1) tp (out ++ [⟨o, 0⟩]) (by omega) (by omega) (by rw [List.length_append, List.length_singleton]; omega)
    obtain ⟨t2, n2, s2, z2, e2⟩ := number_gen hw vars hv 1 (by decide) (a + 1 + t1.size) tp (out ++ [⟨o, 0⟩] ++ t1.flat) (by omega) (by omega) (by rw [List.length_append, List.length_append, List.length_singleton, Tm.flat_len]; omega)
    have q1 := t1.size_pos
    have q2 := t2.size_pos
    refine ⟨.bin ⟨o, 0⟩ t1 t2, .cmp _ _ _ ho n1 n2 ⟨by omega, by omega⟩, by simp only [Tm.size]; refine ⟨?_, ?_, ?_⟩ <;> omega, Ev.bind e1 ?_⟩
    have e : (⟨a + (Tm.bin ⟨o, 0⟩ t1 t2).size, tp, out ++ (Tm.bin ⟨o, 0⟩ t1 t2).flat⟩ : GrSt) = ⟨a + 1 + t1.size + t2.size, tp, out ++ [⟨o, 0⟩] ++ t1.flat ++ t2.flat⟩ := by
      simp [Tm.size, Tm.flat]
      omega
    rw [e]
    exact e2
  intro d
  induction d with
  | zero =>
    intro a tp out hd h0 h1 ho
    obtain ⟨r, hr, w0, w1⟩ := take_is hw a tp out h0 (by omega)
    have p9 := picked_is w0 (m := 9) (by decide)
    have p3 := picked_is w0 (m := 3) (by decide)
    have l3 := pk_lo r.f0 (m := 3) (by decide)
    have u3 := pk_hi r.f0 (m := 3) (by decide)
    generalize pk r.f0 3 = op at *
    have hop : op = 0 ∨ op = 1 ∨ op = 2 := by omega
    rcases hop with rfl | rfl | rfl
    · have pv := picked_is w1 (m := 2) (by decide)
      have lv := pk_lo r.f1 (m := 2) (by decide)
      have uv := pk_hi r.f1 (m := 2) (by decide)
      generalize pk r.f1 2 = v at *
      refine ⟨.leaf ⟨11 + v, 0⟩, .yes _ (by omega), by simp only [Tm.size]; refine ⟨?_, ?_, ?_⟩ <;> omega, Ev.step (f := fun _ => some ⟨a + 1, tp, out ++ [⟨11 + v, 0⟩]⟩) (fun k => ?_) (Ev.now _)⟩
      simp only [grown_truth.f, hr, p9, p3, Option.bind_some]
      rw [if_pos (.inl rfl), Option.bind_some, if_pos rfl, pv, Option.bind_some, w64 (n := 11 + v) (by omega) (by omega), put_ok _ _ _ _ _ (by omega)]
    · obtain ⟨t, ht, hs, he⟩ := hcmp 7 (.inr rfl) a tp out h0 (by omega) (by omega)
      refine ⟨t, ht, by omega, Ev.step (fun k => ?_) he⟩
      simp only [grown_truth.f, hr, p9, p3, Option.bind_some]
      rw [if_pos (.inl rfl), Option.bind_some, if_neg (by decide), if_pos (.inl rfl), put_ok _ _ _ _ _ (by omega), Option.bind_some]
    · obtain ⟨t, ht, hs, he⟩ := hcmp 6 (.inl rfl) a tp out h0 (by omega) (by omega)
      refine ⟨t, ht, by omega, Ev.step (fun k => ?_) he⟩
      simp only [grown_truth.f, hr, p9, p3, Option.bind_some]
      rw [if_pos (.inl rfl), Option.bind_some, if_neg (by decide), if_neg (by decide), if_pos (.inl rfl), put_ok _ _ _ _ _ (by omega), Option.bind_some]
  | succ d ih =>
    intro a tp out hd h0 h1 ho
    obtain ⟨r, hr, w0, w1⟩ := take_is hw a tp out h0 (by omega)
    have p9 := picked_is w0 (m := 9) (by decide)
    have p3 := picked_is w0 (m := 3) (by decide)
    have l3 := pk_lo r.f0 (m := 3) (by decide)
    have u3 := pk_hi r.f0 (m := 3) (by decide)
    have l9 := pk_lo r.f0 (m := 9) (by decide)
    have u9 := pk_hi r.f0 (m := 9) (by decide)
    obtain ⟨op, hop, o0, o1, o2⟩ : ∃ op : Int, (if ((d + 1 : Nat) : Int) = 0 ∨ 10 < a + 1 then foretellkeep_picked.f r.f0 3 else some (pk r.f0 9)) = some op ∧ 0 ≤ op ∧ op < 9 ∧ (10 ≤ a → op < 3) := by
      by_cases c : ((d + 1 : Nat) : Int) = 0 ∨ 10 < a + 1
      · rw [if_pos c, p3]
        exact ⟨_, rfl, l3, by omega, fun _ => u3⟩
      · rw [if_neg c]
        exact ⟨_, rfl, l9, u9, by omega⟩
    by_cases c0 : op = 0
    · have pv := picked_is w1 (m := 2) (by decide)
      have lv := pk_lo r.f1 (m := 2) (by decide)
      have uv := pk_hi r.f1 (m := 2) (by decide)
      generalize pk r.f1 2 = v at *
      refine ⟨.leaf ⟨11 + v, 0⟩, .yes _ (by omega), by simp only [Tm.size]; refine ⟨?_, ?_, ?_⟩ <;> omega, Ev.step (f := fun _ => some ⟨a + 1, tp, out ++ [⟨11 + v, 0⟩]⟩) (fun k => ?_) (Ev.now _)⟩
      simp only [grown_truth.f, hr, p9, Option.bind_some]
      rw [hop, Option.bind_some, if_pos c0, pv, Option.bind_some, w64 (n := 11 + v) (by omega) (by omega), put_ok _ _ _ _ _ (by omega)]
    by_cases c1 : op = 1 ∨ op = 3
    · obtain ⟨t, ht, hs, he⟩ := hcmp 7 (.inr rfl) a tp out h0 (by omega) (by omega)
      refine ⟨t, ht, by omega, Ev.step (fun k => ?_) he⟩
      simp only [grown_truth.f, hr, p9, Option.bind_some]
      rw [hop, Option.bind_some, if_neg c0, if_pos c1, put_ok _ _ _ _ _ (by omega), Option.bind_some]
    by_cases c2 : op = 2 ∨ op = 4
    · obtain ⟨t, ht, hs, he⟩ := hcmp 6 (.inl rfl) a tp out h0 (by omega) (by omega)
      refine ⟨t, ht, by omega, Ev.step (fun k => ?_) he⟩
      simp only [grown_truth.f, hr, p9, Option.bind_some]
      rw [hop, Option.bind_some, if_neg c0, if_neg c1, if_pos c2, put_ok _ _ _ _ _ (by omega), Option.bind_some]
    by_cases c3 : op = 5
    · obtain ⟨t1, n1, s1, e1⟩ := ih (a + 1) tp (out ++ [⟨10, 0⟩]) (by omega) (by omega) (by omega) (by rw [List.length_append, List.length_singleton]; omega)
      refine ⟨.un ⟨10, 0⟩ t1, .not _ n1, by simp only [Tm.size]; refine ⟨?_, ?_, ?_⟩ <;> omega, ?_⟩
      refine Ev.step (f := fun k => grown_truth.f k raw vars ⟨a + 1, tp, out ++ [⟨10, 0⟩]⟩ (d : Int)) (fun k => ?_) ?_
      · simp only [grown_truth.f, hr, p9, Option.bind_some]
        rw [hop, Option.bind_some, if_neg c0, if_neg c1, if_neg c2, if_pos c3, put_ok _ _ _ _ _ (by omega), Option.bind_some, w64 (n := ((d + 1 : Nat) : Int) - 1) (by omega) (by omega), show ((d + 1 : Nat) : Int) - 1 = (d : Int) by omega]
      · have e : (⟨a + (Tm.un ⟨10, 0⟩ t1).size, tp, out ++ (Tm.un ⟨10, 0⟩ t1).flat⟩ : GrSt) = ⟨a + 1 + t1.size, tp, out ++ [⟨10, 0⟩] ++ t1.flat⟩ := by
          simp [Tm.size, Tm.flat]
          omega
        rw [e]
        exact e1
    · have hm := Int.tmod_eq_emod_of_nonneg (a := op) (b := 2) o0
      have hkind : ∃ o : Int, (o = 8 ∨ o = 9) ∧ 8 + Int.tmod op 2 = o := ⟨_, by omega, rfl⟩
      obtain ⟨o, ho89, hko⟩ := hkind
      obtain ⟨t1, n1, s1, e1⟩ := ih (a + 1) tp (out ++ [⟨o, 0⟩]) (by omega) (by omega) (by omega) (by rw [List.length_append, List.length_singleton]; omega)
      obtain ⟨t2, n2, s2, e2⟩ := ih (a + 1 + t1.size) tp (out ++ [⟨o, 0⟩] ++ t1.flat) (by omega) (by omega) (by omega) (by rw [List.length_append, List.length_append, List.length_singleton, Tm.flat_len]; omega)
      refine ⟨.bin ⟨o, 0⟩ t1 t2, .log _ _ _ ho89 n1 n2, by simp only [Tm.size]; refine ⟨?_, ?_, ?_⟩ <;> omega, ?_⟩
      refine Ev.step (f := fun k => (grown_truth.f k raw vars ⟨a + 1, tp, out ++ [⟨o, 0⟩]⟩ (d : Int)).bind fun s2 => grown_truth.f k raw vars s2 (d : Int)) (fun k => ?_) (Ev.bind e1 ?_)
      · simp only [grown_truth.f, hr, p9, Option.bind_some]
        rw [hop, Option.bind_some, if_neg c0, if_neg c1, if_neg c2, if_neg c3, hko, w64 (n := o) (by omega) (by omega), put_ok _ _ _ _ _ (by omega), Option.bind_some, w64 (n := ((d + 1 : Nat) : Int) - 1) (by omega) (by omega), show ((d + 1 : Nat) : Int) - 1 = (d : Int) by omega]
      · have e : (⟨a + (Tm.bin ⟨o, 0⟩ t1 t2).size, tp, out ++ (Tm.bin ⟨o, 0⟩ t1 t2).flat⟩ : GrSt) = ⟨a + 1 + t1.size + t2.size, tp, out ++ [⟨o, 0⟩] ++ t1.flat ++ t2.flat⟩ := by
          simp [Tm.size, Tm.flat]
          omega
        rw [e]
        exact e2
/-- What 'Truth' makes. -/
theorem truth_is {raw : List Raw} (hw : rawWf raw) (vars : Int) (hv : vars ≤ 100) : ∃ t, TruthT vars t ∧ t.size ≤ 25 ∧ Ev (fun k => foretellkeep_Truth.f k raw vars) t.flat := by
  obtain ⟨t, ht, hs, he⟩ := truth_gen hw vars hv 3 0 0 [] (by decide) (by decide) (by decide) (by decide)
  refine ⟨t, ht, by omega, ?_⟩
  unfold foretellkeep_Truth.f
  exact Ev.bind he (Ev.now _)
theorem number_is {raw : List Raw} (hw : rawWf raw) (vars : Int) (hv : vars ≤ 100) : ∃ t, NumT vars t ∧ t.size ≤ 7 ∧ Ev (fun k => foretellkeep_Number.f k raw vars) t.flat := by
  obtain ⟨t, ht, hs, _, he⟩ := number_gen hw vars hv 2 (by decide) 0 0 [] (by decide) (by decide) (by decide)
  refine ⟨t, ht, by omega, ?_⟩
  unfold foretellkeep_Number.f
  exact Ev.bind he (Ev.now _)
end Go.Proofs.YtlejdidngmjicaaDoor.Q
