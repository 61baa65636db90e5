/- What the laws' generator of formulas makes: formulas, not too long, with so many ops that look ahead at most. -/
import Derived.Test.YtcoaeefmmnohkaaDoorQTake
import Derived.Test.YtcoaeefmmnohkaaDoorFForm
namespace Go.Proofs.YtcoaeefmmnohkaaDoor.Q
open Go.RowKit Go.Proofs.YtcoaeefmmnohkaaDoorW.PrintWords Go.Proofs.YtcoaeefmmnohkaaDoorW.PrintMore Go.Proofs.YtcoaeefmmnohkaaDoor.P
set_option linter.unusedVariables false
inductive FormT (props : Int) : Tm → Prop
  | prop (v : Int) (h0 : 0 ≤ v) (h1 : v < props) : FormT props (.leaf ⟨13, v⟩)
  | yes (o : Int) (h : o = 11 ∨ o = 12) : FormT props (.leaf ⟨o, 0⟩)
  | not (a : Tm) (ha : FormT props a) : FormT props (.un ⟨10, 0⟩ a)
  | log (o : Int) (a b : Tm) (h : o = 8 ∨ o = 9) (ha : FormT props a) (hb : FormT props b) : FormT props (.bin ⟨o, 0⟩ a b)
  | look (o : Int) (a : Tm) (h : o = 14 ∨ o = 17 ∨ o = 18) (ha : FormT props a) : FormT props (.un ⟨o, 0⟩ a)
  | unto (o : Int) (a b : Tm) (h : o = 15 ∨ o = 16) (ha : FormT props a) (hb : FormT props b) : FormT props (.bin ⟨o, 0⟩ a b)
theorem FormT.ok {props : Int} {t : Tm} (h : FormT props t) : t.ok := by
  induction h with
  | prop v => exact ⟨(by decide : (1 : Int) ≤ 13), (by decide : (13 : Int) ≤ 18), (by decide : polish_Parts.tab.getD (13 : Int).toNat 0 = 0)⟩
  | yes o h => rcases h with rfl | rfl <;> exact ⟨by decide, by decide, by decide⟩
  | not a _ ih => exact ⟨by decide, by decide, by decide, ih⟩
  | log o a b h _ _ iha ihb => rcases h with rfl | rfl <;> exact ⟨by decide, by decide, by decide, iha, ihb⟩
  | look o a h _ ih => rcases h with rfl | rfl | rfl <;> exact ⟨by decide, by decide, by decide, ih⟩
  | unto o a b h _ _ iha ihb => rcases h with rfl | rfl <;> exact ⟨by decide, by decide, by decide, iha, ihb⟩
/-- How many ops look ahead. -/
def Tm.tempo : Tm → Nat
  | .leaf _ => 0
  | .un o a => (if o.f0 = 10 then 0 else 1) + a.tempo
  | .bin o a b => (if o.f0 = 8 ∨ o.f0 = 9 then 0 else 1) + a.tempo + b.tempo
theorem form_gen {raw : List Raw} (hw : rawWf raw) (props : Int) (hp0 : 0 < props) (hp : props ≤ 100) : ∀ (d : Nat) (a tp : Int) (out : List Op), d ≤ 10 → 0 ≤ a → a ≤ 10000 → out.length + 1000 * d ≤ 20000 → 0 ≤ tp → tp ≤ 1000 →
    ∃ t, FormT props t ∧ (a ≤ 12 → a + t.size ≤ 13 + d) ∧ (12 ≤ a → t.size = 1) ∧ (t.tempo : Int) ≤ tp ∧ t.size ≤ 2 ^ (d + 1) - 1 ∧ Ev (fun k => grown_formula.f k raw props ⟨a, tp, out⟩ (d : Int)) ⟨a + t.size, tp - t.tempo, out ++ t.flat⟩ := by
  intro d
  induction d with
  | zero =>
    intro a tp out hd h0 h1 ho t0 t1
    obtain ⟨r, hr, w0, w1⟩ := take_is hw a tp out h0 (by omega)
    have p16 := picked_is w0 (m := 16) (by decide)
    have p4 := picked_is w0 (m := 4) (by decide)
    have u4 := pk_hi r.f0 (m := 4) (by decide)
    have pv := picked_is w1 (m := props) hp0
    have lv := pk_lo r.f1 (m := props) hp0
    have uv := pk_hi r.f1 (m := props) hp0
    generalize pk r.f0 4 = op at *
    generalize pk r.f1 props = v at *
    refine ⟨.leaf ⟨13, v⟩, .prop v lv uv, by simp only [Tm.size]; omega, fun _ => rfl, by simp only [Tm.tempo]; omega, (by show 1 ≤ 2 ^ (0 + 1) - 1; decide), Ev.step (f := fun _ => some ⟨a + 1, tp, out ++ [⟨13, v⟩]⟩) (fun k => ?_) (ev_some (by simp [Tm.size, Tm.tempo, Tm.flat]))⟩
    simp only [grown_formula.f, hr, p16, p4, Option.bind_some]
    rw [if_pos (.inl rfl), Option.bind_some, show (if 8 < op ∧ tp = 0 then wrap64 (4 + Int.tmod op 5) else op) = op from if_neg (by omega), if_pos u4, if_pos hp0, pv, Option.bind_some, put_ok _ _ _ _ _ (by omega)]
  | succ d ih =>
    intro a tp out hd h0 h1 ho t0 t1
    have hp1 : 2 ^ (d + 1 + 1) = 2 * 2 ^ (d + 1) := by rw [Nat.pow_succ]; omega
    have hp2 : 2 ≤ 2 ^ (d + 1) := by have := Nat.two_pow_pos d; rw [Nat.pow_succ]; omega
    obtain ⟨r, hr, w0, w1⟩ := take_is hw a tp out h0 (by omega)
    have p16 := picked_is w0 (m := 16) (by decide)
    have p4 := picked_is w0 (m := 4) (by decide)
    have l4 := pk_lo r.f0 (m := 4) (by decide)
    have u4 := pk_hi r.f0 (m := 4) (by decide)
    have l16 := pk_lo r.f0 (m := 16) (by decide)
    have u16 := pk_hi r.f0 (m := 16) (by decide)
    obtain ⟨o0, hop, o1, o2, o3⟩ : ∃ op : Int, (if ((d + 1 : Nat) : Int) = 0 ∨ 12 < a + 1 then foretellkeep_picked.f r.f0 4 else some (pk r.f0 16)) = some op ∧ 0 ≤ op ∧ op < 16 ∧ (12 ≤ a → op < 4) := by
      by_cases c : ((d + 1 : Nat) : Int) = 0 ∨ 12 < a + 1
      · rw [if_pos c, p4]
        exact ⟨_, rfl, l4, by omega, fun _ => u4⟩
      · rw [if_neg c]
        exact ⟨_, rfl, l16, u16, by omega⟩
    obtain ⟨op, hop2, q0, q1, q2, q3⟩ : ∃ op : Int, (if 8 < o0 ∧ tp = 0 then wrap64 (4 + Int.tmod o0 5) else o0) = op ∧ 0 ≤ op ∧ op < 16 ∧ (12 ≤ a → op < 4) ∧ (9 ≤ op → 1 ≤ tp) := by
      by_cases c : 8 < o0 ∧ tp = 0
      · rw [if_pos c]
        have hm := Int.tmod_eq_emod_of_nonneg (a := o0) (b := 5) (by omega)
        rw [w64 (n := 4 + Int.tmod o0 5) (by omega) (by omega)]
        exact ⟨_, rfl, by omega, by omega, by omega, by omega⟩
      · rw [if_neg c]
        exact ⟨_, rfl, o1, o2, o3, by omega⟩
    have e1 : w64 (n := ((d + 1 : Nat) : Int) - 1) (by omega) (by omega) = w64 (n := ((d + 1 : Nat) : Int) - 1) (by omega) (by omega) := rfl
    have hd1 : wrap64 (((d + 1 : Nat) : Int) - 1) = (d : Int) := by rw [w64 (n := ((d + 1 : Nat) : Int) - 1) (by omega) (by omega)]; omega
    have hst : ∀ k, grown_formula.f (k + 1) raw props ⟨a, tp, out⟩ ((d + 1 : Nat) : Int) = (if op < 4 then (if 0 < props then (foretellkeep_picked.f r.f1 props).bind fun v => grown_put.f ⟨a + 1, tp, out⟩ 13 v else (foretellkeep_picked.f r.f1 2).bind fun v => grown_put.f ⟨a + 1, tp, out⟩ (wrap64 (11 + v)) 0)
      else if op < 6 then (grown_put.f ⟨a + 1, tp, out⟩ 10 0).bind fun s1 => grown_formula.f k raw props s1 (d : Int)
      else if op < 9 then (grown_put.f ⟨a + 1, tp, out⟩ (wrap64 (8 + Int.tmod op 2)) 0).bind fun s1 => (grown_formula.f k raw props s1 (d : Int)).bind fun s2 => grown_formula.f k raw props s2 (d : Int)
      else if op < 13 then (grown_put.f ⟨a + 1, wrap64 (tp - 1), out⟩ (if op = 9 then 14 else if op = 11 then 18 else 17) 0).bind fun s1 => grown_formula.f k raw props s1 (d : Int)
      else (grown_put.f ⟨a + 1, wrap64 (tp - 1), out⟩ (wrap64 (15 + Int.tmod op 2)) 0).bind fun s1 => (grown_formula.f k raw props s1 (d : Int)).bind fun s2 => grown_formula.f k raw props s2 (d : Int)) := by
      intro k
      simp only [grown_formula.f, hr, p16, Option.bind_some, hd1]
      rw [hop, Option.bind_some, hop2]
    have hun : ∀ (o tp' : Int) (c : Nat), (o = 10 ∧ c = 0 ∨ (o = 14 ∨ o = 17 ∨ o = 18) ∧ c = 1) → tp' = tp - c → 0 ≤ tp' → a ≤ 11 → (∀ k, grown_formula.f (k + 1) raw props ⟨a, tp, out⟩ ((d + 1 : Nat) : Int) = grown_formula.f k raw props ⟨a + 1, tp', out ++ [⟨o, 0⟩]⟩ (d : Int)) →
        ∃ t, FormT props t ∧ (a ≤ 12 → a + t.size ≤ 13 + (d + 1 : Nat)) ∧ (12 ≤ a → t.size = 1) ∧ (t.tempo : Int) ≤ tp ∧ t.size ≤ 2 ^ (d + 1 + 1) - 1 ∧ Ev (fun k => grown_formula.f k raw props ⟨a, tp, out⟩ ((d + 1 : Nat) : Int)) ⟨a + t.size, tp - t.tempo, out ++ t.flat⟩ := by
      intro o tp' c hoc htp ht0 ha hk
      obtain ⟨x, hx, s1, s2, s3, s4, ex⟩ := ih (a + 1) tp' (out ++ [⟨o, 0⟩]) (by omega) (by omega) (by omega) (by rw [List.length_append, List.length_singleton]; omega) ht0 (by omega)
      have htm : (Tm.un ⟨o, 0⟩ x).tempo = c + x.tempo := by
        rcases hoc with ⟨rfl, rfl⟩ | ⟨rfl | rfl | rfl, rfl⟩ <;> rfl
      refine ⟨.un ⟨o, 0⟩ x, ?_, by simp only [Tm.size]; omega, by omega, by rw [htm]; omega, (by simp only [Tm.size]; omega), Ev.step hk ?_⟩
      · rcases hoc with ⟨rfl, _⟩ | ⟨h, _⟩
        · exact .not _ hx
        · exact .look _ _ h hx
      · have e : (⟨a + (Tm.un ⟨o, 0⟩ x).size, tp - (Tm.un ⟨o, 0⟩ x).tempo, out ++ (Tm.un ⟨o, 0⟩ x).flat⟩ : GrSt) = ⟨a + 1 + x.size, tp' - x.tempo, out ++ [⟨o, 0⟩] ++ x.flat⟩ := by
          rw [htm]
          simp [Tm.size, Tm.flat]
          omega
        rw [e]
        exact ex
    have hbin : ∀ (o tp' : Int) (c : Nat), ((o = 8 ∨ o = 9) ∧ c = 0 ∨ (o = 15 ∨ o = 16) ∧ c = 1) → tp' = tp - c → 0 ≤ tp' → a ≤ 11 → (∀ k, grown_formula.f (k + 1) raw props ⟨a, tp, out⟩ ((d + 1 : Nat) : Int) = (grown_formula.f k raw props ⟨a + 1, tp', out ++ [⟨o, 0⟩]⟩ (d : Int)).bind fun s2 => grown_formula.f k raw props s2 (d : Int)) →
        ∃ t, FormT props t ∧ (a ≤ 12 → a + t.size ≤ 13 + (d + 1 : Nat)) ∧ (12 ≤ a → t.size = 1) ∧ (t.tempo : Int) ≤ tp ∧ t.size ≤ 2 ^ (d + 1 + 1) - 1 ∧ Ev (fun k => grown_formula.f k raw props ⟨a, tp, out⟩ ((d + 1 : Nat) : Int)) ⟨a + t.size, tp - t.tempo, out ++ t.flat⟩ := by
      intro o tp' c hoc htp ht0 ha hk
      obtain ⟨x, hx, s1, s2, s3, s4, ex⟩ := ih (a + 1) tp' (out ++ [⟨o, 0⟩]) (by omega) (by omega) (by omega) (by rw [List.length_append, List.length_singleton]; omega) ht0 (by omega)
      obtain ⟨y, hy, z1, z2, z3, z4, ey⟩ := ih (a + 1 + x.size) (tp' - x.tempo) (out ++ [⟨o, 0⟩] ++ x.flat) (by omega) (by omega) (by omega) (by rw [List.length_append, List.length_append, List.length_singleton, Tm.flat_len]; omega) (by omega) (by omega)
      have htm : (Tm.bin ⟨o, 0⟩ x y).tempo = c + x.tempo + y.tempo := by
        rcases hoc with ⟨rfl | rfl, rfl⟩ | ⟨rfl | rfl, rfl⟩ <;> rfl
      refine ⟨.bin ⟨o, 0⟩ x y, ?_, by simp only [Tm.size]; omega, by omega, by rw [htm]; omega, (by simp only [Tm.size]; omega), Ev.step hk (Ev.bind ex ?_)⟩
      · rcases hoc with ⟨h, _⟩ | ⟨h, _⟩
        · exact .log _ _ _ h hx hy
        · exact .unto _ _ _ h hx hy
      · have e : (⟨a + (Tm.bin ⟨o, 0⟩ x y).size, tp - (Tm.bin ⟨o, 0⟩ x y).tempo, out ++ (Tm.bin ⟨o, 0⟩ x y).flat⟩ : GrSt) = ⟨a + 1 + x.size + y.size, tp' - x.tempo - y.tempo, out ++ [⟨o, 0⟩] ++ x.flat ++ y.flat⟩ := by
          rw [htm]
          simp [Tm.size, Tm.flat]
          omega
        rw [e]
        exact ey
    have hm2 := Int.tmod_eq_emod_of_nonneg (a := op) (b := 2) q0
    by_cases c4 : op < 4
    · have pv := picked_is w1 (m := props) hp0
      have lv := pk_lo r.f1 (m := props) hp0
      have uv := pk_hi r.f1 (m := props) hp0
      generalize pk r.f1 props = v at *
      refine ⟨.leaf ⟨13, v⟩, .prop v lv uv, by simp only [Tm.size]; omega, fun _ => rfl, by simp only [Tm.tempo]; omega, (by show 1 ≤ 2 ^ (d + 1 + 1) - 1; omega), Ev.step (f := fun _ => some ⟨a + 1, tp, out ++ [⟨13, v⟩]⟩) (fun k => ?_) (ev_some (by simp [Tm.size, Tm.tempo, Tm.flat]))⟩
      rw [hst, if_pos c4, if_pos hp0, pv, Option.bind_some, put_ok _ _ _ _ _ (by omega)]
    by_cases c6 : op < 6
    · refine hun 10 tp 0 (.inl ⟨rfl, rfl⟩) (by omega) t0 (by omega) (fun k => ?_)
      rw [hst, if_neg c4, if_pos c6, put_ok _ _ _ _ _ (by omega), Option.bind_some]
    by_cases c9 : op < 9
    · obtain ⟨o, ho89, hko⟩ : ∃ o : Int, (o = 8 ∨ o = 9) ∧ 8 + Int.tmod op 2 = o := ⟨_, by omega, rfl⟩
      refine hbin o tp 0 (.inl ⟨ho89, rfl⟩) (by omega) t0 (by omega) (fun k => ?_)
      rw [hst, if_neg c4, if_neg c6, if_pos c9, hko, w64 (n := o) (by omega) (by omega), put_ok _ _ _ _ _ (by omega), Option.bind_some]
    have htp1 := q3 (by omega)
    have e3 : wrap64 (tp - 1) = tp - 1 := w64 (by omega) (by omega)
    by_cases c13 : op < 13
    · obtain ⟨o, ho, hko⟩ : ∃ o : Int, (o = 14 ∨ o = 17 ∨ o = 18) ∧ (if op = 9 then 14 else if op = 11 then 18 else 17) = o := by
        by_cases k9 : op = 9
        · rw [if_pos k9]; exact ⟨_, .inl rfl, rfl⟩
        · rw [if_neg k9]
          by_cases k11 : op = 11
          · rw [if_pos k11]; exact ⟨_, .inr (.inr rfl), rfl⟩
          · rw [if_neg k11]; exact ⟨_, .inr (.inl rfl), rfl⟩
      refine hun o (tp - 1) 1 (.inr ⟨ho, rfl⟩) (by omega) (by omega) (by omega) (fun k => ?_)
      rw [hst, if_neg c4, if_neg c6, if_neg c9, if_pos c13, hko, e3, put_ok _ _ _ _ _ (by omega), Option.bind_some]
    · obtain ⟨o, ho, hko⟩ : ∃ o : Int, (o = 15 ∨ o = 16) ∧ 15 + Int.tmod op 2 = o := ⟨_, by omega, rfl⟩
      refine hbin o (tp - 1) 1 (.inr ⟨ho, rfl⟩) (by omega) (by omega) (by omega) (fun k => ?_)
      rw [hst, if_neg c4, if_neg c6, if_neg c9, if_neg c13, hko, e3, w64 (n := o) (by omega) (by omega), put_ok _ _ _ _ _ (by omega), Option.bind_some]
/-- What 'Formula' makes. -/
theorem form_is {raw : List Raw} (hw : rawWf raw) (tp : Int) (h0 : 0 ≤ tp) (h1 : tp ≤ 1000) : ∃ t, FormT 3 t ∧ t.size ≤ 17 ∧ (t.tempo : Int) ≤ tp ∧ Ev (fun k => foretellkeep_Formula.f k raw 3 tp) t.flat := by
  obtain ⟨t, ht, hs, _, htm, _, he⟩ := form_gen hw 3 (by decide) (by decide) 4 0 tp [] (by decide) (by decide) (by decide) (by decide) h0 h1
  refine ⟨t, ht, by omega, htm, ?_⟩
  unfold foretellkeep_Formula.f
  exact Ev.bind he (Ev.now _)
end Go.Proofs.YtcoaeefmmnohkaaDoor.Q
