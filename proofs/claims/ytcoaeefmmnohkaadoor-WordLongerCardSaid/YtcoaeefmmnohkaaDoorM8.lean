-- PACKED by pack.py of this repo: QForm FForetellkeepSmall
import Derived.WalkSpells
import Derived.Test.YtcoaeefmmnohkaaDoorM6
import Derived.Test.YtcoaeefmmnohkaaDoorM7
import Derived.Test.YtcoaeefmmnohkaaDoorM2
import Derived.Test.YtcoaeefmmnohkaaDoorM3
section
namespace Go.Proofs.YtcoaeefmmnohkaaDoor.Q
open Go.RowKit Go.Proofs.YtcoaeefmmnohkaaDoorW.PrintWords Go.Proofs.YtcoaeefmmnohkaaDoorW.PrintMore Go.Proofs.YtcoaeefmmnohkaaDoor.P
set_option linter.unusedVariables false
inductive FormT (props : Int) : Tm → Prop
  | prop (v : Int) (h0 : 0 ≤ v) (h1 : v < props) : FormT props (.leaf ⟨13, v⟩)
  | yes (o : Int) (h : o = 11 ∨ o = 12) : FormT props (.leaf ⟨o, 0⟩)
  | not (a : Tm) (ha : FormT props a) : FormT props (.un ⟨10, 0⟩ a)
  | log (o : Int) (a b : Tm) (h : o = 8 ∨ o = 9) (ha : FormT props a) (hb : FormT props b) : FormT props (.bin ⟨o, 0⟩ a b)
  | look (o : Int) (a : Tm) (h : o = 14 ∨ o = 17 ∨ o = 18) (ha : FormT props a) : FormT props (.un ⟨o, 0⟩ a)
  | unto (o : Int) (a b : Tm) (h : o = 15 ∨ o = 16) (ha : FormT props a) (hb : FormT props b) : FormT props (.bin ⟨o, 0⟩ a b)
theorem FormT.ok {props : Int} {t : Tm} (h : FormT props t) : t.ok := by
  induction h with
  | prop v => exact ⟨(by decide : (1 : Int) ≤ 13), (by decide : (13 : Int) ≤ 18), (by decide : polish_Parts.tab.getD (13 : Int).toNat 0 = 0)⟩
  | yes o h => rcases h with rfl | rfl <;> exact ⟨by decide, by decide, by decide⟩
  | not a _ ih => exact ⟨by decide, by decide, by decide, ih⟩
  | log o a b h _ _ iha ihb => rcases h with rfl | rfl <;> exact ⟨by decide, by decide, by decide, iha, ihb⟩
  | look o a h _ ih => rcases h with rfl | rfl | rfl <;> exact ⟨by decide, by decide, by decide, ih⟩
  | unto o a b h _ _ iha ihb => rcases h with rfl | rfl <;> exact ⟨by decide, by decide, by decide, iha, ihb⟩
def Tm.tempo : Tm → Nat
  | .leaf _ => 0
  | .un o a => (if o.f0 = 10 then 0 else 1) + a.tempo
  | .bin o a b => (if o.f0 = 8 ∨ o.f0 = 9 then 0 else 1) + a.tempo + b.tempo
theorem form_gen {raw : List Raw} (hw : rawWf raw) (props : Int) (hp0 : 0 < props) (hp : props ≤ 100) : ∀ (d : Nat) (a tp : Int) (out : List Op), d ≤ 10 → 0 ≤ a → a ≤ 10000 → out.length + 1000 * d ≤ 20000 → 0 ≤ tp → tp ≤ 1000 →
    ∃ t, FormT props t ∧ (a ≤ 12 → a + t.size ≤ 13 + d) ∧ (12 ≤ a → t.size = 1) ∧ (t.tempo : Int) ≤ tp ∧ t.size ≤ 2 ^ (d + 1) - 1 ∧ Ev (fun k => grown_formula.f k raw props ⟨a, tp, out⟩ (d : Int)) ⟨a + t.size, tp - t.tempo, out ++ t.flat⟩ := by
  intro d
  induction d with
  | zero =>
    intro a tp out hd h0 h1 ho t0 t1
    obtain ⟨r, hr, w0, w1⟩ := take_is hw a tp out h0 (by omega)
    have p16 := picked_is w0 (m := 16) (by decide)
    have p4 := picked_is w0 (m := 4) (by decide)
    have u4 := pk_hi r.f0 (m := 4) (by decide)
    have pv := picked_is w1 (m := props) hp0
    have lv := pk_lo r.f1 (m := props) hp0
    have uv := pk_hi r.f1 (m := props) hp0
    generalize pk r.f0 4 = op at *
    generalize pk r.f1 props = v at *
    refine ⟨.leaf ⟨13, v⟩, .prop v lv uv, by simp only [Tm.size]; omega, fun _ => rfl, by simp only [Tm.tempo]; omega, (by show 1 ≤ 2 ^ (0 + 1) - 1; decide), Ev.step (f := fun _ => some ⟨a + 1, tp, out ++ [⟨13, v⟩]⟩) (fun k => ?_) (ev_some (by simp [Tm.size, Tm.tempo, Tm.flat]))⟩
    simp only [grown_formula.f, hr, p16, p4, Option.bind_some]
    rw [if_pos (.inl rfl), Option.bind_some, show (if 8 < op ∧ tp = 0 then wrap64 (4 + Int.tmod op 5) else op) = op from if_neg (by omega), if_pos u4, if_pos hp0, pv, Option.bind_some, put_ok _ _ _ _ _ (by omega)]
  | succ d ih =>
    intro a tp out hd h0 h1 ho t0 t1
    have hp1 : 2 ^ (d + 1 + 1) = 2 * 2 ^ (d + 1) := by rw [Nat.pow_succ]; omega
    have hp2 : 2 ≤ 2 ^ (d + 1) := by have := Nat.two_pow_pos d; rw [Nat.pow_succ]; omega
    obtain ⟨r, hr, w0, w1⟩ := take_is hw a tp out h0 (by omega)
    have p16 := picked_is w0 (m := 16) (by decide)
    have p4 := picked_is w0 (m := 4) (by decide)
    have l4 := pk_lo r.f0 (m := 4) (by decide)
    have u4 := pk_hi r.f0 (m := 4) (by decide)
    have l16 := pk_lo r.f0 (m := 16) (by decide)
    have u16 := pk_hi r.f0 (m := 16) (by decide)
    obtain ⟨o0, hop, o1, o2, o3⟩ : ∃ op : Int, (if ((d + 1 : Nat) : Int) = 0 ∨ 12 < a + 1 then foretellkeep_picked.f r.f0 4 else some (pk r.f0 16)) = some op ∧ 0 ≤ op ∧ op < 16 ∧ (12 ≤ a → op < 4) := by
      by_cases c : ((d + 1 : Nat) : Int) = 0 ∨ 12 < a + 1
      · rw [if_pos c, p4]
        exact ⟨_, rfl, l4, by omega, fun _ => u4⟩
      · rw [if_neg c]
        exact ⟨_, rfl, l16, u16, by omega⟩
    obtain ⟨op, hop2, q0, q1, q2, q3⟩ : ∃ op : Int, (if 8 < o0 ∧ tp = 0 then wrap64 (4 + Int.tmod o0 5) else o0) = op ∧ 0 ≤ op ∧ op < 16 ∧ (12 ≤ a → op < 4) ∧ (9 ≤ op → 1 ≤ tp) := by
      by_cases c : 8 < o0 ∧ tp = 0
      · rw [if_pos c]
        have hm := Int.tmod_eq_emod_of_nonneg (a := o0) (b := 5) (by omega)
        rw [w64 (n := 4 + Int.tmod o0 5) (by omega) (by omega)]
        exact ⟨_, rfl, by omega, by omega, by omega, by omega⟩
      · rw [if_neg c]
        exact ⟨_, rfl, o1, o2, o3, by omega⟩
    have e1 : w64 (n := ((d + 1 : Nat) : Int) - 1) (by omega) (by omega) = w64 (n := ((d + 1 : Nat) : Int) - 1) (by omega) (by omega) := rfl
    have hd1 : wrap64 (((d + 1 : Nat) : Int) - 1) = (d : Int) := by rw [w64 (n := ((d + 1 : Nat) : Int) - 1) (by omega) (by omega)]; omega
    have hst : ∀ k, grown_formula.f (k + 1) raw props ⟨a, tp, out⟩ ((d + 1 : Nat) : Int) = (if op < 4 then (if 0 < props then (foretellkeep_picked.f r.f1 props).bind fun v => grown_put.f ⟨a + 1, tp, out⟩ 13 v else (foretellkeep_picked.f r.f1 2).bind fun v => grown_put.f ⟨a + 1, tp, out⟩ (wrap64 (11 + v)) 0)
      else if op < 6 then (grown_put.f ⟨a + 1, tp, out⟩ 10 0).bind fun s1 => grown_formula.f k raw props s1 (d : Int)
      else if op < 9 then (grown_put.f ⟨a + 1, tp, out⟩ (wrap64 (8 + Int.tmod op 2)) 0).bind fun s1 => (grown_formula.f k raw props s1 (d : Int)).bind fun s2 => grown_formula.f k raw props s2 (d : Int)
      else if op < 13 then (grown_put.f ⟨a + 1, wrap64 (tp - 1), out⟩ (if op = 9 then 14 else if op = 11 then 18 else 17) 0).bind fun s1 => grown_formula.f k raw props s1 (d : Int)
      else (grown_put.f ⟨a + 1, wrap64 (tp - 1), out⟩ (wrap64 (15 + Int.tmod op 2)) 0).bind fun s1 => (grown_formula.f k raw props s1 (d : Int)).bind fun s2 => grown_formula.f k raw props s2 (d : Int)) := by
      intro k
      simp only [grown_formula.f, hr, p16, Option.bind_some, hd1]
      rw [hop, Option.bind_some, hop2]
    have hun : ∀ (o tp' : Int) (c : Nat), (o = 10 ∧ c = 0 ∨ (o = 14 ∨ o = 17 ∨ o = 18) ∧ c = 1) → tp' = tp - c → 0 ≤ tp' → a ≤ 11 → (∀ k, grown_formula.f (k + 1) raw props ⟨a, tp, out⟩ ((d + 1 : Nat) : Int) = grown_formula.f k raw props ⟨a + 1, tp', out ++ [⟨o, 0⟩]⟩ (d : Int)) →
        ∃ t, FormT props t ∧ (a ≤ 12 → a + t.size ≤ 13 + (d + 1 : Nat)) ∧ (12 ≤ a → t.size = 1) ∧ (t.tempo : Int) ≤ tp ∧ t.size ≤ 2 ^ (d + 1 + 1) - 1 ∧ Ev (fun k => grown_formula.f k raw props ⟨a, tp, out⟩ ((d + 1 : Nat) : Int)) ⟨a + t.size, tp - t.tempo, out ++ t.flat⟩ := by
      intro o tp' c hoc htp ht0 ha hk
      obtain ⟨x, hx, s1, s2, s3, s4, ex⟩ := ih (a + 1) tp' (out ++ [⟨o, 0⟩]) (by omega) (by omega) (by omega) (by rw [List.length_append, List.length_singleton]; omega) ht0 (by omega)
      have htm : (Tm.un ⟨o, 0⟩ x).tempo = c + x.tempo := by
        rcases hoc with ⟨rfl, rfl⟩ | ⟨rfl | rfl | rfl, rfl⟩ <;> rfl
      refine ⟨.un ⟨o, 0⟩ x, ?_, by simp only [Tm.size]; omega, by omega, by rw [htm]; omega, (by simp only [Tm.size]; omega), Ev.step hk ?_⟩
      · rcases hoc with ⟨rfl, _⟩ | ⟨h, _⟩
        · exact .not _ hx
        · exact .look _ _ h hx
      · have e : (⟨a + (Tm.un ⟨o, 0⟩ x).size, tp - (Tm.un ⟨o, 0⟩ x).tempo, out ++ (Tm.un ⟨o, 0⟩ x).flat⟩ : GrSt) = ⟨a + 1 + x.size, tp' - x.tempo, out ++ [⟨o, 0⟩] ++ x.flat⟩ := by
          rw [htm]
          simp [Tm.size, Tm.flat]
          omega
        rw [e]
        exact ex
    have hbin : ∀ (o tp' : Int) (c : Nat), ((o = 8 ∨ o = 9) ∧ c = 0 ∨ (o = 15 ∨ o = 16) ∧ c = 1) → tp' = tp - c → 0 ≤ tp' → a ≤ 11 → (∀ k, grown_formula.f (k + 1) raw props ⟨a, tp, out⟩ ((d + 1 : Nat) : Int) = (grown_formula.f k raw props ⟨a + 1, tp', out ++ [⟨o, 0⟩]⟩ (d : Int)).bind fun s2 => grown_formula.f k raw props s2 (d : Int)) →
        ∃ t, FormT props t ∧ (a ≤ 12 → a + t.size ≤ 13 + (d + 1 : Nat)) ∧ (12 ≤ a → t.size = 1) ∧ (t.tempo : Int) ≤ tp ∧ t.size ≤ 2 ^ (d + 1 + 1) - 1 ∧ Ev (fun k => grown_formula.f k raw props ⟨a, tp, out⟩ ((d + 1 : Nat) : Int)) ⟨a + t.size, tp - t.tempo, out ++ t.flat⟩ := by
      intro o tp' c hoc htp ht0 ha hk
      obtain ⟨x, hx, s1, s2, s3, s4, ex⟩ := ih (a + 1) tp' (out ++ [⟨o, 0⟩]) (by omega) (by omega) (by omega) (by rw [List.length_append, List.length_singleton]; omega) ht0 (by omega)
      obtain ⟨y, hy, z1, z2, z3, z4, ey⟩ := ih (a + 1 + x.size) (tp' - x.tempo) (out ++ [⟨o, 0⟩] ++ x.flat) (by omega) (by omega) (by omega) (by rw [List.length_append, List.length_append, List.length_singleton, Tm.flat_len]; omega) (by omega) (by omega)
      have htm : (Tm.bin ⟨o, 0⟩ x y).tempo = c + x.tempo + y.tempo := by
        rcases hoc with ⟨rfl | rfl, rfl⟩ | ⟨rfl | rfl, rfl⟩ <;> rfl
      refine ⟨.bin ⟨o, 0⟩ x y, ?_, by simp only [Tm.size]; omega, by omega, by rw [htm]; omega, (by simp only [Tm.size]; omega), Ev.step hk (Ev.bind ex ?_)⟩
      · rcases hoc with ⟨h, _⟩ | ⟨h, _⟩
        · exact .log _ _ _ h hx hy
        · exact .unto _ _ _ h hx hy
      · have e : (⟨a + (Tm.bin ⟨o, 0⟩ x y).size, tp - (Tm.bin ⟨o, 0⟩ x y).tempo, out ++ (Tm.bin ⟨o, 0⟩ x y).flat⟩ : GrSt) = ⟨a + 1 + x.size + y.size, tp' - x.tempo - y.tempo, out ++ [⟨o, 0⟩] ++ x.flat ++ y.flat⟩ := by
          rw [htm]
          simp [Tm.size, Tm.flat]
          omega
        rw [e]
        exact ey
    have hm2 := Int.tmod_eq_emod_of_nonneg (a := op) (b := 2) q0
    by_cases c4 : op < 4
    · have pv := picked_is w1 (m := props) hp0
      have lv := pk_lo r.f1 (m := props) hp0
      have uv := pk_hi r.f1 (m := props) hp0
      generalize pk r.f1 props = v at *
      refine ⟨.leaf ⟨13, v⟩, .prop v lv uv, by simp only [Tm.size]; omega, fun _ => rfl, by simp only [Tm.tempo]; omega, (by show 1 ≤ 2 ^ (d + 1 + 1) - 1; omega), Ev.step (f := fun _ => some ⟨a + 1, tp, out ++ [⟨13, v⟩]⟩) (fun k => ?_) (ev_some (by simp [Tm.size, Tm.tempo, Tm.flat]))⟩
      rw [hst, if_pos c4, if_pos hp0, pv, Option.bind_some, put_ok _ _ _ _ _ (by omega)]
    by_cases c6 : op < 6
    · refine hun 10 tp 0 (.inl ⟨rfl, rfl⟩) (by omega) t0 (by omega) (fun k => ?_)
      rw [hst, if_neg c4, if_pos c6, put_ok _ _ _ _ _ (by omega), Option.bind_some]
    by_cases c9 : op < 9
    · obtain ⟨o, ho89, hko⟩ : ∃ o : Int, (o = 8 ∨ o = 9) ∧ 8 + Int.tmod op 2 = o := ⟨_, by omega, rfl⟩
      refine hbin o tp 0 (.inl ⟨ho89, rfl⟩) (by omega) t0 (by omega) (fun k => ?_)
      rw [hst, if_neg c4, if_neg c6, if_pos c9, hko, w64 (n := o) (by omega) (by omega), put_ok _ _ _ _ _ (by omega), Option.bind_some]
    have htp1 := q3 (by omega)
    have e3 : wrap64 (tp - 1) = tp - 1 := w64 (by omega) (by omega)
    by_cases c13 : op < 13
    · obtain ⟨o, ho, hko⟩ : ∃ o : Int, (o = 14 ∨ o = 17 ∨ o = 18) ∧ (if op = 9 then 14 else if op = 11 then 18 else 17) = o := by
        by_cases k9 : op = 9
        · rw [if_pos k9]; exact ⟨_, .inl rfl, rfl⟩
        · rw [if_neg k9]
          by_cases k11 : op = 11
          · rw [if_pos k11]; exact ⟨_, .inr (.inr rfl), rfl⟩
          · rw [if_neg k11]; exact ⟨_, .inr (.inl rfl), rfl⟩
      refine hun o (tp - 1) 1 (.inr ⟨ho, rfl⟩) (by omega) (by omega) (by omega) (fun k => ?_)
      rw [hst, if_neg c4, if_neg c6, if_neg c9, if_pos c13, hko, e3, put_ok _ _ _ _ _ (by omega), Option.bind_some]
    · obtain ⟨o, ho, hko⟩ : ∃ o : Int, (o = 15 ∨ o = 16) ∧ 15 + Int.tmod op 2 = o := ⟨_, by omega, rfl⟩
      refine hbin o (tp - 1) 1 (.inr ⟨ho, rfl⟩) (by omega) (by omega) (by omega) (fun k => ?_)
      rw [hst, if_neg c4, if_neg c6, if_neg c9, if_neg c13, hko, e3, w64 (n := o) (by omega) (by omega), put_ok _ _ _ _ _ (by omega), Option.bind_some]
theorem form_is {raw : List Raw} (hw : rawWf raw) (tp : Int) (h0 : 0 ≤ tp) (h1 : tp ≤ 1000) : ∃ t, FormT 3 t ∧ t.size ≤ 17 ∧ (t.tempo : Int) ≤ tp ∧ Ev (fun k => foretellkeep_Formula.f k raw 3 tp) t.flat := by
  obtain ⟨t, ht, hs, _, htm, _, he⟩ := form_gen hw 3 (by decide) (by decide) 4 0 tp [] (by decide) (by decide) (by decide) (by decide) h0 h1
  refine ⟨t, ht, by omega, htm, ?_⟩
  unfold foretellkeep_Formula.f
  exact Ev.bind he (Ev.now _)
end Go.Proofs.YtcoaeefmmnohkaaDoor.Q
end
section
namespace Go.Proofs.YtcoaeefmmnohkaaDoor.P
open Go.RowKit Go.Proofs.YtcoaeefmmnohkaaDoorW.PrintWords Go.Proofs.YtcoaeefmmnohkaaDoorW.PrintLast Go.Proofs.YtcoaeefmmnohkaaDoorW.PrintMore Go.Proofs.YtcoaeefmmnohkaaDoor.G
attribute [local go_sem] max2_int min2_int max_two min_two max_three min_three max_four min_four   -- for this text's walks alone
set_option linter.unusedVariables false
set_option linter.unusedSimpArgs false

/-! ### foretellkeep_small: function 26 -/
--IMPORT FGrownTake
--IMPORT FGrownFormula
--IMPORT Derived.WalkSpells
def foretellkeep_small.f (k : Nat) (l0 : List (S79)) : Option ((List (S51))) := (grown_formula.f k l0 3 ⟨0, 1, []⟩ 2).bind fun st => some st.out
theorem foretellkeep_small.mono : ∀ a0 k, LeO (foretellkeep_small.f k a0) (foretellkeep_small.f (k + 1) a0) := by
  intro a0 k
  unfold foretellkeep_small.f
  exact LeO.bind (grown_formula.mono_f k _ _ _ _) (fun _ => LeO.refl _)
set_option maxHeartbeats 8000000 in
set_option maxRecDepth 100000 in
theorem foretellkeep_small.calls (k : Nat) (A0 : Option Addr) (c0 : Nat) (l0 : List (S79)) (r : List (S51)) (w : World) (hr0 : Kd.C k79 w A0 l0.length l0) (hc0 : l0.length ≤ c0) (h : foretellkeep_small.f k l0 = some r) :
    Calls Tryd.prog 26 #[.slice A0 l0.length c0] w fun e w' => ∃ v0_ : Value, e = .returned (v0_) ∧ Kd.R k51 51 w' w.heap.size (fun _ => True) v0_ r ∧ Below w.heap.size w w' := by
  have R0 := Aside0.mk hr0
  clear hr0 hc0
  unfold foretellkeep_small.f at h
  obtain ⟨st, h1, h⟩ := Option.bind_eq_some_iff.mp h
  obtain rfl := Option.some.inj h
  have H1 := Aside0.mk h1
  clear h h1
  go_enter Tryd.func26, Tryd.ntmps26
  go_wp2_with (first | ((with_reducible refine gate_dst (N := 6) rfl ?_); go_must (refine box_event ?hg (N := 6) ?hd (cs := #[.slice A0 l0.length c0, .int .i64 0, .int .i64 0, .int .i64 3, .int .i64 1, .slice none 0 0]) (t := 63) ?hr ?_; (case hd => rfl); (case hg => rfl); (case hr => first | (go_simp; done) | (go_simp; rfl)); intro g hg w1 hbox hb; have HV := Aside0.mk (show GrownAt w w1 g A0 l0.length c0 0 3 ⟨0, 1, []⟩ from ⟨_, hbox, Kd.R_nil _ _ _ _ _, hb⟩); have BG := Aside0.mk (show w.heap.size ≤ g by rw [hg]; exact Nat.le_refl _); clear hb hbox hg)) | (go_at_call 29; go_must (refine (grown_formula.calls w A0 c0 l0 g 0 3 R0.out BG.out k _ _ _ _ HV.out H1.out).mono ?_; rintro e w2 ⟨rfl, hv⟩; obtain ⟨vo, k2, ro, b2⟩ := hv; have K2 := Aside0.mk k2; have RO := Aside0.mk ro; have HB := Aside0.mk b2; clear k2 ro b2; have hcz5 : w2.cell? ⟨g, 5, none⟩ = some vo := (blk_cell K2.out 5).trans rfl)))
  go_ret
  exact ⟨_, rfl, RO.out, HB.out⟩

end Go.Proofs.YtcoaeefmmnohkaaDoor.P
end
