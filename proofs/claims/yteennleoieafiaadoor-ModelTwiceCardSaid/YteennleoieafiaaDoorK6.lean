-- PACKED by pack.py of this repo: FForetellkeepModel
import Derived.WalkSpells
import Derived.StillTailTactics
import Derived.Deep.RegionLaw
import Derived.Test.YteennleoieafiaaDoorK2
import Derived.Test.YteennleoieafiaaDoorK3
import Derived.Test.YteennleoieafiaaDoorK5
section
namespace Go.Proofs.YteennleoieafiaaDoor.P
open Go.RowKit Go.Proofs.YteennleoieafiaaDoorW.PrintWords Go.Proofs.YteennleoieafiaaDoorW.PrintLast Go.Proofs.YteennleoieafiaaDoorW.PrintMore Go.Proofs.YteennleoieafiaaDoor.G
attribute [local go_sem] max2_int min2_int max_two min_two max_three min_three max_four min_four   -- for this text's walks alone
set_option linter.unusedVariables false
set_option linter.unusedSimpArgs false

/-! ### foretellkeep_Model: function 14 -/
--IMPORT Derived.WalkSpells
--IMPORT Derived.StillTailTactics
--IMPORT Derived.Deep.RegionLaw
--IMPORT FGrownPut
abbrev foretellkeep_Model.Vr := S32
abbrev foretellkeep_Model.Rl := S42
abbrev foretellkeep_Model.Pl := S65
/-- One variable of raw numbers. -/
def foretellkeep_Model.var (name : ByteArray) (lo sp ini : Int) : Option foretellkeep_Model.Vr :=
  (foretellkeep_picked.f lo 3).bind fun p => (foretellkeep_picked.f sp 4).bind fun q => (foretellkeep_picked.f ini (p - 1 + q - (p - 1) + 1)).bind fun r =>
    if 0 ≤ p then (if p ≤ 10 then (if 0 ≤ q then (if q ≤ 10 then (if 0 ≤ r then (if r ≤ 100 then some ⟨name, p - 1, p - 1 + q, p - 1 + r⟩ else none) else none) else none) else none) else none) else none
/-- One rule of raw numbers. -/
def foretellkeep_Model.rule (k : Nat) (p : foretellkeep_Model.Pl) : Option foretellkeep_Model.Rl :=
  (foretellkeep_Truth.f k p.f0 2).bind fun g => (foretellkeep_picked.f p.f1 2).bind fun v => (foretellkeep_Number.f k p.f2 2).bind fun x =>
    if 0 ≤ v then (if v ≤ 10 then some ⟨g, if p.f3 = true then [⟨v, x⟩, ⟨1 - v, [⟨2, v⟩]⟩] else [⟨v, x⟩]⟩ else none) else none
def foretellkeep_Model.rules (k : Nat) : List foretellkeep_Model.Pl → Option (List foretellkeep_Model.Rl)
  | [] => some []
  | p :: l => (foretellkeep_Model.rule k p).bind fun r => (foretellkeep_Model.rules k l).bind fun rs => some (r :: rs)
def foretellkeep_Model.nx : ByteArray := ⟨#[120]⟩
def foretellkeep_Model.ny : ByteArray := ⟨#[121, 50]⟩
def foretellkeep_Model.f (k : Nat) (a0_0 : Int) (a0_1 : Int) (a0_2 : Int) (a0_3 : Int) (a0_4 : Int) (a0_5 : Int) (l0_6 : List (S65)) : Option ((List (S32)) × (List (S42))) :=
  (foretellkeep_Model.var foretellkeep_Model.nx a0_2 a0_0 a0_4).bind fun x => (foretellkeep_Model.var foretellkeep_Model.ny a0_3 a0_1 a0_5).bind fun y => (foretellkeep_Model.rules k (l0_6.take 5)).bind fun rs => some ([x, y], rs)
theorem foretellkeep_Model.rule_mono (k : Nat) (p : foretellkeep_Model.Pl) : LeO (foretellkeep_Model.rule k p) (foretellkeep_Model.rule (k + 1) p) := by
  unfold foretellkeep_Model.rule
  exact LeO.bind (foretellkeep_Truth.mono _ _ _) (fun _ => LeO.bind (LeO.refl _) (fun _ => LeO.bind (foretellkeep_Number.mono _ _ _) (fun _ => LeO.refl _)))
theorem foretellkeep_Model.rules_mono (k : Nat) : ∀ l, LeO (foretellkeep_Model.rules k l) (foretellkeep_Model.rules (k + 1) l)
  | [] => LeO.refl _
  | p :: l => by
    unfold foretellkeep_Model.rules
    exact LeO.bind (foretellkeep_Model.rule_mono k p) (fun _ => LeO.bind (foretellkeep_Model.rules_mono k l) (fun _ => LeO.refl _))
theorem foretellkeep_Model.mono : ∀ a0 a1 a2 a3 a4 a5 a6 k, LeO (foretellkeep_Model.f k a0 a1 a2 a3 a4 a5 a6) (foretellkeep_Model.f (k + 1) a0 a1 a2 a3 a4 a5 a6) := by
  intro a0 a1 a2 a3 a4 a5 a6 k
  unfold foretellkeep_Model.f
  exact LeO.bind (LeO.refl _) (fun _ => LeO.bind (LeO.refl _) (fun _ => LeO.bind (foretellkeep_Model.rules_mono _ _) (fun _ => LeO.refl _)))
theorem foretellkeep_Model.var_is {name : ByteArray} {lo sp ini : Int} {X : foretellkeep_Model.Vr} (h : foretellkeep_Model.var name lo sp ini = some X) : ∃ p q r, foretellkeep_picked.f lo 3 = some p ∧ foretellkeep_picked.f sp 4 = some q ∧ foretellkeep_picked.f ini (p - 1 + q - (p - 1) + 1) = some r ∧ 0 ≤ p ∧ p ≤ 10 ∧ 0 ≤ q ∧ q ≤ 10 ∧ 0 ≤ r ∧ r ≤ 100 ∧ X = ⟨name, p - 1, p - 1 + q, p - 1 + r⟩ := by
  unfold foretellkeep_Model.var at h
  obtain ⟨p, hp, h⟩ := Option.bind_eq_some_iff.mp h
  obtain ⟨q, hq, h⟩ := Option.bind_eq_some_iff.mp h
  obtain ⟨r, hr, h⟩ := Option.bind_eq_some_iff.mp h
  by_cases c1 : 0 ≤ p
  · by_cases c2 : p ≤ 10
    · by_cases c3 : 0 ≤ q
      · by_cases c4 : q ≤ 10
        · by_cases c5 : 0 ≤ r
          · by_cases c6 : r ≤ 100
            · rw [if_pos c1, if_pos c2, if_pos c3, if_pos c4, if_pos c5, if_pos c6] at h
              exact ⟨p, q, r, hp, hq, hr, c1, c2, c3, c4, c5, c6, (Option.some.inj h).symm⟩
            · simp [c6] at h
          · simp [c5] at h
        · simp [c4] at h
      · simp [c3] at h
    · simp [c2] at h
  · simp [c1] at h
theorem foretellkeep_Model.rule_is {k : Nat} {p : foretellkeep_Model.Pl} {r : foretellkeep_Model.Rl} (h : foretellkeep_Model.rule k p = some r) : ∃ g v x, foretellkeep_Truth.f k p.f0 2 = some g ∧ foretellkeep_picked.f p.f1 2 = some v ∧ foretellkeep_Number.f k p.f2 2 = some x ∧ 0 ≤ v ∧ v ≤ 10 ∧ r = ⟨g, if p.f3 = true then [⟨v, x⟩, ⟨1 - v, [⟨2, v⟩]⟩] else [⟨v, x⟩]⟩ := by
  unfold foretellkeep_Model.rule at h
  obtain ⟨g, hg, h⟩ := Option.bind_eq_some_iff.mp h
  obtain ⟨v, hv, h⟩ := Option.bind_eq_some_iff.mp h
  obtain ⟨x, hx, h⟩ := Option.bind_eq_some_iff.mp h
  by_cases c1 : 0 ≤ v
  · by_cases c2 : v ≤ 10
    · rw [if_pos c1, if_pos c2] at h
      exact ⟨g, v, x, hg, hv, hx, c1, c2, (Option.some.inj h).symm⟩
    · simp [c2] at h
  · simp [c1] at h
theorem foretellkeep_Model.cell_of_below {w w' : World} (h : Below w.heap.size w w') {a : Addr} {v : Value} (hc : w.cell? a = some v) : w'.cell? a = some v := by
  rw [h.cell (World.block_lt_of_cell? w a hc)]
  exact hc
structure MdAt (w0 w : World) (g1 g2 g3 gn : Nat) (D : Array Value) (vV vR : Value) (vs : List foretellkeep_Model.Vr) (rs : List foretellkeep_Model.Rl) : Prop where
  b1 : w.heap[g1]? = some (.cells D 25 (0, 0))
  b3 : w.heap[g3]? = some (.cells #[vV, vR] 29 (0, 0))
  bn : w.heap[gn]? = some (.cells #[.string foretellkeep_Model.nx, .string foretellkeep_Model.ny] 9 (0, 0))
  rv : Kd.R k32 32 w w0.heap.size (fun _ => True) vV vs
  rr : Kd.R k42 42 w w0.heap.size (fun _ => True) vR rs
  bel : Below w0.heap.size w0 w
  g3b : w0.heap.size ≤ g3
  b2 : w.heap[g2]? = some (.cells #[.slice none 0 0, .slice none 0 0] 29 (0, 0))
  n23 : g2 ≠ g3
  g2b : w0.heap.size ≤ g2
section
variable {w0 w w' : World} {g1 g2 g3 gn : Nat} {D : Array Value} {vV vR : Value} {vs : List foretellkeep_Model.Vr} {rs : List foretellkeep_Model.Rl}
theorem MdAt.below (h : MdAt w0 w g1 g2 g3 gn D vV vR vs rs) (hb : Below w.heap.size w w') : MdAt w0 w' g1 g2 g3 gn D vV vR vs rs :=
  ⟨blk_below h.b1 hb, blk_below h.b3 hb, blk_below h.bn hb, Kd.R_below h.rv hb, Kd.R_below h.rr hb, below_step h.bel hb, h.g3b, blk_below h.b2 hb, h.n23, h.g2b⟩
theorem MdAt.drew (h : MdAt w0 w g1 g2 g3 gn D vV vR vs rs) : MdAt w0 w.drew g1 g2 g3 gn D vV vR vs rs := h.below (below_drew (Below.refl _ _))
theorem MdAt.putV (h : MdAt w0 w g1 g2 g3 gn D vV vR vs rs) {v : Value} {vs' : List foretellkeep_Model.Vr} (hr : Kd.R k32 32 w' w0.heap.size (fun _ => True) v vs') (hb : Below w0.heap.size w0 w') (hg : w.grownBy w' vV.ownBlock) : MdAt w0 (w'.setCell ⟨g3, 0, none⟩ v) g1 g2 g3 gn D v vR vs' rs :=
  have k1 := blk_grown h.b1 hg (Kd.R_ne h.rv h.b1 (by decide))
  have k3 := blk_grown h.b3 hg (Kd.R_ne h.rv h.b3 (by decide))
  have kn := blk_grown h.bn hg (Kd.R_ne h.rv h.bn (by decide))
  ⟨blk_far (p := ⟨g3, 0, none⟩) k1 (blk_ne k1 k3 (by decide)) _, blk_put k3 0 _ rfl, blk_far (p := ⟨g3, 0, none⟩) kn (blk_ne kn k3 (by decide)) _, Kd.R_set hr k3 (by decide) _ _, Kd.R_set (Kd.R_over h.rr h.rv (by decide) hg) k3 (by decide) _ _, hb.setCell (p := ⟨g3, 0, none⟩) h.g3b _, h.g3b, blk_far (p := ⟨g3, 0, none⟩) (blk_grown h.b2 hg (Kd.R_ne h.rv h.b2 (by decide))) h.n23 _, h.n23, h.g2b⟩
theorem MdAt.putR (h : MdAt w0 w g1 g2 g3 gn D vV vR vs rs) {v : Value} {rs' : List foretellkeep_Model.Rl} (hr : Kd.R k42 42 w' w0.heap.size (fun _ => True) v rs') (hb : Below w0.heap.size w0 w') (hg : w.grownBy w' vR.ownBlock) : MdAt w0 (w'.setCell ⟨g3, 1, none⟩ v) g1 g2 g3 gn D vV v vs rs' :=
  have k1 := blk_grown h.b1 hg (Kd.R_ne h.rr h.b1 (by decide))
  have k3 := blk_grown h.b3 hg (Kd.R_ne h.rr h.b3 (by decide))
  have kn := blk_grown h.bn hg (Kd.R_ne h.rr h.bn (by decide))
  ⟨blk_far (p := ⟨g3, 1, none⟩) k1 (blk_ne k1 k3 (by decide)) _, blk_put k3 1 _ rfl, blk_far (p := ⟨g3, 1, none⟩) kn (blk_ne kn k3 (by decide)) _, Kd.R_set (Kd.R_over h.rv h.rr (by decide) hg) k3 (by decide) _ _, Kd.R_set hr k3 (by decide) _ _, hb.setCell (p := ⟨g3, 1, none⟩) h.g3b _, h.g3b, blk_far (p := ⟨g3, 1, none⟩) (blk_grown h.b2 hg (Kd.R_ne h.rr h.b2 (by decide))) h.n23 _, h.n23, h.g2b⟩
end
theorem foretellkeep_Model.slice_event {P : Program} {ops : Array Oper} {rest : List Oper} {o : Oper} {a : Act} {Q : Exit → Act → World → Prop} {W : World} (hgd : o.guard = none) {N : Tmp} (_hd : o.dst = some N) {cs : Array Value} {t : TypeId} {n : Nat}
    (hrun : (execOp a.eval o).run P W = .ok (.value (.slice (some ⟨W.heap.size, 0, none⟩) n n)) (W.alloc (.cells cs t (0, 0))))
    (h : ∀ g, g = W.heap.size → ∀ w1, w1.heap[g]? = some (.cells cs t (0, 0)) → Below W.heap.size W w1 → wpList P ops Q rest (a.put o.dst (.slice (some ⟨g, 0, none⟩) n n)) w1) : wpList P ops Q (o :: rest) a W :=
  Kd.event_run hgd hrun (h _ rfl _ (blk_new W _) (below_alloc (Below.refl _ _) _))
set_option maxHeartbeats 8000000 in
set_option maxRecDepth 100000 in
theorem foretellkeep_Model.calls (k : Nat) (a0_0 : Int) (a0_1 : Int) (a0_2 : Int) (a0_3 : Int) (a0_4 : Int) (a0_5 : Int) (A0_6 : Option Addr) (c0_6 : Nat) (l0_6 : List (S65)) (r1 : List (S32)) (r2 : List (S42)) (w : World) (hr0_6 : Kd.C k65 w A0_6 l0_6.length l0_6) (hc0_6 : l0_6.length ≤ c0_6) (h : foretellkeep_Model.f k a0_0 a0_1 a0_2 a0_3 a0_4 a0_5 l0_6 = some (r1, r2)) :
    Calls Tryd.prog 14 #[.agg #[.int .i64 a0_0, .int .i64 a0_1, .int .i64 a0_2, .int .i64 a0_3, .int .i64 a0_4, .int .i64 a0_5, .slice A0_6 l0_6.length c0_6]] w fun e w' => ∃ v0_ v1_ : Value, e = .returned (.agg #[v0_, v1_]) ∧ Kd.R k32 32 w' w.heap.size (fun _ => True) v0_ r1 ∧ Kd.R k42 42 w' w.heap.size (fun _ => True) v1_ r2 ∧ Below w.heap.size w w' := by
  have infoV := (by kernel_rfl : (Tryd.prog.info? 32).map (fun i => (i.zero, i.size, i.bytes)) = some (some (.agg #[.string ⟨#[]⟩, .int .i64 0, .int .i64 0, .int .i64 0]), 4, 40))
  have hu25 := Tryd.underlying25
  have hu29 := Tryd.underlying29
  unfold foretellkeep_Model.f at h
  obtain ⟨X, hX, h2⟩ := Option.bind_eq_some_iff.mp h
  clear h
  obtain ⟨Y, hY, h3⟩ := Option.bind_eq_some_iff.mp h2
  clear h2
  obtain ⟨rs, hRs, h4⟩ := Option.bind_eq_some_iff.mp h3
  clear h3
  simp only [Option.some.injEq, Prod.mk.injEq] at h4
  obtain ⟨rfl, rfl⟩ := h4
  have HX := Aside0.mk hX
  have HY := Aside0.mk hY
  have HRS := Aside0.mk hRs
  have R6 := Aside0.mk hr0_6
  have L6 := Aside0.mk hc0_6
  clear hX hY hRs hr0_6 hc0_6
  go_enter Tryd.func14, Tryd.ntmps14
  go_wp2_with (first | ((with_reducible refine gate_dst (N := 1) rfl ?_); go_must (refine box_event ?hg (N := 1) ?hd (cs := #[.int .i64 a0_0, .int .i64 a0_1, .int .i64 a0_2, .int .i64 a0_3, .int .i64 a0_4, .int .i64 a0_5, .slice A0_6 l0_6.length c0_6]) (t := 25) ?hr ?_; (case hd => rfl); (case hg => rfl); (case hr => first | (go_simp; done) | (go_simp; rfl)); intro g1 hg w1 hbox hb; have K1 := Aside0.mk hbox; have B1 := Aside0.mk hb; clear hb hbox hg)) | ((with_reducible refine gate_dst (N := 2) rfl ?_); go_must (refine box_event ?hg (N := 2) ?hd (cs := #[.slice none 0 0, .slice none 0 0]) (t := 29) ?hr ?_; (case hd => rfl); (case hg => rfl); (case hr => first | (go_simp; done) | (go_simp; rfl)); intro g2 hg w2 hbox hb; have K12 := Aside0.mk (blk_below K1.out hb); have K2 := Aside0.mk hbox; have G2 := Aside0.mk (show w.heap.size ≤ g2 by rw [hg]; exact below_size B1.out); have B2 := Aside0.mk (below_step B1.out hb); clear hb hbox hg)) | ((with_reducible refine gate_dst (N := 3) rfl ?_); go_must (refine box_event ?hg (N := 3) ?hd (cs := #[.slice none 0 0, .slice none 0 0]) (t := 29) ?hr ?_; (case hd => rfl); (case hg => rfl); (case hr => first | (go_simp; done) | (go_simp; rfl)); intro g3 hg w3 hbox hb; have K13 := Aside0.mk (blk_below K12.out hb); have K23 := Aside0.mk (blk_below K2.out hb); have K3 := Aside0.mk hbox; have N23 := Aside0.mk (show g2 < g3 by rw [hg]; exact blk_lt K2.out); have B3 := Aside0.mk (below_step B2.out hb); have G3 := Aside0.mk (show w.heap.size ≤ g3 by rw [hg]; exact below_size B2.out); clear hb hbox hg)) | ((with_reducible refine gate_dst (N := 12) rfl ?_); go_must (refine foretellkeep_Model.slice_event ?hg (N := 12) ?hd (cs := #[.string foretellkeep_Model.nx, .string foretellkeep_Model.ny]) (t := 9) (n := 2) ?hr ?_; (case hd => rfl); (case hg => rfl); (case hr => first | (go_simp; done) | (go_simp; rfl)); intro gn hg w4 hbox hb; have K14 := Aside0.mk (blk_below K13.out hb); have K24 := Aside0.mk (blk_below K23.out hb); have K34 := Aside0.mk (blk_below K3.out hb); have KN := Aside0.mk hbox; have B4 := Aside0.mk (below_step B3.out hb); clear hb hbox hg)))
  have AM := Aside0.mk (MdAt.mk (w0 := w) (D := #[.int .i64 a0_0, .int .i64 a0_1, .int .i64 a0_2, .int .i64 a0_3, .int .i64 a0_4, .int .i64 a0_5, .slice A0_6 l0_6.length c0_6]) K14.out K34.out KN.out (Kd.R_nil _ _ _ _ _) (Kd.R_nil _ _ _ _ _) B4.out G3.out K24.out (Nat.ne_of_lt N23.out) G2.out : MdAt w w4 g1 g2 g3 gn _ (.slice none 0 0) (.slice none 0 0) [] [])
  clear K14 K34 KN K24 N23 G3 G2 B1 B2 B3 K12 K13 K23 K1 K2 K3
  go_loopw [5] (fun v5 wr => (v5 = .int .i64 0 ∧ Aside0 (∃ vR, MdAt w wr g1 g2 g3 gn #[.int .i64 a0_0, .int .i64 a0_1, .int .i64 a0_2, .int .i64 a0_3, .int .i64 a0_4, .int .i64 a0_5, .slice A0_6 l0_6.length c0_6] (.slice none 0 0) vR [] [])) ∨ (v5 = .int .i64 1 ∧ Aside0 (∃ vV vR, MdAt w wr g1 g2 g3 gn #[.int .i64 a0_0, .int .i64 a0_1, .int .i64 a0_2, .int .i64 a0_3, .int .i64 a0_4, .int .i64 a0_5, .slice A0_6 l0_6.length c0_6] vV vR [X] [])) ∨ (v5 = .int .i64 2 ∧ Aside0 (∃ vV vR, MdAt w wr g1 g2 g3 gn #[.int .i64 a0_0, .int .i64 a0_1, .int .i64 a0_2, .int .i64 a0_3, .int .i64 a0_4, .int .i64 a0_5, .slice A0_6 l0_6.length c0_6] vV vR [X, Y] []))) (fun v5 _ => 2 - (intOf v5).toNat)
  case atStart => exact Or.inl ⟨rfl, ⟨_, AM.out⟩⟩
  case round =>
    obtain (⟨rfl, HA⟩ | ⟨rfl, HA⟩ | ⟨rfl, HA⟩) := hrel
    · obtain ⟨vR, hm⟩ := HA.out
      obtain ⟨p, q, r, hp, hq, hr9, p0, p1, q0, q1, r0, r1, eX⟩ := foretellkeep_Model.var_is HX.out
      have HP := Aside0.mk hp
      have HQ := Aside0.mk hq
      have HRS9 := Aside0.mk (show foretellkeep_picked.f a0_4 (IntKind.i64.wrap (IntKind.i64.wrap (p - 1 + q - (p - 1)) + 1)) = some r by rw [IntWalk.i64_in (p - 1 + q - (p - 1)) ⟨by omega, by omega⟩, IntWalk.i64_in (p - 1 + q - (p - 1) + 1) ⟨by omega, by omega⟩]; exact hr9)
      have EX := Aside0.mk eX
      clear hp hq hr9 eX HA
      skip
      have hd0 : wr.cell? ⟨g1, 2, none⟩ = some (.int .i64 a0_2) := (blk_cell hm.b1 2).trans rfl
      have hd1 : wr.cell? ⟨g1, 0, none⟩ = some (.int .i64 a0_0) := (blk_cell hm.b1 0).trans rfl
      have hd2 : wr.cell? ⟨g1, 4, none⟩ = some (.int .i64 a0_4) := (blk_cell hm.b1 4).trans rfl
      have hd3 : wr.cell? ⟨gn, 0, none⟩ = some (.string foretellkeep_Model.nx) := (blk_cell hm.bn 0).trans rfl
      have hd4 : wr.cell? ⟨g3, 0, none⟩ = some (.slice none 0 0) := (blk_cell hm.b3 0).trans rfl
      have A0 := Aside0.mk hm
      clear hm
      go_upto_region 7 with (go_at_call 15; go_must (refine (picked_same _ _ _ _ HP.out).mono ?_; rintro e w5 ⟨rfl, hw_⟩; obtain rfl := hw_.symm))
      go_upto_region 8 with (go_at_call 15; go_must (refine (picked_same _ _ _ _ HQ.out).mono ?_; rintro e w5 ⟨rfl, hw_⟩; obtain rfl := hw_.symm))
      have AD := Aside0.mk A0.out.drew
      have hf4 := blk_frozen A0.out.b3 0
      have ha4 : ∀ o, (wr.alloc o).cell? ⟨g3, 0, none⟩ = some (.slice none 0 0) := fun o => (blk_cell (blk_below A0.out.b3 (below_alloc (Below.refl _ _) o)) 0).trans rfl
      go_region_law ((first | (go_simp; go_at_call 15; refine (picked_same _ _ _ _ HRS9.out).mono ?_; rintro e w' ⟨rfl, hw_⟩; obtain rfl := hw_.symm; (try go_simp)) | (refine Kd.R_append_step k32 (w0 := w) w.heap.size (by rfl) (.tmp 31) (.tmp 50) 26 32 (.agg #[.string ⟨#[]⟩, .int .i64 0, .int .i64 0, .int .i64 0]) 40 (by rfl) Tryd.underlying26 infoV rfl (by decide) (by omega) (.slice none 0 0) ([] : List foretellkeep_Model.Vr) (⟨foretellkeep_Model.nx, p - 1, p - 1 + q, p - 1 + r⟩ : foretellkeep_Model.Vr) [.string foretellkeep_Model.nx, .int .i64 (p - 1), .int .i64 (p - 1 + q), .int .i64 (IntKind.i64.wrap (p - 1 + r))] (fun _ => True) (fun _ => False) (by rfl) (by rfl) (by rw [IntWalk.i64_in (p - 1 + r) ⟨by omega, by omega⟩]; exact k32_mkM _ _ _ (⟨foretellkeep_Model.nx, p - 1, p - 1 + q, p - 1 + r⟩ : foretellkeep_Model.Vr)) (fun _ hk => hk.elim) (fun _ _ => trivial) AD.out.rv AD.out.bel (below_size AD.out.bel) (by simp) ?_; intro v1 w2 ho hb hg hat; obtain ⟨A1, c1, rfl⟩ := Kd.R_slice ho; have AP := Aside0.mk (AD.out.putV ho hb hg); have k3' := blk_grown AD.out.b3 hg (Kd.R_ne AD.out.rv AD.out.b3 (by decide)); have hc9 : w2.cell? ⟨g3, 0, none⟩ = some _ := (blk_cell k3' 0).trans rfl; have hf9 := blk_frozen k3' 0; clear ho hb hg hat k3')))
      all_goals
        go_wp2
        go_roundw
        case rel => exact Or.inr (Or.inl ⟨rfl, ⟨_, _, EX.out ▸ AP.out⟩⟩)
        case measure => simp [intOf]
    · obtain ⟨vV, vR, hm⟩ := HA.out
      obtain ⟨p, q, r, hp, hq, hr9, p0, p1, q0, q1, r0, r1, eX⟩ := foretellkeep_Model.var_is HY.out
      have HP := Aside0.mk hp
      have HQ := Aside0.mk hq
      have HRS9 := Aside0.mk (show foretellkeep_picked.f a0_5 (IntKind.i64.wrap (IntKind.i64.wrap (p - 1 + q - (p - 1)) + 1)) = some r by rw [IntWalk.i64_in (p - 1 + q - (p - 1)) ⟨by omega, by omega⟩, IntWalk.i64_in (p - 1 + q - (p - 1) + 1) ⟨by omega, by omega⟩]; exact hr9)
      have EX := Aside0.mk eX
      clear hp hq hr9 eX HA
      obtain ⟨Ao, co, rfl⟩ := Kd.R_slice hm.rv
      have hd0 : wr.cell? ⟨g1, 3, none⟩ = some (.int .i64 a0_3) := (blk_cell hm.b1 3).trans rfl
      have hd1 : wr.cell? ⟨g1, 1, none⟩ = some (.int .i64 a0_1) := (blk_cell hm.b1 1).trans rfl
      have hd2 : wr.cell? ⟨g1, 5, none⟩ = some (.int .i64 a0_5) := (blk_cell hm.b1 5).trans rfl
      have hd3 : wr.cell? ⟨gn, 1, none⟩ = some (.string foretellkeep_Model.ny) := (blk_cell hm.bn 1).trans rfl
      have hd4 : wr.cell? ⟨g3, 0, none⟩ = some (.slice Ao 1 co) := (blk_cell hm.b3 0).trans rfl
      have A0 := Aside0.mk hm
      clear hm
      go_upto_region 7 with (go_at_call 15; go_must (refine (picked_same _ _ _ _ HP.out).mono ?_; rintro e w5 ⟨rfl, hw_⟩; obtain rfl := hw_.symm))
      go_upto_region 8 with (go_at_call 15; go_must (refine (picked_same _ _ _ _ HQ.out).mono ?_; rintro e w5 ⟨rfl, hw_⟩; obtain rfl := hw_.symm))
      have AD := Aside0.mk A0.out.drew
      have hf4 := blk_frozen A0.out.b3 0
      have ha4 : ∀ o, (wr.alloc o).cell? ⟨g3, 0, none⟩ = some (.slice Ao 1 co) := fun o => (blk_cell (blk_below A0.out.b3 (below_alloc (Below.refl _ _) o)) 0).trans rfl
      go_region_law ((first | (go_simp; go_at_call 15; refine (picked_same _ _ _ _ HRS9.out).mono ?_; rintro e w' ⟨rfl, hw_⟩; obtain rfl := hw_.symm; (try go_simp)) | (refine Kd.R_append_step k32 (w0 := w) w.heap.size (by rfl) (.tmp 31) (.tmp 50) 26 32 (.agg #[.string ⟨#[]⟩, .int .i64 0, .int .i64 0, .int .i64 0]) 40 (by rfl) Tryd.underlying26 infoV rfl (by decide) (by omega) (.slice Ao 1 co) [X] (⟨foretellkeep_Model.ny, p - 1, p - 1 + q, p - 1 + r⟩ : foretellkeep_Model.Vr) [.string foretellkeep_Model.ny, .int .i64 (p - 1), .int .i64 (p - 1 + q), .int .i64 (IntKind.i64.wrap (p - 1 + r))] (fun _ => True) (fun _ => False) (by rfl) (by rfl) (by rw [IntWalk.i64_in (p - 1 + r) ⟨by omega, by omega⟩]; exact k32_mkM _ _ _ (⟨foretellkeep_Model.ny, p - 1, p - 1 + q, p - 1 + r⟩ : foretellkeep_Model.Vr)) (fun _ hk => hk.elim) (fun _ _ => trivial) AD.out.rv AD.out.bel (below_size AD.out.bel) (by simp) ?_; intro v1 w2 ho hb hg hat; obtain ⟨A1, c1, rfl⟩ := Kd.R_slice ho; have AP := Aside0.mk (AD.out.putV ho hb hg); have k3' := blk_grown AD.out.b3 hg (Kd.R_ne AD.out.rv AD.out.b3 (by decide)); have hc9 : w2.cell? ⟨g3, 0, none⟩ = some _ := (blk_cell k3' 0).trans rfl; have hf9 := blk_frozen k3' 0; clear ho hb hg hat k3')))
      all_goals
        go_wp2
        go_roundw
        case rel => exact Or.inr (Or.inr ⟨rfl, ⟨_, _, EX.out ▸ AP.out⟩⟩)
        case measure => simp [intOf]
    · obtain ⟨vV, vR, hm⟩ := HA.out
      go_wp2
      go_loopw [8] (fun v8 wr => ∃ (q : Nat) (done rest : List foretellkeep_Model.Rl) (vV vR : Value), v8 = .int .i64 q ∧ q ≤ 5 ∧ q ≤ l0_6.length ∧ Aside0 (foretellkeep_Model.rules k ((l0_6.take 5).drop q) = some rest ∧ rs = done ++ rest) ∧ Aside0 (MdAt w wr g1 g2 g3 gn #[.int .i64 a0_0, .int .i64 a0_1, .int .i64 a0_2, .int .i64 a0_3, .int .i64 a0_4, .int .i64 a0_5, .slice A0_6 l0_6.length c0_6] vV vR [X, Y] done ∧ done.length = q)) (fun v8 _ => 5 - (intOf v8).toNat)
      case atStart => exact ⟨0, [], rs, vV, vR, rfl, by omega, by omega, ⟨HRS.out, rfl⟩, ⟨hm, rfl⟩⟩
      case round =>
        clear HA hm
        obtain ⟨q, done, rest, vV, vR, rfl, hq5, hql, HG, HM⟩ := hrel
        have hd6 : wr.cell? ⟨g1, 6, none⟩ = some (.slice A0_6 l0_6.length c0_6) := (blk_cell HM.out.1.b1 6).trans rfl
        by_cases c1 : q < l0_6.length
        · by_cases c2 : q < 5
          · have htk : (l0_6.take 5).drop q = l0_6[q] :: (l0_6.take 5).drop (q + 1) := by
              rw [List.drop_eq_getElem_cons (by rw [List.length_take]; omega), List.getElem_take]
            have hg1 := HG.out.1
            rw [htk] at hg1
            simp only [foretellkeep_Model.rules] at hg1
            obtain ⟨r, hr, h2⟩ := Option.bind_eq_some_iff.mp hg1
            clear hg1
            obtain ⟨rest2, hr2, h3⟩ := Option.bind_eq_some_iff.mp h2
            clear h2
            obtain ⟨g, v, x, hT, hP, hN, v0, v1, eR⟩ := foretellkeep_Model.rule_is hr
            have EQR := Aside0.mk (show rs = (done ++ [r]) ++ rest2 by rw [HG.out.2, ← Option.some.inj h3]; simp)
            have REST := Aside0.mk hr2
            have HT := Aside0.mk hT
            have HP := Aside0.mk hP
            have HN := Aside0.mk hN
            have ER := Aside0.mk eR
            obtain ⟨ad, P0, d0, P2, d2, e0, hv0, hv1, hv2, hv3, hv4, hv5, hv6, hv7⟩ := at_T65 R6.out (q : Int) (by omega) (by omega)
            subst e0
            have hrd : rd_T65 l0_6 (q : Int) = l0_6[q] := by
              unfold rd_T65
              rw [Int.toNat_natCast, List.getD_eq_getElem?_getD, List.getElem?_eq_getElem c1]
              rfl
            rw [hrd, Int.toNat_natCast] at hv0 hv1 hv2 hv3
            rw [hrd] at hv4 hv5 hv6 hv7
            have hx0 := foretellkeep_Model.cell_of_below HM.out.1.bel hv0
            have hx1 := foretellkeep_Model.cell_of_below HM.out.1.bel hv1
            have hx2 := foretellkeep_Model.cell_of_below HM.out.1.bel hv2
            have hx3 := foretellkeep_Model.cell_of_below HM.out.1.bel hv3
            have LP0 := Aside0.mk hv4
            have CP0 := Aside0.mk hv5
            have LP2 := Aside0.mk hv6
            have CP2 := Aside0.mk hv7
            clear htk h3 hr hr2 hT hP hN eR hrd hv0 hv1 hv2 hv3 hv4 hv5 hv6 hv7 HG
            generalize l0_6[q] = p at *
            go_upto_region 14 with (first | ((with_reducible refine gate_dst (N := 9) rfl ?_); go_must (refine box_event ?hg (N := 9) ?hd (cs := #[(.slice none 0 0), (.int .i64 0), (.slice none 0 0), (.bool false)]) (t := 65) ?hr ?_; (case hd => rfl); (case hg => rfl); (case hr => first | (go_simp; done) | (go_simp; rfl)); intro g9 hg9 w3 hbox hb; have K6 := Aside0.mk hbox; have M3 := Aside0.mk (HM.out.1.below hb); have G9 := Aside0.mk (show wr.heap.size ≤ g9 by rw [hg9]; exact Nat.le_refl _); have BZ3 := Aside0.mk hb; clear hb hbox hg9; have ha0 : w3.cell? ⟨g9, 0, none⟩ = some (.slice none 0 0) := (blk_cell K6.out 0).trans rfl; have fha0 := blk_frozen K6.out 0; have ha1 : w3.cell? ⟨g9, 1, none⟩ = some (.int .i64 0) := (blk_cell K6.out 1).trans rfl; have fha1 := blk_frozen K6.out 1; have ha2 : w3.cell? ⟨g9, 2, none⟩ = some (.slice none 0 0) := (blk_cell K6.out 2).trans rfl; have fha2 := blk_frozen K6.out 2; have ha3 : w3.cell? ⟨g9, 3, none⟩ = some (.bool false) := (blk_cell K6.out 3).trans rfl; have fha3 := blk_frozen K6.out 3)) | ((with_reducible refine gate_store (t := 65) (p := 9) rfl ?_); go_must (refine store_event (t := 65) (p := 9) (v := .tmp 68) (w1 := ((((w3.setCell ⟨g9, 0, none⟩ (.slice P0 p.f0.length d0)).setCell ⟨g9, 1, none⟩ (.int .i64 p.f1)).setCell ⟨g9, 2, none⟩ (.slice P2 p.f2.length d2)).setCell ⟨g9, 3, none⟩ (.bool p.f3))) ?hg ?ho ?hn ?hr ?_; (case ho => rfl); (case hg => rfl); (case hn => rfl); (case hr => first | (go_simp; done) | (go_simp; rfl)); intro w4 hw; have K7 := Aside0.mk (show w4.heap[g9]? = some (.cells #[(.slice P0 p.f0.length d0), (.int .i64 p.f1), (.slice P2 p.f2.length d2), (.bool p.f3)] 65 (0, 0)) by rw [hw]; exact blk_put (blk_put (blk_put (blk_put (K6.out) 0 _ rfl) 1 _ rfl) 2 _ rfl) 3 _ rfl); have BZ4 := Aside0.mk (show Below wr.heap.size wr w4 by rw [hw]; exact (((BZ3.out.setCell G9.out _).setCell G9.out _).setCell G9.out _).setCell G9.out _); have M4 := Aside0.mk (HM.out.1.below BZ4.out); clear hw ha0 ha1 ha2 ha3 fha0 fha1 fha2 fha3; have hb0 : w4.cell? ⟨g9, 0, none⟩ = some (.slice P0 p.f0.length d0) := (blk_cell K7.out 0).trans rfl; have hb1 : w4.cell? ⟨g9, 1, none⟩ = some (.int .i64 p.f1) := (blk_cell K7.out 1).trans rfl; have hb2 : w4.cell? ⟨g9, 2, none⟩ = some (.slice P2 p.f2.length d2) := (blk_cell K7.out 2).trans rfl; have hb3 : w4.cell? ⟨g9, 3, none⟩ = some (.bool p.f3) := (blk_cell K7.out 3).trans rfl)) | (go_at_call 28; go_must (refine (foretellkeep_Truth.calls k _ _ p.f0 2 _ _ (Kd.C_below CP0.out M4.out.bel) LP0.out HT.out).mono ?_; rintro e w5 ⟨vT, rfl, hrT, hb⟩; obtain ⟨AT, cT, rfl⟩ := Kd.R_slice hrT; have M5 := Aside0.mk (M4.out.below hb); have K8 := Aside0.mk (blk_below K7.out hb); have RT5 := Aside0.mk (Kd.R_lower hrT M4.out.bel.size); have BZ5 := Aside0.mk (below_step BZ4.out hb); clear hrT hb)) | ((with_reducible refine gate_dst (N := 10) rfl ?_); go_must (refine box_event ?hg (N := 10) ?hd (cs := #[(.slice none 0 0), (.slice none 0 0)]) (t := 42) ?hr ?_; (case hd => rfl); (case hg => rfl); (case hr => first | (go_simp; done) | (go_simp; rfl)); intro g10 hg10 w6 hbox hb; have K10 := Aside0.mk hbox; have M6 := Aside0.mk (M5.out.below hb); have G10 := Aside0.mk (show w5.heap.size ≤ g10 by rw [hg10]; exact Nat.le_refl _); have K96 := Aside0.mk (blk_below K8.out hb); have RT6 := Aside0.mk (Kd.R_below RT5.out hb); have BZ6 := Aside0.mk hb; clear hb hbox hg10; have hc0 : w6.cell? ⟨g10, 0, none⟩ = some (.slice none 0 0) := (blk_cell K10.out 0).trans rfl; have fhc0 := blk_frozen K10.out 0; have hc1 : w6.cell? ⟨g10, 1, none⟩ = some (.slice none 0 0) := (blk_cell K10.out 1).trans rfl; have fhc1 := blk_frozen K10.out 1)) | ((with_reducible refine gate_store (t := 42) (p := 10) rfl ?_); go_must (refine store_event (t := 42) (p := 10) (v := .tmp 72) (w1 := ((w6.setCell ⟨g10, 0, none⟩ (.slice AT g.length cT)).setCell ⟨g10, 1, none⟩ (.slice none 0 0))) ?hg ?ho ?hn ?hr ?_; (case ho => rfl); (case hg => rfl); (case hn => rfl); (case hr => first | (go_simp; done) | (go_simp; rfl)); intro w7 hw; have K11 := Aside0.mk (show w7.heap[g10]? = some (.cells #[(.slice AT g.length cT), (.slice none 0 0)] 42 (0, 0)) by rw [hw]; exact blk_put (blk_put (K10.out) 0 _ rfl) 1 _ rfl); have BZ7 := Aside0.mk (show Below w5.heap.size w5 w7 by rw [hw]; exact (BZ6.out.setCell G10.out _).setCell G10.out _); have M7 := Aside0.mk (M5.out.below BZ7.out); have K97 := Aside0.mk (blk_below K8.out BZ7.out); have RT7 := Aside0.mk (Kd.R_below RT5.out BZ7.out); clear hw hc0 hc1 fhc0 fhc1; have hd0 : w7.cell? ⟨g9, 0, none⟩ = some (.slice P0 p.f0.length d0) := (blk_cell K97.out 0).trans rfl; have hd1 : w7.cell? ⟨g9, 1, none⟩ = some (.int .i64 p.f1) := (blk_cell K97.out 1).trans rfl; have hd2 : w7.cell? ⟨g9, 2, none⟩ = some (.slice P2 p.f2.length d2) := (blk_cell K97.out 2).trans rfl; have hd3 : w7.cell? ⟨g9, 3, none⟩ = some (.bool p.f3) := (blk_cell K97.out 3).trans rfl; have he0 : w7.cell? ⟨g10, 0, none⟩ = some (.slice AT g.length cT) := (blk_cell K11.out 0).trans rfl; have fhe0 := blk_frozen K11.out 0; have he1 : w7.cell? ⟨g10, 1, none⟩ = some (.slice none 0 0) := (blk_cell K11.out 1).trans rfl; have fhe1 := blk_frozen K11.out 1)))
            clear hx0 hx1 hx2 hx3 hd6
            go_upto_region 15 with (go_at_call 15; go_must (refine (picked_same _ _ _ _ HP.out).mono ?_; rintro e w5 ⟨rfl, hw_⟩; obtain rfl := hw_.symm))
            have infoS := (by kernel_rfl : (Tryd.prog.info? 39).map (fun i => (i.zero, i.size, i.bytes)) = some (some (.agg #[.int .i64 0, .slice none 0 0]), 2, 32))
            have hbel := M7.out.bel
            have M7d := Aside0.mk M7.out.drew
            have K11d := Aside0.mk (blk_below K11.out (below_drew (Below.refl _ _)))
            have K97d := Aside0.mk (blk_below K97.out (below_drew (Below.refl _ _)))
            have RT7d := Aside0.mk (Kd.R_below RT7.out (below_drew (Below.refl _ _)))
            have G10B := Aside0.mk (show w.heap.size ≤ g10 from Nat.le_trans M5.out.bel.size G10.out)
            clear hb0 hb1 hb2 hb3 hd0 hd1 hd3 he0
            go_cut [] (fun wc => ∃ A1 c1, Aside0 (Below w5.heap.size w5 wc) ∧ Aside0 (wc.heap[g10]? = some (.cells #[.slice AT g.length cT, .slice A1 1 c1] 42 (0, 0))) ∧ Aside0 (Kd.R k39 39 wc w5.heap.size (fun _ => True) (.slice A1 1 c1) [⟨v, x⟩]))
            case first =>
              go_region_law ((first | (go_simp; go_at_call 29; refine (foretellkeep_Number.calls k _ _ p.f2 2 _ _ (Kd.C_below CP2.out M7d.out.bel) LP2.out HN.out).mono ?_; rintro e w8 ⟨vX, rfl, hrX, hbX⟩; obtain ⟨AX, cX, rfl⟩ := Kd.R_slice hrX; have HRX := Aside0.mk hrX; have hcx := (blk_cell (blk_below K11d.out hbX) 1).trans (show _ = some (Value.slice none 0 0) from rfl); have hcxa : ∀ o, (w8.alloc o).cell? ⟨g10, 1, none⟩ = some (.slice none 0 0) := (fun o => foretellkeep_Model.cell_of_below (below_alloc (Below.refl _ _) o) hcx); clear hrX; (try go_simp)) | (refine Kd.R_append_step k39 (w0 := w7.drew) w7.drew.heap.size (by rfl) (.tmp 77) (.tmp 83) 40 39 (.agg #[.int .i64 0, .slice none 0 0]) 32 (by rfl) Tryd.underlying40 infoS rfl (by decide) (by omega) (.slice none 0 0) [] (⟨v, x⟩ : S39) [.int .i64 v, .slice AX x.length cX] (fun _ => True) (fun _ => True) (by rfl) (by rfl) (k39_mkM _ _ _ (⟨v, x⟩ : S39) HRX.out) (fun k hk => ⟨trivial, by simp [Value.ownBlock]⟩) (fun _ _ => trivial) (Kd.R_nil _ _ _ _ _) hbX hbX.size (by simp) ?_; intro v1 w9 ho hb9 hg9 hat; obtain ⟨A1, c1, rfl⟩ := Kd.R_slice ho; have HO := Aside0.mk ho; have HB9 := Aside0.mk hb9; have K119 := Aside0.mk (blk_below K11d.out hb9); have hc9 : w9.cell? ⟨g10, 1, none⟩ = some (.slice none 0 0) := (blk_cell K119.out 1).trans rfl; have hf9 := blk_frozen K119.out 1; clear ho hb9 hg9 hat)))
              all_goals go_wp2_with fail
              all_goals go_meet
              all_goals exact ⟨A1, c1, ⟨(below_step BZ7.out.drew HB9.out).setCell G10.out _⟩, ⟨blk_put K119.out 1 _ rfl⟩, ⟨Kd.R_lower (Kd.R_set HO.out K119.out (by decide) _ _) BZ7.out.size⟩⟩
            case rest =>
              obtain ⟨A1, c1, HB0, HK, HS⟩ := hcut
              have infoR := (by kernel_rfl : (Tryd.prog.info? 42).map (fun i => (i.zero, i.size, i.bytes)) = some (some (.agg #[.slice none 0 0, .slice none 0 0]), 4 - 2, 48))
              have hp3 : wc.cell? ⟨g9, 3, none⟩ = some (.bool p.f3) := (blk_cell (blk_below K8.out HB0.out) 3).trans rfl
              have hr0 : wc.cell? ⟨g10, 0, none⟩ = some (.slice AT g.length cT) := (blk_cell HK.out 0).trans rfl
              have hr1 : wc.cell? ⟨g10, 1, none⟩ = some (.slice A1 1 c1) := (blk_cell HK.out 1).trans rfl
              cases hb3 : p.f3 with
              | false =>
                rw [hb3] at hp3
                have ER2 := Aside0.mk (show r = ⟨g, [⟨v, x⟩]⟩ by rw [ER.out, hb3]; rfl)
                clear hb3
                have MF := Aside0.mk (M5.out.below HB0.out)
                obtain ⟨AR, cR, rfl⟩ := Kd.R_slice MF.out.rr
                have RTF := Aside0.mk (Kd.R_below RT5.out HB0.out)
                have RSF := Aside0.mk (Kd.R_lower HS.out M5.out.bel.size)
                have hq1 : wc.cell? ⟨g3, 1, none⟩ = some (.slice AR done.length cR) := (blk_cell MF.out.b3 1).trans rfl
                have HLN := Aside0.mk HM.out.2
                clear M5 HM M7 M7d M3 M4 M6
                go_wp2_with (first | ((with_reducible refine gate_builtin (b := .append) (xs := #[.tmp 100, .tmp 102]) rfl ?_); at_builtin; go_must (refine Kd.R_append k42 (w0 := w) w.heap.size rfl (.tmp 100) (.tmp 102) 27 42 (.agg #[.slice none 0 0, .slice none 0 0]) 48 rfl Tryd.underlying27 infoR rfl (by decide) (by omega) (.slice AR done.length cR) done (⟨g, [⟨v, x⟩]⟩ : foretellkeep_Model.Rl) [.slice AT g.length cT, .slice A1 1 c1] (fun _ => True) (fun k => (fun _ => True) k ∧ some k ≠ (Value.slice AR done.length cR).ownBlock) rfl rfl ?aP (fun k hk => hk) ?aF ?aO ?aB ?aS ?aL ?_; (case aP => exact k42_mkM _ _ _ (⟨g, [⟨v, x⟩]⟩ : foretellkeep_Model.Rl) (Kd.R_apartR RTF.out MF.out.rr (by decide)) (Kd.R_apartR RSF.out MF.out.rr (by decide))); (case aB => exact MF.out.bel); (case aF => exact (fun _ _ => trivial)); (case aO => exact MF.out.rr); (case aS => exact below_size MF.out.bel); (case aL => have := HLN.out; omega); intro v1 w9 ho hb hg hat; obtain ⟨A3, c3, rfl⟩ := Kd.R_slice ho; have AP := Aside0.mk (MF.out.putR ho hb hg); have k3' := blk_grown MF.out.b3 hg (Kd.R_ne MF.out.rr MF.out.b3 (by decide)); have hc9 : w9.cell? ⟨g3, 1, none⟩ = some _ := (blk_cell k3' 1).trans rfl; have hf9 := blk_frozen k3' 1; clear ho hb hg hat k3')))
                go_roundw
                case rel => exact ⟨q + 1, done ++ [r], rest2, _, _, by go_num, by omega, by omega, ⟨REST.out, EQR.out⟩, ⟨by rw [ER2.out]; have := AP.out; rw [List.length_append] at this; exact this, by rw [List.length_append, HLN.out]; rfl⟩⟩
                case measure => simp [intOf]; omega
              | true =>
                rw [hb3] at hp3
                have ER2 := Aside0.mk (show r = ⟨g, [⟨v, x⟩, ⟨1 - v, [⟨2, v⟩]⟩]⟩ by rw [ER.out, hb3]; rfl)
                clear hb3
                go_upto_region 18 with (first | ((with_reducible refine gate_dst (N := 94) rfl ?_); go_must (refine Kd.R_lit k35 _ 35 ?hg (N := 94) ?hd (xs := ([(⟨2, v⟩ : S35)] : List (S35))) (inner := [.int .i64 2, .int .i64 v]) (ok := fun _ => True) (okp := fun _ => True) ?hr ?hp (fun _ hk => hk) trivial (Below.refl _ _) (Nat.le_refl _) (by simp) ?_; (case hd => rfl); (case hg => rfl); (case hr => first | (go_simp; done) | (go_simp; rfl)); (case hp => exact (Reps.c2 (show Kd.M k35 _ _ _ (⟨2, v⟩ : S35) [.int .i64 2, .int .i64 v] from (k35_mkM _ _ _ (⟨2, v⟩ : S35))) (Reps.none _ _))); intro vL w11 hoL hbL hgL hnL; obtain ⟨AL, cL, rfl⟩ := Kd.R_slice hoL; have HOL := Aside0.mk hoL; have HB11 := Aside0.mk (below_step HB0.out hbL); have HS11 := Aside0.mk (Kd.R_below HS.out hbL); have HK11 := Aside0.mk (blk_below HK.out hbL); clear hoL hbL hgL hnL)) | ((with_reducible refine gate_builtin (b := .append) (xs := #[.tmp 89, .tmp 96]) rfl ?_); at_builtin; go_must (refine Kd.R_append k39 (w0 := w5) w5.heap.size rfl (.tmp 89) (.tmp 96) 40 39 (.agg #[.int .i64 0, .slice none 0 0]) 32 rfl Tryd.underlying40 infoS rfl (by decide) (by omega) (.slice A1 1 c1) [⟨v, x⟩] (⟨1 - v, [⟨2, v⟩]⟩ : S39) [.int .i64 (1 - v), .slice AL 1 cL] (fun _ => True) (fun k => (fun _ => True) k ∧ some k ≠ (Value.slice A1 1 c1).ownBlock) rfl rfl ?aP (fun k hk => hk) ?aF ?aO ?aB ?aS ?aL ?_; (case aP => exact k39_mkM _ _ _ (⟨1 - v, [⟨2, v⟩]⟩ : S39) (Kd.R_apartR (Kd.R_lower HOL.out HB0.out.size) HS11.out (by decide))); (case aB => exact HB11.out); (case aF => exact (fun _ _ => trivial)); (case aO => exact HS11.out); (case aS => exact below_size HB11.out); (case aL => simp); intro v2 w12 ho hb hg hat; obtain ⟨A2, c2, rfl⟩ := Kd.R_slice ho; have HO12 := Aside0.mk ho; have HB12 := Aside0.mk hb; have HK12 := Aside0.mk (blk_grown HK11.out hg (Kd.R_ne HS11.out HK11.out (by decide))); have hs0 : w12.cell? ⟨g10, 1, none⟩ = some (.slice A1 1 c1) := (blk_cell HK12.out 1).trans rfl; have hsf := blk_frozen HK12.out 1; clear ho hb hg hat)) | ((with_reducible refine gate_store (t := 40) (p := 98) rfl ?_); go_must (refine store_event (t := 40) (p := 98) (v := .tmp 97) (w1 := w12.setCell ⟨g10, 1, none⟩ (.slice A2 2 c2)) ?hg ?ho ?hn ?hr ?_; (case ho => rfl); (case hg => rfl); (case hn => rfl); (case hr => first | (go_simp; done) | (go_simp; rfl)); intro w13 hw; have HB13 := Aside0.mk (show Below w5.heap.size w5 w13 by rw [hw]; exact HB12.out.setCell G10.out _); have HK13 := Aside0.mk (show w13.heap[g10]? = some (.cells #[.slice AT g.length cT, .slice A2 2 c2] 42 (0, 0)) by rw [hw]; exact blk_put HK12.out 1 _ rfl); have HS13 := Aside0.mk (show Kd.R k39 39 w13 w5.heap.size (fun _ => True) (.slice A2 2 c2) [⟨v, x⟩, ⟨1 - v, [⟨2, v⟩]⟩] by rw [hw]; exact Kd.R_set HO12.out HK12.out (by decide) _ _); clear hw hs0 hsf)))
                clear hr0 hr1 hp3
                have hr0 : w13.cell? ⟨g10, 0, none⟩ = some (.slice AT g.length cT) := (blk_cell HK13.out 0).trans rfl
                have hr1 : w13.cell? ⟨g10, 1, none⟩ = some (.slice A2 2 c2) := (blk_cell HK13.out 1).trans rfl
                have MF := Aside0.mk (M5.out.below HB13.out)
                obtain ⟨AR, cR, rfl⟩ := Kd.R_slice MF.out.rr
                have RTF := Aside0.mk (Kd.R_below RT5.out HB13.out)
                have RSF := Aside0.mk (Kd.R_lower HS13.out M5.out.bel.size)
                have hq1 : w13.cell? ⟨g3, 1, none⟩ = some (.slice AR done.length cR) := (blk_cell MF.out.b3 1).trans rfl
                have HLN := Aside0.mk HM.out.2
                clear M5 HM M7 M7d M3 M4 M6
                go_wp2_with (first | ((with_reducible refine gate_builtin (b := .append) (xs := #[.tmp 100, .tmp 102]) rfl ?_); at_builtin; go_must (refine Kd.R_append k42 (w0 := w) w.heap.size rfl (.tmp 100) (.tmp 102) 27 42 (.agg #[.slice none 0 0, .slice none 0 0]) 48 rfl Tryd.underlying27 infoR rfl (by decide) (by omega) (.slice AR done.length cR) done (⟨g, [⟨v, x⟩, ⟨1 - v, [⟨2, v⟩]⟩]⟩ : foretellkeep_Model.Rl) [.slice AT g.length cT, .slice A2 2 c2] (fun _ => True) (fun k => (fun _ => True) k ∧ some k ≠ (Value.slice AR done.length cR).ownBlock) rfl rfl ?aP (fun k hk => hk) ?aF ?aO ?aB ?aS ?aL ?_; (case aP => exact k42_mkM _ _ _ (⟨g, [⟨v, x⟩, ⟨1 - v, [⟨2, v⟩]⟩]⟩ : foretellkeep_Model.Rl) (Kd.R_apartR RTF.out MF.out.rr (by decide)) (Kd.R_apartR RSF.out MF.out.rr (by decide))); (case aB => exact MF.out.bel); (case aF => exact (fun _ _ => trivial)); (case aO => exact MF.out.rr); (case aS => exact below_size MF.out.bel); (case aL => have := HLN.out; omega); intro v1 w9 ho hb hg hat; obtain ⟨A3, c3, rfl⟩ := Kd.R_slice ho; have AP := Aside0.mk (MF.out.putR ho hb hg); have k3' := blk_grown MF.out.b3 hg (Kd.R_ne MF.out.rr MF.out.b3 (by decide)); have hc9 : w9.cell? ⟨g3, 1, none⟩ = some _ := (blk_cell k3' 1).trans rfl; have hf9 := blk_frozen k3' 1; clear ho hb hg hat k3')))
                go_roundw
                case rel => exact ⟨q + 1, done ++ [r], rest2, _, _, by go_num, by omega, by omega, ⟨REST.out, EQR.out⟩, ⟨by rw [ER2.out]; have := AP.out; rw [List.length_append] at this; exact this, by rw [List.length_append, HLN.out]; rfl⟩⟩
                case measure => simp [intOf]; omega
          · obtain ⟨AV, cV, rfl⟩ := Kd.R_slice HM.out.1.rv
            obtain ⟨AR, cR, rfl⟩ := Kd.R_slice HM.out.1.rr
            obtain ⟨rfl⟩ : rest = [] := by
              have h1 := HG.out.1
              rw [List.drop_eq_nil_of_le (by rw [List.length_take]; omega)] at h1
              simpa [foretellkeep_Model.rules] using h1.symm
            have hD : rs = done := by rw [HG.out.2, List.append_nil]
            have hv0 : wr.cell? ⟨g3, 0, none⟩ = some (.slice AV [X, Y].length cV) := (blk_cell HM.out.1.b3 0).trans rfl
            have hv1 : wr.cell? ⟨g3, 1, none⟩ = some (.slice AR done.length cR) := (blk_cell HM.out.1.b3 1).trans rfl
            have hw0 : wr.cell? ⟨g2, 0, none⟩ = some (.slice none 0 0) := (blk_cell HM.out.1.b2 0).trans rfl
            have hw1 : wr.cell? ⟨g2, 1, none⟩ = some (.slice none 0 0) := (blk_cell HM.out.1.b2 1).trans rfl
            have hwf0 := blk_frozen HM.out.1.b2 0
            have hwf1 := blk_frozen HM.out.1.b2 1
            have HD := Aside0.mk hD
            clear hD
            go_wp2_with (first | ((with_reducible refine gate_store (t := 29) (p := 2) rfl ?_); go_must (refine store_event (t := 29) (p := 2) (v := .tmp 105) (w1 := (wr.setCell ⟨g2, 0, none⟩ (.slice AV [X, Y].length cV)).setCell ⟨g2, 1, none⟩ (.slice AR done.length cR)) ?hg ?ho ?hn ?hr ?_; (case ho => rfl); (case hg => rfl); (case hn => rfl); (case hr => first | (go_simp; done) | (go_simp; rfl)); intro w8 hw; have KE := Aside0.mk (show w8.heap[g2]? = some (.cells #[.slice AV [X, Y].length cV, .slice AR done.length cR] 29 (0, 0)) by rw [hw]; exact blk_put (blk_put HM.out.1.b2 0 _ rfl) 1 _ rfl); have RVE := Aside0.mk (show Kd.R k32 32 w8 w.heap.size (fun _ => True) (.slice AV [X, Y].length cV) [X, Y] by rw [hw]; exact Kd.R_set (Kd.R_set HM.out.1.rv HM.out.1.b2 (by decide) _ _) (blk_put HM.out.1.b2 0 _ rfl) (by decide) _ _); have RRE := Aside0.mk (show Kd.R k42 42 w8 w.heap.size (fun _ => True) (.slice AR done.length cR) done by rw [hw]; exact Kd.R_set (Kd.R_set HM.out.1.rr HM.out.1.b2 (by decide) _ _) (blk_put HM.out.1.b2 0 _ rfl) (by decide) _ _); have BE := Aside0.mk (show Below w.heap.size w w8 by rw [hw]; exact (HM.out.1.bel.setCell (p := ⟨g2, 0, none⟩) HM.out.1.g2b _).setCell (p := ⟨g2, 1, none⟩) HM.out.1.g2b _); clear hw; have hz0 : w8.cell? ⟨g2, 0, none⟩ = some (.slice AV [X, Y].length cV) := (blk_cell KE.out 0).trans rfl; have hz1 : w8.cell? ⟨g2, 1, none⟩ = some (.slice AR done.length cR) := (blk_cell KE.out 1).trans rfl)))
            ((try simp only [Exit.inBlock, Exit.then]); refine bodyPost_ret (results_single rfl (.cell g2 _ _ _ _ rfl KE.out hu29 rfl (by kernel_rfl) .nil)) rfl ?_)
            exact ⟨_, _, rfl, RVE.out, HD.out ▸ RRE.out, BE.out⟩
        · obtain ⟨AV, cV, rfl⟩ := Kd.R_slice HM.out.1.rv
          obtain ⟨AR, cR, rfl⟩ := Kd.R_slice HM.out.1.rr
          obtain ⟨rfl⟩ : rest = [] := by
            have h1 := HG.out.1
            rw [List.drop_eq_nil_of_le (by rw [List.length_take]; omega)] at h1
            simpa [foretellkeep_Model.rules] using h1.symm
          have hD : rs = done := by rw [HG.out.2, List.append_nil]
          have hv0 : wr.cell? ⟨g3, 0, none⟩ = some (.slice AV [X, Y].length cV) := (blk_cell HM.out.1.b3 0).trans rfl
          have hv1 : wr.cell? ⟨g3, 1, none⟩ = some (.slice AR done.length cR) := (blk_cell HM.out.1.b3 1).trans rfl
          have hw0 : wr.cell? ⟨g2, 0, none⟩ = some (.slice none 0 0) := (blk_cell HM.out.1.b2 0).trans rfl
          have hw1 : wr.cell? ⟨g2, 1, none⟩ = some (.slice none 0 0) := (blk_cell HM.out.1.b2 1).trans rfl
          have hwf0 := blk_frozen HM.out.1.b2 0
          have hwf1 := blk_frozen HM.out.1.b2 1
          have HD := Aside0.mk hD
          clear hD
          go_wp2_with (first | ((with_reducible refine gate_store (t := 29) (p := 2) rfl ?_); go_must (refine store_event (t := 29) (p := 2) (v := .tmp 105) (w1 := (wr.setCell ⟨g2, 0, none⟩ (.slice AV [X, Y].length cV)).setCell ⟨g2, 1, none⟩ (.slice AR done.length cR)) ?hg ?ho ?hn ?hr ?_; (case ho => rfl); (case hg => rfl); (case hn => rfl); (case hr => first | (go_simp; done) | (go_simp; rfl)); intro w8 hw; have KE := Aside0.mk (show w8.heap[g2]? = some (.cells #[.slice AV [X, Y].length cV, .slice AR done.length cR] 29 (0, 0)) by rw [hw]; exact blk_put (blk_put HM.out.1.b2 0 _ rfl) 1 _ rfl); have RVE := Aside0.mk (show Kd.R k32 32 w8 w.heap.size (fun _ => True) (.slice AV [X, Y].length cV) [X, Y] by rw [hw]; exact Kd.R_set (Kd.R_set HM.out.1.rv HM.out.1.b2 (by decide) _ _) (blk_put HM.out.1.b2 0 _ rfl) (by decide) _ _); have RRE := Aside0.mk (show Kd.R k42 42 w8 w.heap.size (fun _ => True) (.slice AR done.length cR) done by rw [hw]; exact Kd.R_set (Kd.R_set HM.out.1.rr HM.out.1.b2 (by decide) _ _) (blk_put HM.out.1.b2 0 _ rfl) (by decide) _ _); have BE := Aside0.mk (show Below w.heap.size w w8 by rw [hw]; exact (HM.out.1.bel.setCell (p := ⟨g2, 0, none⟩) HM.out.1.g2b _).setCell (p := ⟨g2, 1, none⟩) HM.out.1.g2b _); clear hw; have hz0 : w8.cell? ⟨g2, 0, none⟩ = some (.slice AV [X, Y].length cV) := (blk_cell KE.out 0).trans rfl; have hz1 : w8.cell? ⟨g2, 1, none⟩ = some (.slice AR done.length cR) := (blk_cell KE.out 1).trans rfl)))
          ((try simp only [Exit.inBlock, Exit.then]); refine bodyPost_ret (results_single rfl (.cell g2 _ _ _ _ rfl KE.out hu29 rfl (by kernel_rfl) .nil)) rfl ?_)
          exact ⟨_, _, rfl, RVE.out, HD.out ▸ RRE.out, BE.out⟩

end Go.Proofs.YteennleoieafiaaDoor.P
end
