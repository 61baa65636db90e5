/- The walk of WordSpread: always both is always each; ever either is one of them ever; and so it is of Until, on each side. -/
import Derived.Test.YtcoaeefmmnohkaaDoorQSem
import Derived.WalkSpells
import Derived.StillTailTactics
import Derived.Deep.RegionHeld3
import Derived.Deep.DeepCutAuto
namespace Go.Proofs.YtcoaeefmmnohkaaDoor.P
open Go.RowKit Go.Proofs.YtcoaeefmmnohkaaDoorW.PrintWords Go.Proofs.YtcoaeefmmnohkaaDoorW.PrintLast Go.Proofs.YtcoaeefmmnohkaaDoorW.PrintMore Go.Proofs.YtcoaeefmmnohkaaDoor.G Go.Proofs.YtcoaeefmmnohkaaDoor.Q
attribute [local go_sem] max2_int min2_int max_two min_two max_three min_three max_four min_four
set_option linter.unusedVariables false
set_option linter.unusedSimpArgs false
theorem spread_G (f g : Tm) (s : Om) : (Tm.un ⟨18, 0⟩ (.bin ⟨8, 0⟩ f g)).says s ↔ (Tm.bin ⟨8, 0⟩ (.un ⟨18, 0⟩ f) (.un ⟨18, 0⟩ g)).says s :=
  ⟨fun h => ⟨fun j => (h j).1, fun j => (h j).2⟩, fun h j => ⟨h.1 j, h.2 j⟩⟩
theorem spread_F (f g : Tm) (s : Om) : (Tm.un ⟨17, 0⟩ (.bin ⟨9, 0⟩ f g)).says s ↔ (Tm.bin ⟨9, 0⟩ (.un ⟨17, 0⟩ f) (.un ⟨17, 0⟩ g)).says s := by
  show (∃ j, f.says (s.from_ j) ∨ g.says (s.from_ j)) ↔ (∃ j, f.says (s.from_ j)) ∨ ∃ j, g.says (s.from_ j)
  exact ⟨fun ⟨j, h⟩ => h.elim (fun h => .inl ⟨j, h⟩) (fun h => .inr ⟨j, h⟩), fun h => h.elim (fun ⟨j, h⟩ => ⟨j, .inl h⟩) (fun ⟨j, h⟩ => ⟨j, .inr h⟩)⟩
theorem spread_U1 (f g h : Tm) (s : Om) : (Tm.bin ⟨15, 0⟩ f (.bin ⟨9, 0⟩ g h)).says s ↔ (Tm.bin ⟨9, 0⟩ (.bin ⟨15, 0⟩ f g) (.bin ⟨15, 0⟩ f h)).says s := by
  show (∃ j, (g.says (s.from_ j) ∨ h.says (s.from_ j)) ∧ ∀ m, m < j → f.says (s.from_ m)) ↔ (∃ j, g.says (s.from_ j) ∧ ∀ m, m < j → f.says (s.from_ m)) ∨ ∃ j, h.says (s.from_ j) ∧ ∀ m, m < j → f.says (s.from_ m)
  exact ⟨fun ⟨j, a, b⟩ => a.elim (fun a => .inl ⟨j, a, b⟩) (fun a => .inr ⟨j, a, b⟩), fun q => q.elim (fun ⟨j, a, b⟩ => ⟨j, .inl a, b⟩) (fun ⟨j, a, b⟩ => ⟨j, .inr a, b⟩)⟩
theorem spread_U2 (f g h : Tm) (s : Om) : (Tm.bin ⟨15, 0⟩ (.bin ⟨8, 0⟩ f g) h).says s ↔ (Tm.bin ⟨8, 0⟩ (.bin ⟨15, 0⟩ f h) (.bin ⟨15, 0⟩ g h)).says s := by
  show (∃ j, h.says (s.from_ j) ∧ ∀ m, m < j → f.says (s.from_ m) ∧ g.says (s.from_ m)) ↔ (∃ j, h.says (s.from_ j) ∧ ∀ m, m < j → f.says (s.from_ m)) ∧ ∃ j, h.says (s.from_ j) ∧ ∀ m, m < j → g.says (s.from_ m)
  refine ⟨fun ⟨j, a, b⟩ => ⟨⟨j, a, fun m hm => (b m hm).1⟩, ⟨j, a, fun m hm => (b m hm).2⟩⟩, fun ⟨⟨j, a, b⟩, ⟨i, c, d⟩⟩ => ?_⟩
  by_cases q : j ≤ i
  · exact ⟨j, a, fun m hm => ⟨b m hm, d m (by omega)⟩⟩
  · exact ⟨i, c, fun m hm => ⟨b m (by omega), d m hm⟩⟩
theorem spread_X (f g : Tm) (s : Om) : (Tm.un ⟨14, 0⟩ (.bin ⟨8, 0⟩ f g)).says s ↔ (Tm.bin ⟨8, 0⟩ (.un ⟨14, 0⟩ f) (.un ⟨14, 0⟩ g)).says s := Iff.rfl

/-- What is left to prove of the law WordSpread in the plain: nothing, its walk says all. -/
def foretellkeep_WordSpread.Pur : Prop := True
set_option maxHeartbeats 16000000 in
set_option maxRecDepth 100000 in
theorem foretellkeep_WordSpread.wlk (P : foretellkeep_WordSpread.Pur) (A0 : Option Addr) (c0 : Nat) (l0 : List (S79)) (A1 : Option Addr) (c1 : Nat) (l1 : List (S79)) (A2 : Option Addr) (c2 : Nat) (l2 : List (S79)) (A3_0 : Option Addr) (c3_0 : Nat) (l3_0 : List Int) (A3_1 : Option Addr) (c3_1 : Nat) (l3_1 : List Int) (w : World) (hr0 : Kd.C k79 w A0 l0.length l0) (hc0 : l0.length ≤ c0) (hr1 : Kd.C k79 w A1 l1.length l1) (hc1 : l1.length ≤ c1) (hr2 : Kd.C k79 w A2 l2.length l2) (hc2 : l2.length ≤ c2) (hr3_0 : Kd.C (Kd.int .i64) w A3_0 l3_0.length l3_0) (hc3_0 : l3_0.length ≤ c3_0) (hr3_1 : Kd.C (Kd.int .i64) w A3_1 l3_1.length l3_1) (hc3_1 : l3_1.length ≤ c3_1) (w0 : (l0.length ≤ maxLen ∧ ∀ y ∈ l0, ((Lit.int .i64 y.f0).wf = true ∧ (Lit.int .i64 y.f1).wf = true))) (w1 : (l1.length ≤ maxLen ∧ ∀ y ∈ l1, ((Lit.int .i64 y.f0).wf = true ∧ (Lit.int .i64 y.f1).wf = true))) (w2 : (l2.length ≤ maxLen ∧ ∀ y ∈ l2, ((Lit.int .i64 y.f0).wf = true ∧ (Lit.int .i64 y.f1).wf = true))) (w3 : ((l3_0.length ≤ maxLen ∧ ∀ y ∈ l3_0, (Lit.int .i64 y).wf = true) ∧ (l3_1.length ≤ maxLen ∧ ∀ y ∈ l3_1, (Lit.int .i64 y).wf = true))) (hG_ : Glob w) :
    Calls Tryd.prog 11 #[.slice A0 l0.length c0, .slice A1 l1.length c1, .slice A2 l2.length c2, .agg #[.slice A3_0 l3_0.length c3_0, .slice A3_1 l3_1.length c3_1]] w fun e w' => e = .returned (.bool true) ∧ Below w.heap.size w w' := by
  have R0 := Aside0.mk hr0
  have L0 := Aside0.mk hc0
  have F0 := Aside0.mk w0.2
  have R1 := Aside0.mk hr1
  have L1 := Aside0.mk hc1
  have F1 := Aside0.mk w1.2
  have R2 := Aside0.mk hr2
  have L2 := Aside0.mk hc2
  have F2 := Aside0.mk w2.2
  have S0 := Aside0.mk hr3_0
  have T0 := Aside0.mk hc3_0
  have S1 := Aside0.mk hr3_1
  have T1 := Aside0.mk hc3_1
  have V0 := Aside0.mk w3.1.2
  have V1 := Aside0.mk w3.2.2
  have GL := Aside0.mk hG_
  clear hr0 hc0 w0 hr1 hc1 w1 hr2 hc2 w2 hr3_0 hc3_0 hr3_1 hc3_1 w3 hG_ P
  go_enter Tryd.func11, Tryd.ntmps11
  go_wp2_with (first | (go_at_call 23; go_must (refine (word_sem V0.out V1.out A3_0 A3_1 c3_0 c3_1 ?h0 T0.out ?h1 T1.out).mono ?_; (case h0 => exact Kd.C_below S0.out (below_alloc (Below.refl _ _) _)); (case h1 => exact Kd.C_below S1.out (below_alloc (Below.refl _ _) _)); rintro e w1 ⟨X1, X2, d1, d2, stem, loop, rfl, z1, z2, z3, z4, hs, hl, sc, lc, hb⟩; have ZZ := Aside0.mk (And.intro z1 (And.intro z2 (And.intro z3 z4))); have HS := Aside0.mk hs; have HL := Aside0.mk hl; have SL := Aside0.mk (And.intro sc lc); have B1 := Aside0.mk (below_step (below_alloc (Below.refl _ _) _) hb); clear z1 z2 z3 z4 hs hl sc lc hb)) | ((with_reducible refine gate_dst (N := 9) rfl ?_); go_must (refine box_event ?hg (N := 9) ?hd (cs := #[.slice none 0 0, .slice none 0 0]) (t := 43) ?hr ?_; (case hd => rfl); (case hg => rfl); (case hr => first | (go_simp; done) | (go_simp; rfl)); intro gw hgw w2 hbox hb; have KW := Aside0.mk hbox; have GW := Aside0.mk hgw; have BW := Aside0.mk hb; have ka := (blk_cell hbox 0).trans rfl; have kb := (blk_cell hbox 1).trans rfl; have fa := blk_frozen hbox 0; have fb := blk_frozen hbox 1; clear hb hbox hgw)) | ((with_reducible refine gate_store (t := 43) (p := 9) (v := .tmp 22) rfl ?_); go_must (refine store_event (t := 43) (p := 9) (v := .tmp 22) (w1 := ((w2.setCell ⟨gw, 0, none⟩ (.slice X1 stem.length d1)).setCell ⟨gw, 1, none⟩ (.slice X2 loop.length d2))) ?hg ?ho ?hn ?hr ?_; (case ho => rfl); (case hg => rfl); (case hn => rfl); (case hr => first | (go_simp; done) | (go_simp; rfl)); intro w3 hw; have BX := Aside0.mk (show Below w1.heap.size w1 w3 from by rw [hw]; exact (BW.out.setCell (p := ⟨gw, 0, none⟩) (by have := GW.out; show _ ≤ gw; omega) _).setCell (p := ⟨gw, 1, none⟩) (by have := GW.out; show _ ≤ gw; omega) _); have HA : Aside0 (Amb w w3 gw X1 X2 d1 d2 stem loop []) := Aside0.mk ⟨below_step B1.out BX.out, GL.out.below (below_step B1.out BX.out), (by rw [hw]; exact blk_put (blk_put KW.out 0 _ rfl) 1 _ rfl), Kd.C_below HS.out BX.out, Kd.C_below HL.out BX.out, SL.out.1, SL.out.2, fun x hx => by simp at hx⟩; clear hw ka kb fa fb KW GW BW HS HL SL B1 BX)) | (go_at_call_of 26 (Value.slice A0 l0.length c0); go_must (refine (small_sem F0.out A0 c0 (Kd.C_below R0.out HA.out.bel) L0.out).mono ?_; rintro e w4 ⟨Bf, nf, ef, f, rfl, hf, sf, tf, hT, hb⟩; have Gf := Aside0.mk (And.intro hf (And.intro sf tf)); replace HA := Aside0.mk ((HA.out.below hb).add hT); clear hf sf tf hT hb)) | (go_at_call_of 26 (Value.slice A1 l1.length c1); go_must (refine (small_sem F1.out A1 c1 (Kd.C_below R1.out HA.out.bel) L1.out).mono ?_; rintro e w4 ⟨Bg, ng, eg, g, rfl, hf, sf, tf, hT, hb⟩; have Gg := Aside0.mk (And.intro hf (And.intro sf tf)); replace HA := Aside0.mk ((HA.out.below hb).add hT); clear hf sf tf hT hb)) | (go_at_call_of 26 (Value.slice A2 l2.length c2); go_must (refine (small_sem F2.out A2 c2 (Kd.C_below R2.out HA.out.bel) L2.out).mono ?_; rintro e w4 ⟨Bh, nh, eh, h, rfl, hf, sf, tf, hT, hb⟩; have Gh := Aside0.mk (And.intro hf (And.intro sf tf)); replace HA := Aside0.mk ((HA.out.below hb).add hT); clear hf sf tf hT hb)) | (go_at_call_of 21 (Value.int .i64 18); go_must (refine (joined1_sem 18 _ HA.out (below_alloc (Below.refl _ _) _) ((blk_cell (blk_new _ _) 0).trans rfl) (by (repeat (first | exact List.Mem.head _ | refine List.Mem.tail _ ?_))) (by have := Gf.out.2.1; have := Gg.out.2.1; have := Gh.out.2.1; (try simp only [Tm.size]); omega)).mono ?_; rintro e wj ⟨Bj, nj, ej, rfl, hj⟩; replace HA := Aside0.mk hj; clear hj)) | (go_at_call_of 21 (Value.int .i64 17); go_must (refine (joined1_sem 17 _ HA.out (below_alloc (Below.refl _ _) _) ((blk_cell (blk_new _ _) 0).trans rfl) (by (repeat (first | exact List.Mem.head _ | refine List.Mem.tail _ ?_))) (by have := Gf.out.2.1; have := Gg.out.2.1; have := Gh.out.2.1; (try simp only [Tm.size]); omega)).mono ?_; rintro e wj ⟨Bj, nj, ej, rfl, hj⟩; replace HA := Aside0.mk hj; clear hj)) | (go_at_call_of 21 (Value.int .i64 14); go_must (refine (joined1_sem 14 _ HA.out (below_alloc (Below.refl _ _) _) ((blk_cell (blk_new _ _) 0).trans rfl) (by (repeat (first | exact List.Mem.head _ | refine List.Mem.tail _ ?_))) (by have := Gf.out.2.1; have := Gg.out.2.1; have := Gh.out.2.1; (try simp only [Tm.size]); omega)).mono ?_; rintro e wj ⟨Bj, nj, ej, rfl, hj⟩; replace HA := Aside0.mk hj; clear hj)) | (go_at_call_of 21 (Value.int .i64 8); go_must (refine (joined2_sem 8 _ HA.out (below_alloc (Below.refl _ _) _) ((blk_cell (blk_new _ _) 0).trans rfl) ((blk_cell (blk_new _ _) 1).trans rfl) (by (repeat (first | exact List.Mem.head _ | refine List.Mem.tail _ ?_))) (by (repeat (first | exact List.Mem.head _ | refine List.Mem.tail _ ?_))) (by have := Gf.out.2.1; have := Gg.out.2.1; have := Gh.out.2.1; (try simp only [Tm.size]); omega)).mono ?_; rintro e wj ⟨Bj, nj, ej, rfl, hj⟩; replace HA := Aside0.mk hj; clear hj)) | (go_at_call_of 21 (Value.int .i64 9); go_must (refine (joined2_sem 9 _ HA.out (below_alloc (Below.refl _ _) _) ((blk_cell (blk_new _ _) 0).trans rfl) ((blk_cell (blk_new _ _) 1).trans rfl) (by (repeat (first | exact List.Mem.head _ | refine List.Mem.tail _ ?_))) (by (repeat (first | exact List.Mem.head _ | refine List.Mem.tail _ ?_))) (by have := Gf.out.2.1; have := Gg.out.2.1; have := Gh.out.2.1; (try simp only [Tm.size]); omega)).mono ?_; rintro e wj ⟨Bj, nj, ej, rfl, hj⟩; replace HA := Aside0.mk hj; clear hj)) | (go_at_call_of 21 (Value.int .i64 15); go_must (refine (joined2_sem 15 _ HA.out (below_alloc (Below.refl _ _) _) ((blk_cell (blk_new _ _) 0).trans rfl) ((blk_cell (blk_new _ _) 1).trans rfl) (by (repeat (first | exact List.Mem.head _ | refine List.Mem.tail _ ?_))) (by (repeat (first | exact List.Mem.head _ | refine List.Mem.tail _ ?_))) (by have := Gf.out.2.1; have := Gg.out.2.1; have := Gh.out.2.1; (try simp only [Tm.size]); omega)).mono ?_; rintro e wj ⟨Bj, nj, ej, rfl, hj⟩; replace HA := Aside0.mk hj; clear hj)) | ((with_reducible refine gate_dst (N := 110) rfl ?_); go_must (refine build_event rfl (N := 110) rfl (by go_simp; first | exact ⟨rfl, rfl⟩ | exact ⟨rfl, rfl, rfl⟩ | rfl) ?_; intro gl hgl u0 hbox hb; have KL := Aside0.mk hbox; replace HA := Aside0.mk (HA.out.below hb); clear hbox hb hgl)))
  have WO := Aside0.mk (ok_of (by have := ZZ.out.1; omega) ZZ.out.2.1 (by have := ZZ.out.2.2.1; omega) ZZ.out.2.2.2)
  refine wp_loop_rounds 6 ?_
  rw [rounds_succ]
  go_wp2_with fail
  have k0 := HA.out.c0
  have k1 := HA.out.c1'
  have kl0 := blk_cell KL.out 0
  simp at kl0
  obtain ⟨Ak, nk, ek, kl, hk⟩ : ∃ A n e, u0.cell? ⟨gl, 0, none⟩ = some (.slice A n e) ∧ Trm u0 A n e (.un ⟨18, 0⟩ (.bin ⟨8, 0⟩ f g)) := ⟨_, _, _, kl0, HA.out.get (by (repeat (first | exact List.Mem.head _ | refine List.Mem.tail _ ?_)))⟩
  have HK := Aside0.mk hk
  clear hk kl0
  go_region_held3 (fun w' => w'.cell? ⟨gw, 0, none⟩ = some (.slice X1 stem.length d1) ∧ w'.cell? ⟨gw, 1, none⟩ = some (.slice X2 loop.length d2) ∧ w'.cell? ⟨gl, 0, none⟩ = some (.slice Ak nk ek)) (go_keep)
    ((go_at_call 25; refine (holds_sem (t := (.un ⟨18, 0⟩ (.bin ⟨8, 0⟩ f g))) WO.out HA.out (below_drew1 (Below.refl _ _)) HK.out ⟨(.look 18 _ (by decide) (.log 8 _ _ (by decide) Gf.out.1 Gg.out.1)), (by have := Gf.out.2.1; have := Gf.out.2.2; have := Gg.out.2.1; have := Gg.out.2.2; have := Gh.out.2.1; have := Gh.out.2.2; (try simp only [Tm.size]); omega), (by have := Gf.out.2.1; have := Gf.out.2.2; have := Gg.out.2.1; have := Gg.out.2.2; have := Gh.out.2.1; have := Gh.out.2.2; (try simp [Tm.tempo]); omega)⟩).mono ?_; rintro e u1 ⟨v0, rfl, hv, ha, hb⟩; have HV := Aside0.mk hv; have z0 := ha.c0; have z1 := ha.c1'; have z2 := pw_cell_below hb kl; replace HA := Aside0.mk ha; replace KL := Aside0.mk (blk_below KL.out hb); clear hv ha hb))
  clear k0 k1 kl HK
  go_wp2_with fail
  have k0 := HA.out.c0
  have k1 := HA.out.c1'
  have kl0 := blk_cell KL.out 1
  simp at kl0
  obtain ⟨Ak, nk, ek, kl, hk⟩ : ∃ A n e, u1.cell? ⟨gl, 1, none⟩ = some (.slice A n e) ∧ Trm u1 A n e (.bin ⟨8, 0⟩ (.un ⟨18, 0⟩ f) (.un ⟨18, 0⟩ g)) := ⟨_, _, _, kl0, HA.out.get (by (repeat (first | exact List.Mem.head _ | refine List.Mem.tail _ ?_)))⟩
  have HK := Aside0.mk hk
  clear hk kl0
  go_region_held3 (fun w' => w'.cell? ⟨gw, 0, none⟩ = some (.slice X1 stem.length d1) ∧ w'.cell? ⟨gw, 1, none⟩ = some (.slice X2 loop.length d2) ∧ w'.cell? ⟨gl, 1, none⟩ = some (.slice Ak nk ek)) (go_keep)
    ((go_at_call 25; refine (holds_sem (t := (.bin ⟨8, 0⟩ (.un ⟨18, 0⟩ f) (.un ⟨18, 0⟩ g))) WO.out HA.out (below_drew1 (Below.refl _ _)) HK.out ⟨(.log 8 _ _ (by decide) (.look 18 _ (by decide) Gf.out.1) (.look 18 _ (by decide) Gg.out.1)), (by have := Gf.out.2.1; have := Gf.out.2.2; have := Gg.out.2.1; have := Gg.out.2.2; have := Gh.out.2.1; have := Gh.out.2.2; (try simp only [Tm.size]); omega), (by have := Gf.out.2.1; have := Gf.out.2.2; have := Gg.out.2.1; have := Gg.out.2.2; have := Gh.out.2.1; have := Gh.out.2.2; (try simp [Tm.tempo]); omega)⟩).mono ?_; rintro e u2 ⟨v1, rfl, hv, ha, hb⟩; obtain rfl : v1 = v0 := Bool.eq_iff_iff.mpr (hv.trans ((spread_G f g _).symm.trans HV.out.symm)); have z0 := ha.c0; have z1 := ha.c1'; have z2 := pw_cell_below hb kl; replace HA := Aside0.mk ha; replace KL := Aside0.mk (blk_below KL.out hb); clear hv ha hb HV))
  clear k0 k1 kl HK
  go_wp2_with fail
  rw [rounds_succ]
  go_wp2_with fail
  have k0 := HA.out.c0
  have k1 := HA.out.c1'
  have kl0 := blk_cell KL.out 2
  simp at kl0
  obtain ⟨Ak, nk, ek, kl, hk⟩ : ∃ A n e, u2.cell? ⟨gl, 2, none⟩ = some (.slice A n e) ∧ Trm u2 A n e (.un ⟨17, 0⟩ (.bin ⟨9, 0⟩ f g)) := ⟨_, _, _, kl0, HA.out.get (by (repeat (first | exact List.Mem.head _ | refine List.Mem.tail _ ?_)))⟩
  have HK := Aside0.mk hk
  clear hk kl0
  go_region_held3 (fun w' => w'.cell? ⟨gw, 0, none⟩ = some (.slice X1 stem.length d1) ∧ w'.cell? ⟨gw, 1, none⟩ = some (.slice X2 loop.length d2) ∧ w'.cell? ⟨gl, 2, none⟩ = some (.slice Ak nk ek)) (go_keep)
    ((go_at_call 25; refine (holds_sem (t := (.un ⟨17, 0⟩ (.bin ⟨9, 0⟩ f g))) WO.out HA.out (below_drew1 (Below.refl _ _)) HK.out ⟨(.look 17 _ (by decide) (.log 9 _ _ (by decide) Gf.out.1 Gg.out.1)), (by have := Gf.out.2.1; have := Gf.out.2.2; have := Gg.out.2.1; have := Gg.out.2.2; have := Gh.out.2.1; have := Gh.out.2.2; (try simp only [Tm.size]); omega), (by have := Gf.out.2.1; have := Gf.out.2.2; have := Gg.out.2.1; have := Gg.out.2.2; have := Gh.out.2.1; have := Gh.out.2.2; (try simp [Tm.tempo]); omega)⟩).mono ?_; rintro e u3 ⟨v0, rfl, hv, ha, hb⟩; have HV := Aside0.mk hv; have z0 := ha.c0; have z1 := ha.c1'; have z2 := pw_cell_below hb kl; replace HA := Aside0.mk ha; replace KL := Aside0.mk (blk_below KL.out hb); clear hv ha hb))
  clear k0 k1 kl HK
  go_wp2_with fail
  have k0 := HA.out.c0
  have k1 := HA.out.c1'
  have kl0 := blk_cell KL.out 3
  simp at kl0
  obtain ⟨Ak, nk, ek, kl, hk⟩ : ∃ A n e, u3.cell? ⟨gl, 3, none⟩ = some (.slice A n e) ∧ Trm u3 A n e (.bin ⟨9, 0⟩ (.un ⟨17, 0⟩ f) (.un ⟨17, 0⟩ g)) := ⟨_, _, _, kl0, HA.out.get (by (repeat (first | exact List.Mem.head _ | refine List.Mem.tail _ ?_)))⟩
  have HK := Aside0.mk hk
  clear hk kl0
  go_region_held3 (fun w' => w'.cell? ⟨gw, 0, none⟩ = some (.slice X1 stem.length d1) ∧ w'.cell? ⟨gw, 1, none⟩ = some (.slice X2 loop.length d2) ∧ w'.cell? ⟨gl, 3, none⟩ = some (.slice Ak nk ek)) (go_keep)
    ((go_at_call 25; refine (holds_sem (t := (.bin ⟨9, 0⟩ (.un ⟨17, 0⟩ f) (.un ⟨17, 0⟩ g))) WO.out HA.out (below_drew1 (Below.refl _ _)) HK.out ⟨(.log 9 _ _ (by decide) (.look 17 _ (by decide) Gf.out.1) (.look 17 _ (by decide) Gg.out.1)), (by have := Gf.out.2.1; have := Gf.out.2.2; have := Gg.out.2.1; have := Gg.out.2.2; have := Gh.out.2.1; have := Gh.out.2.2; (try simp only [Tm.size]); omega), (by have := Gf.out.2.1; have := Gf.out.2.2; have := Gg.out.2.1; have := Gg.out.2.2; have := Gh.out.2.1; have := Gh.out.2.2; (try simp [Tm.tempo]); omega)⟩).mono ?_; rintro e u4 ⟨v1, rfl, hv, ha, hb⟩; obtain rfl : v1 = v0 := Bool.eq_iff_iff.mpr (hv.trans ((spread_F f g _).symm.trans HV.out.symm)); have z0 := ha.c0; have z1 := ha.c1'; have z2 := pw_cell_below hb kl; replace HA := Aside0.mk ha; replace KL := Aside0.mk (blk_below KL.out hb); clear hv ha hb HV))
  clear k0 k1 kl HK
  go_wp2_with fail
  rw [rounds_succ]
  go_wp2_with fail
  have k0 := HA.out.c0
  have k1 := HA.out.c1'
  have kl0 := blk_cell KL.out 4
  simp at kl0
  obtain ⟨Ak, nk, ek, kl, hk⟩ : ∃ A n e, u4.cell? ⟨gl, 4, none⟩ = some (.slice A n e) ∧ Trm u4 A n e (.bin ⟨15, 0⟩ f (.bin ⟨9, 0⟩ g h)) := ⟨_, _, _, kl0, HA.out.get (by (repeat (first | exact List.Mem.head _ | refine List.Mem.tail _ ?_)))⟩
  have HK := Aside0.mk hk
  clear hk kl0
  go_region_held3 (fun w' => w'.cell? ⟨gw, 0, none⟩ = some (.slice X1 stem.length d1) ∧ w'.cell? ⟨gw, 1, none⟩ = some (.slice X2 loop.length d2) ∧ w'.cell? ⟨gl, 4, none⟩ = some (.slice Ak nk ek)) (go_keep)
    ((go_at_call 25; refine (holds_sem (t := (.bin ⟨15, 0⟩ f (.bin ⟨9, 0⟩ g h))) WO.out HA.out (below_drew1 (Below.refl _ _)) HK.out ⟨(.unto 15 _ _ (by decide) Gf.out.1 (.log 9 _ _ (by decide) Gg.out.1 Gh.out.1)), (by have := Gf.out.2.1; have := Gf.out.2.2; have := Gg.out.2.1; have := Gg.out.2.2; have := Gh.out.2.1; have := Gh.out.2.2; (try simp only [Tm.size]); omega), (by have := Gf.out.2.1; have := Gf.out.2.2; have := Gg.out.2.1; have := Gg.out.2.2; have := Gh.out.2.1; have := Gh.out.2.2; (try simp [Tm.tempo]); omega)⟩).mono ?_; rintro e u5 ⟨v0, rfl, hv, ha, hb⟩; have HV := Aside0.mk hv; have z0 := ha.c0; have z1 := ha.c1'; have z2 := pw_cell_below hb kl; replace HA := Aside0.mk ha; replace KL := Aside0.mk (blk_below KL.out hb); clear hv ha hb))
  clear k0 k1 kl HK
  go_wp2_with fail
  have k0 := HA.out.c0
  have k1 := HA.out.c1'
  have kl0 := blk_cell KL.out 5
  simp at kl0
  obtain ⟨Ak, nk, ek, kl, hk⟩ : ∃ A n e, u5.cell? ⟨gl, 5, none⟩ = some (.slice A n e) ∧ Trm u5 A n e (.bin ⟨9, 0⟩ (.bin ⟨15, 0⟩ f g) (.bin ⟨15, 0⟩ f h)) := ⟨_, _, _, kl0, HA.out.get (by (repeat (first | exact List.Mem.head _ | refine List.Mem.tail _ ?_)))⟩
  have HK := Aside0.mk hk
  clear hk kl0
  go_region_held3 (fun w' => w'.cell? ⟨gw, 0, none⟩ = some (.slice X1 stem.length d1) ∧ w'.cell? ⟨gw, 1, none⟩ = some (.slice X2 loop.length d2) ∧ w'.cell? ⟨gl, 5, none⟩ = some (.slice Ak nk ek)) (go_keep)
    ((go_at_call 25; refine (holds_sem (t := (.bin ⟨9, 0⟩ (.bin ⟨15, 0⟩ f g) (.bin ⟨15, 0⟩ f h))) WO.out HA.out (below_drew1 (Below.refl _ _)) HK.out ⟨(.log 9 _ _ (by decide) (.unto 15 _ _ (by decide) Gf.out.1 Gg.out.1) (.unto 15 _ _ (by decide) Gf.out.1 Gh.out.1)), (by have := Gf.out.2.1; have := Gf.out.2.2; have := Gg.out.2.1; have := Gg.out.2.2; have := Gh.out.2.1; have := Gh.out.2.2; (try simp only [Tm.size]); omega), (by have := Gf.out.2.1; have := Gf.out.2.2; have := Gg.out.2.1; have := Gg.out.2.2; have := Gh.out.2.1; have := Gh.out.2.2; (try simp [Tm.tempo]); omega)⟩).mono ?_; rintro e u6 ⟨v1, rfl, hv, ha, hb⟩; obtain rfl : v1 = v0 := Bool.eq_iff_iff.mpr (hv.trans ((spread_U1 f g h _).symm.trans HV.out.symm)); have z0 := ha.c0; have z1 := ha.c1'; have z2 := pw_cell_below hb kl; replace HA := Aside0.mk ha; replace KL := Aside0.mk (blk_below KL.out hb); clear hv ha hb HV))
  clear k0 k1 kl HK
  go_wp2_with fail
  rw [rounds_succ]
  go_wp2_with fail
  have k0 := HA.out.c0
  have k1 := HA.out.c1'
  have kl0 := blk_cell KL.out 6
  simp at kl0
  obtain ⟨Ak, nk, ek, kl, hk⟩ : ∃ A n e, u6.cell? ⟨gl, 6, none⟩ = some (.slice A n e) ∧ Trm u6 A n e (.bin ⟨15, 0⟩ (.bin ⟨8, 0⟩ f g) h) := ⟨_, _, _, kl0, HA.out.get (by (repeat (first | exact List.Mem.head _ | refine List.Mem.tail _ ?_)))⟩
  have HK := Aside0.mk hk
  clear hk kl0
  go_region_held3 (fun w' => w'.cell? ⟨gw, 0, none⟩ = some (.slice X1 stem.length d1) ∧ w'.cell? ⟨gw, 1, none⟩ = some (.slice X2 loop.length d2) ∧ w'.cell? ⟨gl, 6, none⟩ = some (.slice Ak nk ek)) (go_keep)
    ((go_at_call 25; refine (holds_sem (t := (.bin ⟨15, 0⟩ (.bin ⟨8, 0⟩ f g) h)) WO.out HA.out (below_drew1 (Below.refl _ _)) HK.out ⟨(.unto 15 _ _ (by decide) (.log 8 _ _ (by decide) Gf.out.1 Gg.out.1) Gh.out.1), (by have := Gf.out.2.1; have := Gf.out.2.2; have := Gg.out.2.1; have := Gg.out.2.2; have := Gh.out.2.1; have := Gh.out.2.2; (try simp only [Tm.size]); omega), (by have := Gf.out.2.1; have := Gf.out.2.2; have := Gg.out.2.1; have := Gg.out.2.2; have := Gh.out.2.1; have := Gh.out.2.2; (try simp [Tm.tempo]); omega)⟩).mono ?_; rintro e u7 ⟨v0, rfl, hv, ha, hb⟩; have HV := Aside0.mk hv; have z0 := ha.c0; have z1 := ha.c1'; have z2 := pw_cell_below hb kl; replace HA := Aside0.mk ha; replace KL := Aside0.mk (blk_below KL.out hb); clear hv ha hb))
  clear k0 k1 kl HK
  go_wp2_with fail
  have k0 := HA.out.c0
  have k1 := HA.out.c1'
  have kl0 := blk_cell KL.out 7
  simp at kl0
  obtain ⟨Ak, nk, ek, kl, hk⟩ : ∃ A n e, u7.cell? ⟨gl, 7, none⟩ = some (.slice A n e) ∧ Trm u7 A n e (.bin ⟨8, 0⟩ (.bin ⟨15, 0⟩ f h) (.bin ⟨15, 0⟩ g h)) := ⟨_, _, _, kl0, HA.out.get (by (repeat (first | exact List.Mem.head _ | refine List.Mem.tail _ ?_)))⟩
  have HK := Aside0.mk hk
  clear hk kl0
  go_region_held3 (fun w' => w'.cell? ⟨gw, 0, none⟩ = some (.slice X1 stem.length d1) ∧ w'.cell? ⟨gw, 1, none⟩ = some (.slice X2 loop.length d2) ∧ w'.cell? ⟨gl, 7, none⟩ = some (.slice Ak nk ek)) (go_keep)
    ((go_at_call 25; refine (holds_sem (t := (.bin ⟨8, 0⟩ (.bin ⟨15, 0⟩ f h) (.bin ⟨15, 0⟩ g h))) WO.out HA.out (below_drew1 (Below.refl _ _)) HK.out ⟨(.log 8 _ _ (by decide) (.unto 15 _ _ (by decide) Gf.out.1 Gh.out.1) (.unto 15 _ _ (by decide) Gg.out.1 Gh.out.1)), (by have := Gf.out.2.1; have := Gf.out.2.2; have := Gg.out.2.1; have := Gg.out.2.2; have := Gh.out.2.1; have := Gh.out.2.2; (try simp only [Tm.size]); omega), (by have := Gf.out.2.1; have := Gf.out.2.2; have := Gg.out.2.1; have := Gg.out.2.2; have := Gh.out.2.1; have := Gh.out.2.2; (try simp [Tm.tempo]); omega)⟩).mono ?_; rintro e u8 ⟨v1, rfl, hv, ha, hb⟩; obtain rfl : v1 = v0 := Bool.eq_iff_iff.mpr (hv.trans ((spread_U2 f g h _).symm.trans HV.out.symm)); have z0 := ha.c0; have z1 := ha.c1'; have z2 := pw_cell_below hb kl; replace HA := Aside0.mk ha; replace KL := Aside0.mk (blk_below KL.out hb); clear hv ha hb HV))
  clear k0 k1 kl HK
  go_wp2_with fail
  rw [rounds_succ]
  go_wp2_with fail
  have k0 := HA.out.c0
  have k1 := HA.out.c1'
  have kl0 := blk_cell KL.out 8
  simp at kl0
  obtain ⟨Ak, nk, ek, kl, hk⟩ : ∃ A n e, u8.cell? ⟨gl, 8, none⟩ = some (.slice A n e) ∧ Trm u8 A n e (.un ⟨14, 0⟩ (.bin ⟨8, 0⟩ f g)) := ⟨_, _, _, kl0, HA.out.get (by (repeat (first | exact List.Mem.head _ | refine List.Mem.tail _ ?_)))⟩
  have HK := Aside0.mk hk
  clear hk kl0
  go_region_held3 (fun w' => w'.cell? ⟨gw, 0, none⟩ = some (.slice X1 stem.length d1) ∧ w'.cell? ⟨gw, 1, none⟩ = some (.slice X2 loop.length d2) ∧ w'.cell? ⟨gl, 8, none⟩ = some (.slice Ak nk ek)) (go_keep)
    ((go_at_call 25; refine (holds_sem (t := (.un ⟨14, 0⟩ (.bin ⟨8, 0⟩ f g))) WO.out HA.out (below_drew1 (Below.refl _ _)) HK.out ⟨(.look 14 _ (by decide) (.log 8 _ _ (by decide) Gf.out.1 Gg.out.1)), (by have := Gf.out.2.1; have := Gf.out.2.2; have := Gg.out.2.1; have := Gg.out.2.2; have := Gh.out.2.1; have := Gh.out.2.2; (try simp only [Tm.size]); omega), (by have := Gf.out.2.1; have := Gf.out.2.2; have := Gg.out.2.1; have := Gg.out.2.2; have := Gh.out.2.1; have := Gh.out.2.2; (try simp [Tm.tempo]); omega)⟩).mono ?_; rintro e u9 ⟨v0, rfl, hv, ha, hb⟩; have HV := Aside0.mk hv; have z0 := ha.c0; have z1 := ha.c1'; have z2 := pw_cell_below hb kl; replace HA := Aside0.mk ha; replace KL := Aside0.mk (blk_below KL.out hb); clear hv ha hb))
  clear k0 k1 kl HK
  go_wp2_with fail
  have k0 := HA.out.c0
  have k1 := HA.out.c1'
  have kl0 := blk_cell KL.out 9
  simp at kl0
  obtain ⟨Ak, nk, ek, kl, hk⟩ : ∃ A n e, u9.cell? ⟨gl, 9, none⟩ = some (.slice A n e) ∧ Trm u9 A n e (.bin ⟨8, 0⟩ (.un ⟨14, 0⟩ f) (.un ⟨14, 0⟩ g)) := ⟨_, _, _, kl0, HA.out.get (by (repeat (first | exact List.Mem.head _ | refine List.Mem.tail _ ?_)))⟩
  have HK := Aside0.mk hk
  clear hk kl0
  go_region_held3 (fun w' => w'.cell? ⟨gw, 0, none⟩ = some (.slice X1 stem.length d1) ∧ w'.cell? ⟨gw, 1, none⟩ = some (.slice X2 loop.length d2) ∧ w'.cell? ⟨gl, 9, none⟩ = some (.slice Ak nk ek)) (go_keep)
    ((go_at_call 25; refine (holds_sem (t := (.bin ⟨8, 0⟩ (.un ⟨14, 0⟩ f) (.un ⟨14, 0⟩ g))) WO.out HA.out (below_drew1 (Below.refl _ _)) HK.out ⟨(.log 8 _ _ (by decide) (.look 14 _ (by decide) Gf.out.1) (.look 14 _ (by decide) Gg.out.1)), (by have := Gf.out.2.1; have := Gf.out.2.2; have := Gg.out.2.1; have := Gg.out.2.2; have := Gh.out.2.1; have := Gh.out.2.2; (try simp only [Tm.size]); omega), (by have := Gf.out.2.1; have := Gf.out.2.2; have := Gg.out.2.1; have := Gg.out.2.2; have := Gh.out.2.1; have := Gh.out.2.2; (try simp [Tm.tempo]); omega)⟩).mono ?_; rintro e u10 ⟨v1, rfl, hv, ha, hb⟩; obtain rfl : v1 = v0 := Bool.eq_iff_iff.mpr (hv.trans ((spread_X f g _).symm.trans HV.out.symm)); have z0 := ha.c0; have z1 := ha.c1'; have z2 := pw_cell_below hb kl; replace HA := Aside0.mk ha; replace KL := Aside0.mk (blk_below KL.out hb); clear hv ha hb HV))
  clear k0 k1 kl HK
  go_wp2_with fail
  rw [rounds_succ]
  have k0 := HA.out.c0
  have k1 := HA.out.c1'
  have k2 : ∀ o, (u10.alloc o).cell? ⟨gw, 0, none⟩ = some (.slice X1 stem.length d1) := fun o => (HA.out.below (below_alloc (Below.refl _ _) o)).c0
  have k3 : ∀ o, (u10.alloc o).cell? ⟨gw, 1, none⟩ = some (.slice X2 loop.length d2) := fun o => (HA.out.below (below_alloc (Below.refl _ _) o)).c1'
  go_wp2_with (go_at_call 25; go_must (refine (holds_sem (t := .leaf ⟨11, 0⟩) WO.out (HA.out.below (below_alloc (Below.refl _ _) _)) (Below.refl _ _) (trm_lit (blk_new _ _)) ⟨.yes 11 (.inl rfl), by decide, by decide⟩).mono ?_; rintro e w9 ⟨v9, rfl, hv, ha, _⟩; obtain rfl : v9 = true := hv.mpr rfl; have B9 := Aside0.mk ha.bel; clear hv ha))
  go_ret
  exact ⟨rfl, B9.out⟩
end Go.Proofs.YtcoaeefmmnohkaaDoor.P
