/- The walk of WordNest: twice is once: what looks ahead twice in the same way says no more; and what settles, settles. -/
import Derived.Test.YtcoaeefmmnohkaaDoorQSem
import Derived.WalkSpells
import Derived.StillTailTactics
import Derived.Deep.RegionHeld3
import Derived.Deep.DeepCutAuto
namespace Go.Proofs.YtcoaeefmmnohkaaDoor.P
open Go.RowKit Go.Proofs.YtcoaeefmmnohkaaDoorW.PrintWords Go.Proofs.YtcoaeefmmnohkaaDoorW.PrintLast Go.Proofs.YtcoaeefmmnohkaaDoorW.PrintMore Go.Proofs.YtcoaeefmmnohkaaDoor.G Go.Proofs.YtcoaeefmmnohkaaDoor.Q
attribute [local go_sem] max2_int min2_int max_two min_two max_three min_three max_four min_four
set_option linter.unusedVariables false
set_option linter.unusedSimpArgs false
theorem nest_G (f : Tm) (s : Om) : (Tm.un ⟨18, 0⟩ (.un ⟨18, 0⟩ f)).says s ↔ (Tm.un ⟨18, 0⟩ f).says s := by
  show (∀ i, ∀ j, f.says ((s.from_ i).from_ j)) ↔ ∀ i, f.says (s.from_ i)
  simp only [Om.from_from]
  exact ⟨fun h i => by have := h i 0; rwa [Nat.add_zero] at this, fun h i j => h _⟩
theorem nest_F (f : Tm) (s : Om) : (Tm.un ⟨17, 0⟩ (.un ⟨17, 0⟩ f)).says s ↔ (Tm.un ⟨17, 0⟩ f).says s := by
  show (∃ i, ∃ j, f.says ((s.from_ i).from_ j)) ↔ ∃ i, f.says (s.from_ i)
  simp only [Om.from_from]
  exact ⟨fun ⟨i, j, h⟩ => ⟨_, h⟩, fun ⟨i, h⟩ => ⟨i, 0, by rwa [Nat.add_zero]⟩⟩
theorem nest_U (f g : Tm) (s : Om) : (Tm.bin ⟨15, 0⟩ f (.bin ⟨15, 0⟩ f g)).says s ↔ (Tm.bin ⟨15, 0⟩ f g).says s := by
  show (∃ j, (∃ i, g.says ((s.from_ j).from_ i) ∧ ∀ m, m < i → f.says ((s.from_ j).from_ m)) ∧ ∀ m, m < j → f.says (s.from_ m)) ↔ ∃ j, g.says (s.from_ j) ∧ ∀ m, m < j → f.says (s.from_ m)
  simp only [Om.from_from]
  refine ⟨fun ⟨j, ⟨i, h1, h2⟩, h3⟩ => ⟨j + i, h1, fun m hm => ?_⟩, fun ⟨j, h1, h2⟩ => ⟨j, ⟨0, by rwa [Nat.add_zero], fun m hm => by omega⟩, h2⟩⟩
  by_cases c : m < j
  · exact h3 m c
  · have := h2 (m - j) (by omega)
    rwa [show j + (m - j) = m by omega] at this
theorem nest_R (f g : Tm) (s : Om) : (Tm.bin ⟨16, 0⟩ f (.bin ⟨16, 0⟩ f g)).says s ↔ (Tm.bin ⟨16, 0⟩ f g).says s := by
  show (∀ j, (∀ i, g.says ((s.from_ j).from_ i) ∨ ∃ m, m < i ∧ f.says ((s.from_ j).from_ m)) ∨ ∃ m, m < j ∧ f.says (s.from_ m)) ↔ ∀ j, g.says (s.from_ j) ∨ ∃ m, m < j ∧ f.says (s.from_ m)
  simp only [Om.from_from]
  constructor
  · intro h j
    rcases h j with h | h
    · rcases h 0 with h | ⟨m, hm, _⟩
      · rw [Nat.add_zero] at h; exact .inl h
      · omega
    · exact .inr h
  · intro h j
    refine (Classical.em (∃ m, m < j ∧ f.says (s.from_ m))).elim .inr (fun hn => .inl (fun i => ?_))
    rcases h (j + i) with h | ⟨m, hm, hf⟩
    · exact .inl h
    · by_cases c : m < j
      · exact absurd ⟨m, c, hf⟩ hn
      · exact .inr ⟨m - j, by omega, by rwa [show j + (m - j) = m by omega]⟩
theorem nest_FGF (f : Tm) (s : Om) : (Tm.un ⟨17, 0⟩ (.un ⟨18, 0⟩ (.un ⟨17, 0⟩ f))).says s ↔ (Tm.un ⟨18, 0⟩ (.un ⟨17, 0⟩ f)).says s := by
  show (∃ i, ∀ j, ∃ k, f.says (((s.from_ i).from_ j).from_ k)) ↔ ∀ j, ∃ k, f.says ((s.from_ j).from_ k)
  simp only [Om.from_from]
  refine ⟨fun ⟨i, h⟩ j => ?_, fun h => ⟨0, fun j => by rw [Nat.zero_add]; exact h j⟩⟩
  obtain ⟨k, hk⟩ := h j
  exact ⟨i + k, by rwa [show j + (i + k) = i + j + k by omega]⟩
theorem nest_GFG (f : Tm) (s : Om) : (Tm.un ⟨18, 0⟩ (.un ⟨17, 0⟩ (.un ⟨18, 0⟩ f))).says s ↔ (Tm.un ⟨17, 0⟩ (.un ⟨18, 0⟩ f)).says s := by
  show (∀ i, ∃ j, ∀ k, f.says (((s.from_ i).from_ j).from_ k)) ↔ ∃ j, ∀ k, f.says ((s.from_ j).from_ k)
  simp only [Om.from_from]
  refine ⟨fun h => ?_, fun ⟨j, h⟩ i => ⟨j, fun k => ?_⟩⟩
  · obtain ⟨j, h⟩ := h 0
    exact ⟨j, fun k => by have := h k; rwa [Nat.zero_add] at this⟩
  · have := h (i + k)
    rwa [show j + (i + k) = i + j + k by omega] at this

/-- What is left to prove of the law WordNest in the plain: nothing, its walk says all. -/
def foretellkeep_WordNest.Pur : Prop := True
set_option maxHeartbeats 16000000 in
set_option maxRecDepth 100000 in
theorem foretellkeep_WordNest.wlk (P : foretellkeep_WordNest.Pur) (A0 : Option Addr) (c0 : Nat) (l0 : List (S79)) (A1 : Option Addr) (c1 : Nat) (l1 : List (S79)) (A2_0 : Option Addr) (c2_0 : Nat) (l2_0 : List Int) (A2_1 : Option Addr) (c2_1 : Nat) (l2_1 : List Int) (w : World) (hr0 : Kd.C k79 w A0 l0.length l0) (hc0 : l0.length ≤ c0) (hr1 : Kd.C k79 w A1 l1.length l1) (hc1 : l1.length ≤ c1) (hr2_0 : Kd.C (Kd.int .i64) w A2_0 l2_0.length l2_0) (hc2_0 : l2_0.length ≤ c2_0) (hr2_1 : Kd.C (Kd.int .i64) w A2_1 l2_1.length l2_1) (hc2_1 : l2_1.length ≤ c2_1) (w0 : (l0.length ≤ maxLen ∧ ∀ y ∈ l0, ((Lit.int .i64 y.f0).wf = true ∧ (Lit.int .i64 y.f1).wf = true))) (w1 : (l1.length ≤ maxLen ∧ ∀ y ∈ l1, ((Lit.int .i64 y.f0).wf = true ∧ (Lit.int .i64 y.f1).wf = true))) (w2 : ((l2_0.length ≤ maxLen ∧ ∀ y ∈ l2_0, (Lit.int .i64 y).wf = true) ∧ (l2_1.length ≤ maxLen ∧ ∀ y ∈ l2_1, (Lit.int .i64 y).wf = true))) (hG_ : Glob w) :
    Calls Tryd.prog 12 #[.slice A0 l0.length c0, .slice A1 l1.length c1, .agg #[.slice A2_0 l2_0.length c2_0, .slice A2_1 l2_1.length c2_1]] w fun e w' => e = .returned (.bool true) ∧ Below w.heap.size w w' := by
  have R0 := Aside0.mk hr0
  have L0 := Aside0.mk hc0
  have F0 := Aside0.mk w0.2
  have R1 := Aside0.mk hr1
  have L1 := Aside0.mk hc1
  have F1 := Aside0.mk w1.2
  have S0 := Aside0.mk hr2_0
  have T0 := Aside0.mk hc2_0
  have S1 := Aside0.mk hr2_1
  have T1 := Aside0.mk hc2_1
  have V0 := Aside0.mk w2.1.2
  have V1 := Aside0.mk w2.2.2
  have GL := Aside0.mk hG_
  clear hr0 hc0 w0 hr1 hc1 w1 hr2_0 hc2_0 hr2_1 hc2_1 w2 hG_ P
  go_enter Tryd.func12, Tryd.ntmps12
  go_wp2_with (first | (go_at_call 23; go_must (refine (word_sem V0.out V1.out A2_0 A2_1 c2_0 c2_1 ?h0 T0.out ?h1 T1.out).mono ?_; (case h0 => exact Kd.C_below S0.out (below_alloc (Below.refl _ _) _)); (case h1 => exact Kd.C_below S1.out (below_alloc (Below.refl _ _) _)); rintro e w1 ⟨X1, X2, d1, d2, stem, loop, rfl, z1, z2, z3, z4, hs, hl, sc, lc, hb⟩; have ZZ := Aside0.mk (And.intro z1 (And.intro z2 (And.intro z3 z4))); have HS := Aside0.mk hs; have HL := Aside0.mk hl; have SL := Aside0.mk (And.intro sc lc); have B1 := Aside0.mk (below_step (below_alloc (Below.refl _ _) _) hb); clear z1 z2 z3 z4 hs hl sc lc hb)) | ((with_reducible refine gate_dst (N := 7) rfl ?_); go_must (refine box_event ?hg (N := 7) ?hd (cs := #[.slice none 0 0, .slice none 0 0]) (t := 43) ?hr ?_; (case hd => rfl); (case hg => rfl); (case hr => first | (go_simp; done) | (go_simp; rfl)); intro gw hgw w2 hbox hb; have KW := Aside0.mk hbox; have GW := Aside0.mk hgw; have BW := Aside0.mk hb; have ka := (blk_cell hbox 0).trans rfl; have kb := (blk_cell hbox 1).trans rfl; have fa := blk_frozen hbox 0; have fb := blk_frozen hbox 1; clear hb hbox hgw)) | ((with_reducible refine gate_store (t := 43) (p := 7) (v := .tmp 19) rfl ?_); go_must (refine store_event (t := 43) (p := 7) (v := .tmp 19) (w1 := ((w2.setCell ⟨gw, 0, none⟩ (.slice X1 stem.length d1)).setCell ⟨gw, 1, none⟩ (.slice X2 loop.length d2))) ?hg ?ho ?hn ?hr ?_; (case ho => rfl); (case hg => rfl); (case hn => rfl); (case hr => first | (go_simp; done) | (go_simp; rfl)); intro w3 hw; have BX := Aside0.mk (show Below w1.heap.size w1 w3 from by rw [hw]; exact (BW.out.setCell (p := ⟨gw, 0, none⟩) (by have := GW.out; show _ ≤ gw; omega) _).setCell (p := ⟨gw, 1, none⟩) (by have := GW.out; show _ ≤ gw; omega) _); have HA : Aside0 (Amb w w3 gw X1 X2 d1 d2 stem loop []) := Aside0.mk ⟨below_step B1.out BX.out, GL.out.below (below_step B1.out BX.out), (by rw [hw]; exact blk_put (blk_put KW.out 0 _ rfl) 1 _ rfl), Kd.C_below HS.out BX.out, Kd.C_below HL.out BX.out, SL.out.1, SL.out.2, fun x hx => by simp at hx⟩; clear hw ka kb fa fb KW GW BW HS HL SL B1 BX)) | (go_at_call_of 16 (Value.slice A0 l0.length c0); go_must (refine (formula_sem F0.out 1 (by decide) (by decide) A0 c0 (Kd.C_below R0.out HA.out.bel) L0.out).mono ?_; rintro e w4 ⟨Bf, nf, ef, f, rfl, hf, sf, tf, hT, hb⟩; have Gf := Aside0.mk (And.intro hf (And.intro sf tf)); replace HA := Aside0.mk ((HA.out.below hb).add hT); clear hf sf tf hT hb)) | (go_at_call_of 16 (Value.slice A1 l1.length c1); go_must (refine (formula_sem F1.out 1 (by decide) (by decide) A1 c1 (Kd.C_below R1.out HA.out.bel) L1.out).mono ?_; rintro e w4 ⟨Bg, ng, eg, g, rfl, hf, sf, tf, hT, hb⟩; have Gg := Aside0.mk (And.intro hf (And.intro sf tf)); replace HA := Aside0.mk ((HA.out.below hb).add hT); clear hf sf tf hT hb)) | (go_at_call_of 21 (Value.int .i64 18); go_must (refine (joined1_sem 18 _ HA.out (below_alloc (Below.refl _ _) _) ((blk_cell (blk_new _ _) 0).trans rfl) (by (repeat (first | exact List.Mem.head _ | refine List.Mem.tail _ ?_))) (by have := Gf.out.2.1; have := Gg.out.2.1; (try simp only [Tm.size]); omega)).mono ?_; rintro e wj ⟨Bj, nj, ej, rfl, hj⟩; replace HA := Aside0.mk hj; clear hj)) | (go_at_call_of 21 (Value.int .i64 17); go_must (refine (joined1_sem 17 _ HA.out (below_alloc (Below.refl _ _) _) ((blk_cell (blk_new _ _) 0).trans rfl) (by (repeat (first | exact List.Mem.head _ | refine List.Mem.tail _ ?_))) (by have := Gf.out.2.1; have := Gg.out.2.1; (try simp only [Tm.size]); omega)).mono ?_; rintro e wj ⟨Bj, nj, ej, rfl, hj⟩; replace HA := Aside0.mk hj; clear hj)) | (go_at_call_of 21 (Value.int .i64 15); go_must (refine (joined2_sem 15 _ HA.out (below_alloc (Below.refl _ _) _) ((blk_cell (blk_new _ _) 0).trans rfl) ((blk_cell (blk_new _ _) 1).trans rfl) (by (repeat (first | exact List.Mem.head _ | refine List.Mem.tail _ ?_))) (by (repeat (first | exact List.Mem.head _ | refine List.Mem.tail _ ?_))) (by have := Gf.out.2.1; have := Gg.out.2.1; (try simp only [Tm.size]); omega)).mono ?_; rintro e wj ⟨Bj, nj, ej, rfl, hj⟩; replace HA := Aside0.mk hj; clear hj)) | (go_at_call_of 21 (Value.int .i64 16); go_must (refine (joined2_sem 16 _ HA.out (below_alloc (Below.refl _ _) _) ((blk_cell (blk_new _ _) 0).trans rfl) ((blk_cell (blk_new _ _) 1).trans rfl) (by (repeat (first | exact List.Mem.head _ | refine List.Mem.tail _ ?_))) (by (repeat (first | exact List.Mem.head _ | refine List.Mem.tail _ ?_))) (by have := Gf.out.2.1; have := Gg.out.2.1; (try simp only [Tm.size]); omega)).mono ?_; rintro e wj ⟨Bj, nj, ej, rfl, hj⟩; replace HA := Aside0.mk hj; clear hj)) | ((with_reducible refine gate_dst (N := 92) rfl ?_); go_must (refine build_event rfl (N := 92) rfl (by go_simp; first | exact ⟨rfl, rfl⟩ | exact ⟨rfl, rfl, rfl⟩ | rfl) ?_; intro gl hgl u0 hbox hb; have KL := Aside0.mk hbox; replace HA := Aside0.mk (HA.out.below hb); clear hbox hb hgl)))
  have WO := Aside0.mk (ok_of (by have := ZZ.out.1; omega) ZZ.out.2.1 (by have := ZZ.out.2.2.1; omega) ZZ.out.2.2.2)
  refine wp_loop_rounds 7 ?_
  rw [rounds_succ]
  go_wp2_with fail
  have k0 := HA.out.c0
  have k1 := HA.out.c1'
  have kl0 := blk_cell KL.out 0
  simp at kl0
  obtain ⟨Ak, nk, ek, kl, hk⟩ : ∃ A n e, u0.cell? ⟨gl, 0, none⟩ = some (.slice A n e) ∧ Trm u0 A n e (.un ⟨18, 0⟩ (.un ⟨18, 0⟩ f)) := ⟨_, _, _, kl0, HA.out.get (by (repeat (first | exact List.Mem.head _ | refine List.Mem.tail _ ?_)))⟩
  have HK := Aside0.mk hk
  clear hk kl0
  go_region_held3 (fun w' => w'.cell? ⟨gw, 0, none⟩ = some (.slice X1 stem.length d1) ∧ w'.cell? ⟨gw, 1, none⟩ = some (.slice X2 loop.length d2) ∧ w'.cell? ⟨gl, 0, none⟩ = some (.slice Ak nk ek)) (go_keep)
    ((go_at_call 25; refine (holds_sem (t := (.un ⟨18, 0⟩ (.un ⟨18, 0⟩ f))) WO.out HA.out (below_drew1 (Below.refl _ _)) HK.out ⟨(.look 18 _ (by decide) (.look 18 _ (by decide) Gf.out.1)), (by have := Gf.out.2.1; have := Gf.out.2.2; have := Gg.out.2.1; have := Gg.out.2.2; (try simp only [Tm.size]); omega), (by have := Gf.out.2.1; have := Gf.out.2.2; have := Gg.out.2.1; have := Gg.out.2.2; (try simp [Tm.tempo]); omega)⟩).mono ?_; rintro e u1 ⟨v0, rfl, hv, ha, hb⟩; have HV := Aside0.mk hv; have z0 := ha.c0; have z1 := ha.c1'; have z2 := pw_cell_below hb kl; replace HA := Aside0.mk ha; replace KL := Aside0.mk (blk_below KL.out hb); clear hv ha hb))
  clear k0 k1 kl HK
  go_wp2_with fail
  have k0 := HA.out.c0
  have k1 := HA.out.c1'
  have kl0 := blk_cell KL.out 1
  simp at kl0
  obtain ⟨Ak, nk, ek, kl, hk⟩ : ∃ A n e, u1.cell? ⟨gl, 1, none⟩ = some (.slice A n e) ∧ Trm u1 A n e (.un ⟨18, 0⟩ f) := ⟨_, _, _, kl0, HA.out.get (by (repeat (first | exact List.Mem.head _ | refine List.Mem.tail _ ?_)))⟩
  have HK := Aside0.mk hk
  clear hk kl0
  go_region_held3 (fun w' => w'.cell? ⟨gw, 0, none⟩ = some (.slice X1 stem.length d1) ∧ w'.cell? ⟨gw, 1, none⟩ = some (.slice X2 loop.length d2) ∧ w'.cell? ⟨gl, 1, none⟩ = some (.slice Ak nk ek)) (go_keep)
    ((go_at_call 25; refine (holds_sem (t := (.un ⟨18, 0⟩ f)) WO.out HA.out (below_drew1 (Below.refl _ _)) HK.out ⟨(.look 18 _ (by decide) Gf.out.1), (by have := Gf.out.2.1; have := Gf.out.2.2; have := Gg.out.2.1; have := Gg.out.2.2; (try simp only [Tm.size]); omega), (by have := Gf.out.2.1; have := Gf.out.2.2; have := Gg.out.2.1; have := Gg.out.2.2; (try simp [Tm.tempo]); omega)⟩).mono ?_; rintro e u2 ⟨v1, rfl, hv, ha, hb⟩; obtain rfl : v1 = v0 := Bool.eq_iff_iff.mpr (hv.trans ((nest_G f _).symm.trans HV.out.symm)); have z0 := ha.c0; have z1 := ha.c1'; have z2 := pw_cell_below hb kl; replace HA := Aside0.mk ha; replace KL := Aside0.mk (blk_below KL.out hb); clear hv ha hb HV))
  clear k0 k1 kl HK
  go_wp2_with fail
  rw [rounds_succ]
  go_wp2_with fail
  have k0 := HA.out.c0
  have k1 := HA.out.c1'
  have kl0 := blk_cell KL.out 2
  simp at kl0
  obtain ⟨Ak, nk, ek, kl, hk⟩ : ∃ A n e, u2.cell? ⟨gl, 2, none⟩ = some (.slice A n e) ∧ Trm u2 A n e (.un ⟨17, 0⟩ (.un ⟨17, 0⟩ f)) := ⟨_, _, _, kl0, HA.out.get (by (repeat (first | exact List.Mem.head _ | refine List.Mem.tail _ ?_)))⟩
  have HK := Aside0.mk hk
  clear hk kl0
  go_region_held3 (fun w' => w'.cell? ⟨gw, 0, none⟩ = some (.slice X1 stem.length d1) ∧ w'.cell? ⟨gw, 1, none⟩ = some (.slice X2 loop.length d2) ∧ w'.cell? ⟨gl, 2, none⟩ = some (.slice Ak nk ek)) (go_keep)
    ((go_at_call 25; refine (holds_sem (t := (.un ⟨17, 0⟩ (.un ⟨17, 0⟩ f))) WO.out HA.out (below_drew1 (Below.refl _ _)) HK.out ⟨(.look 17 _ (by decide) (.look 17 _ (by decide) Gf.out.1)), (by have := Gf.out.2.1; have := Gf.out.2.2; have := Gg.out.2.1; have := Gg.out.2.2; (try simp only [Tm.size]); omega), (by have := Gf.out.2.1; have := Gf.out.2.2; have := Gg.out.2.1; have := Gg.out.2.2; (try simp [Tm.tempo]); omega)⟩).mono ?_; rintro e u3 ⟨v0, rfl, hv, ha, hb⟩; have HV := Aside0.mk hv; have z0 := ha.c0; have z1 := ha.c1'; have z2 := pw_cell_below hb kl; replace HA := Aside0.mk ha; replace KL := Aside0.mk (blk_below KL.out hb); clear hv ha hb))
  clear k0 k1 kl HK
  go_wp2_with fail
  have k0 := HA.out.c0
  have k1 := HA.out.c1'
  have kl0 := blk_cell KL.out 3
  simp at kl0
  obtain ⟨Ak, nk, ek, kl, hk⟩ : ∃ A n e, u3.cell? ⟨gl, 3, none⟩ = some (.slice A n e) ∧ Trm u3 A n e (.un ⟨17, 0⟩ f) := ⟨_, _, _, kl0, HA.out.get (by (repeat (first | exact List.Mem.head _ | refine List.Mem.tail _ ?_)))⟩
  have HK := Aside0.mk hk
  clear hk kl0
  go_region_held3 (fun w' => w'.cell? ⟨gw, 0, none⟩ = some (.slice X1 stem.length d1) ∧ w'.cell? ⟨gw, 1, none⟩ = some (.slice X2 loop.length d2) ∧ w'.cell? ⟨gl, 3, none⟩ = some (.slice Ak nk ek)) (go_keep)
    ((go_at_call 25; refine (holds_sem (t := (.un ⟨17, 0⟩ f)) WO.out HA.out (below_drew1 (Below.refl _ _)) HK.out ⟨(.look 17 _ (by decide) Gf.out.1), (by have := Gf.out.2.1; have := Gf.out.2.2; have := Gg.out.2.1; have := Gg.out.2.2; (try simp only [Tm.size]); omega), (by have := Gf.out.2.1; have := Gf.out.2.2; have := Gg.out.2.1; have := Gg.out.2.2; (try simp [Tm.tempo]); omega)⟩).mono ?_; rintro e u4 ⟨v1, rfl, hv, ha, hb⟩; obtain rfl : v1 = v0 := Bool.eq_iff_iff.mpr (hv.trans ((nest_F f _).symm.trans HV.out.symm)); have z0 := ha.c0; have z1 := ha.c1'; have z2 := pw_cell_below hb kl; replace HA := Aside0.mk ha; replace KL := Aside0.mk (blk_below KL.out hb); clear hv ha hb HV))
  clear k0 k1 kl HK
  go_wp2_with fail
  rw [rounds_succ]
  go_wp2_with fail
  have k0 := HA.out.c0
  have k1 := HA.out.c1'
  have kl0 := blk_cell KL.out 4
  simp at kl0
  obtain ⟨Ak, nk, ek, kl, hk⟩ : ∃ A n e, u4.cell? ⟨gl, 4, none⟩ = some (.slice A n e) ∧ Trm u4 A n e (.bin ⟨15, 0⟩ f (.bin ⟨15, 0⟩ f g)) := ⟨_, _, _, kl0, HA.out.get (by (repeat (first | exact List.Mem.head _ | refine List.Mem.tail _ ?_)))⟩
  have HK := Aside0.mk hk
  clear hk kl0
  go_region_held3 (fun w' => w'.cell? ⟨gw, 0, none⟩ = some (.slice X1 stem.length d1) ∧ w'.cell? ⟨gw, 1, none⟩ = some (.slice X2 loop.length d2) ∧ w'.cell? ⟨gl, 4, none⟩ = some (.slice Ak nk ek)) (go_keep)
    ((go_at_call 25; refine (holds_sem (t := (.bin ⟨15, 0⟩ f (.bin ⟨15, 0⟩ f g))) WO.out HA.out (below_drew1 (Below.refl _ _)) HK.out ⟨(.unto 15 _ _ (by decide) Gf.out.1 (.unto 15 _ _ (by decide) Gf.out.1 Gg.out.1)), (by have := Gf.out.2.1; have := Gf.out.2.2; have := Gg.out.2.1; have := Gg.out.2.2; (try simp only [Tm.size]); omega), (by have := Gf.out.2.1; have := Gf.out.2.2; have := Gg.out.2.1; have := Gg.out.2.2; (try simp [Tm.tempo]); omega)⟩).mono ?_; rintro e u5 ⟨v0, rfl, hv, ha, hb⟩; have HV := Aside0.mk hv; have z0 := ha.c0; have z1 := ha.c1'; have z2 := pw_cell_below hb kl; replace HA := Aside0.mk ha; replace KL := Aside0.mk (blk_below KL.out hb); clear hv ha hb))
  clear k0 k1 kl HK
  go_wp2_with fail
  have k0 := HA.out.c0
  have k1 := HA.out.c1'
  have kl0 := blk_cell KL.out 5
  simp at kl0
  obtain ⟨Ak, nk, ek, kl, hk⟩ : ∃ A n e, u5.cell? ⟨gl, 5, none⟩ = some (.slice A n e) ∧ Trm u5 A n e (.bin ⟨15, 0⟩ f g) := ⟨_, _, _, kl0, HA.out.get (by (repeat (first | exact List.Mem.head _ | refine List.Mem.tail _ ?_)))⟩
  have HK := Aside0.mk hk
  clear hk kl0
  go_region_held3 (fun w' => w'.cell? ⟨gw, 0, none⟩ = some (.slice X1 stem.length d1) ∧ w'.cell? ⟨gw, 1, none⟩ = some (.slice X2 loop.length d2) ∧ w'.cell? ⟨gl, 5, none⟩ = some (.slice Ak nk ek)) (go_keep)
    ((go_at_call 25; refine (holds_sem (t := (.bin ⟨15, 0⟩ f g)) WO.out HA.out (below_drew1 (Below.refl _ _)) HK.out ⟨(.unto 15 _ _ (by decide) Gf.out.1 Gg.out.1), (by have := Gf.out.2.1; have := Gf.out.2.2; have := Gg.out.2.1; have := Gg.out.2.2; (try simp only [Tm.size]); omega), (by have := Gf.out.2.1; have := Gf.out.2.2; have := Gg.out.2.1; have := Gg.out.2.2; (try simp [Tm.tempo]); omega)⟩).mono ?_; rintro e u6 ⟨v1, rfl, hv, ha, hb⟩; obtain rfl : v1 = v0 := Bool.eq_iff_iff.mpr (hv.trans ((nest_U f g _).symm.trans HV.out.symm)); have z0 := ha.c0; have z1 := ha.c1'; have z2 := pw_cell_below hb kl; replace HA := Aside0.mk ha; replace KL := Aside0.mk (blk_below KL.out hb); clear hv ha hb HV))
  clear k0 k1 kl HK
  go_wp2_with fail
  rw [rounds_succ]
  go_wp2_with fail
  have k0 := HA.out.c0
  have k1 := HA.out.c1'
  have kl0 := blk_cell KL.out 6
  simp at kl0
  obtain ⟨Ak, nk, ek, kl, hk⟩ : ∃ A n e, u6.cell? ⟨gl, 6, none⟩ = some (.slice A n e) ∧ Trm u6 A n e (.bin ⟨16, 0⟩ f (.bin ⟨16, 0⟩ f g)) := ⟨_, _, _, kl0, HA.out.get (by (repeat (first | exact List.Mem.head _ | refine List.Mem.tail _ ?_)))⟩
  have HK := Aside0.mk hk
  clear hk kl0
  go_region_held3 (fun w' => w'.cell? ⟨gw, 0, none⟩ = some (.slice X1 stem.length d1) ∧ w'.cell? ⟨gw, 1, none⟩ = some (.slice X2 loop.length d2) ∧ w'.cell? ⟨gl, 6, none⟩ = some (.slice Ak nk ek)) (go_keep)
    ((go_at_call 25; refine (holds_sem (t := (.bin ⟨16, 0⟩ f (.bin ⟨16, 0⟩ f g))) WO.out HA.out (below_drew1 (Below.refl _ _)) HK.out ⟨(.unto 16 _ _ (by decide) Gf.out.1 (.unto 16 _ _ (by decide) Gf.out.1 Gg.out.1)), (by have := Gf.out.2.1; have := Gf.out.2.2; have := Gg.out.2.1; have := Gg.out.2.2; (try simp only [Tm.size]); omega), (by have := Gf.out.2.1; have := Gf.out.2.2; have := Gg.out.2.1; have := Gg.out.2.2; (try simp [Tm.tempo]); omega)⟩).mono ?_; rintro e u7 ⟨v0, rfl, hv, ha, hb⟩; have HV := Aside0.mk hv; have z0 := ha.c0; have z1 := ha.c1'; have z2 := pw_cell_below hb kl; replace HA := Aside0.mk ha; replace KL := Aside0.mk (blk_below KL.out hb); clear hv ha hb))
  clear k0 k1 kl HK
  go_wp2_with fail
  have k0 := HA.out.c0
  have k1 := HA.out.c1'
  have kl0 := blk_cell KL.out 7
  simp at kl0
  obtain ⟨Ak, nk, ek, kl, hk⟩ : ∃ A n e, u7.cell? ⟨gl, 7, none⟩ = some (.slice A n e) ∧ Trm u7 A n e (.bin ⟨16, 0⟩ f g) := ⟨_, _, _, kl0, HA.out.get (by (repeat (first | exact List.Mem.head _ | refine List.Mem.tail _ ?_)))⟩
  have HK := Aside0.mk hk
  clear hk kl0
  go_region_held3 (fun w' => w'.cell? ⟨gw, 0, none⟩ = some (.slice X1 stem.length d1) ∧ w'.cell? ⟨gw, 1, none⟩ = some (.slice X2 loop.length d2) ∧ w'.cell? ⟨gl, 7, none⟩ = some (.slice Ak nk ek)) (go_keep)
    ((go_at_call 25; refine (holds_sem (t := (.bin ⟨16, 0⟩ f g)) WO.out HA.out (below_drew1 (Below.refl _ _)) HK.out ⟨(.unto 16 _ _ (by decide) Gf.out.1 Gg.out.1), (by have := Gf.out.2.1; have := Gf.out.2.2; have := Gg.out.2.1; have := Gg.out.2.2; (try simp only [Tm.size]); omega), (by have := Gf.out.2.1; have := Gf.out.2.2; have := Gg.out.2.1; have := Gg.out.2.2; (try simp [Tm.tempo]); omega)⟩).mono ?_; rintro e u8 ⟨v1, rfl, hv, ha, hb⟩; obtain rfl : v1 = v0 := Bool.eq_iff_iff.mpr (hv.trans ((nest_R f g _).symm.trans HV.out.symm)); have z0 := ha.c0; have z1 := ha.c1'; have z2 := pw_cell_below hb kl; replace HA := Aside0.mk ha; replace KL := Aside0.mk (blk_below KL.out hb); clear hv ha hb HV))
  clear k0 k1 kl HK
  go_wp2_with fail
  rw [rounds_succ]
  go_wp2_with fail
  have k0 := HA.out.c0
  have k1 := HA.out.c1'
  have kl0 := blk_cell KL.out 8
  simp at kl0
  obtain ⟨Ak, nk, ek, kl, hk⟩ : ∃ A n e, u8.cell? ⟨gl, 8, none⟩ = some (.slice A n e) ∧ Trm u8 A n e (.un ⟨17, 0⟩ (.un ⟨18, 0⟩ (.un ⟨17, 0⟩ f))) := ⟨_, _, _, kl0, HA.out.get (by (repeat (first | exact List.Mem.head _ | refine List.Mem.tail _ ?_)))⟩
  have HK := Aside0.mk hk
  clear hk kl0
  go_region_held3 (fun w' => w'.cell? ⟨gw, 0, none⟩ = some (.slice X1 stem.length d1) ∧ w'.cell? ⟨gw, 1, none⟩ = some (.slice X2 loop.length d2) ∧ w'.cell? ⟨gl, 8, none⟩ = some (.slice Ak nk ek)) (go_keep)
    ((go_at_call 25; refine (holds_sem (t := (.un ⟨17, 0⟩ (.un ⟨18, 0⟩ (.un ⟨17, 0⟩ f)))) WO.out HA.out (below_drew1 (Below.refl _ _)) HK.out ⟨(.look 17 _ (by decide) (.look 18 _ (by decide) (.look 17 _ (by decide) Gf.out.1))), (by have := Gf.out.2.1; have := Gf.out.2.2; have := Gg.out.2.1; have := Gg.out.2.2; (try simp only [Tm.size]); omega), (by have := Gf.out.2.1; have := Gf.out.2.2; have := Gg.out.2.1; have := Gg.out.2.2; (try simp [Tm.tempo]); omega)⟩).mono ?_; rintro e u9 ⟨v0, rfl, hv, ha, hb⟩; have HV := Aside0.mk hv; have z0 := ha.c0; have z1 := ha.c1'; have z2 := pw_cell_below hb kl; replace HA := Aside0.mk ha; replace KL := Aside0.mk (blk_below KL.out hb); clear hv ha hb))
  clear k0 k1 kl HK
  go_wp2_with fail
  have k0 := HA.out.c0
  have k1 := HA.out.c1'
  have kl0 := blk_cell KL.out 9
  simp at kl0
  obtain ⟨Ak, nk, ek, kl, hk⟩ : ∃ A n e, u9.cell? ⟨gl, 9, none⟩ = some (.slice A n e) ∧ Trm u9 A n e (.un ⟨18, 0⟩ (.un ⟨17, 0⟩ f)) := ⟨_, _, _, kl0, HA.out.get (by (repeat (first | exact List.Mem.head _ | refine List.Mem.tail _ ?_)))⟩
  have HK := Aside0.mk hk
  clear hk kl0
  go_region_held3 (fun w' => w'.cell? ⟨gw, 0, none⟩ = some (.slice X1 stem.length d1) ∧ w'.cell? ⟨gw, 1, none⟩ = some (.slice X2 loop.length d2) ∧ w'.cell? ⟨gl, 9, none⟩ = some (.slice Ak nk ek)) (go_keep)
    ((go_at_call 25; refine (holds_sem (t := (.un ⟨18, 0⟩ (.un ⟨17, 0⟩ f))) WO.out HA.out (below_drew1 (Below.refl _ _)) HK.out ⟨(.look 18 _ (by decide) (.look 17 _ (by decide) Gf.out.1)), (by have := Gf.out.2.1; have := Gf.out.2.2; have := Gg.out.2.1; have := Gg.out.2.2; (try simp only [Tm.size]); omega), (by have := Gf.out.2.1; have := Gf.out.2.2; have := Gg.out.2.1; have := Gg.out.2.2; (try simp [Tm.tempo]); omega)⟩).mono ?_; rintro e u10 ⟨v1, rfl, hv, ha, hb⟩; obtain rfl : v1 = v0 := Bool.eq_iff_iff.mpr (hv.trans ((nest_FGF f _).symm.trans HV.out.symm)); have z0 := ha.c0; have z1 := ha.c1'; have z2 := pw_cell_below hb kl; replace HA := Aside0.mk ha; replace KL := Aside0.mk (blk_below KL.out hb); clear hv ha hb HV))
  clear k0 k1 kl HK
  go_wp2_with fail
  rw [rounds_succ]
  go_wp2_with fail
  have k0 := HA.out.c0
  have k1 := HA.out.c1'
  have kl0 := blk_cell KL.out 10
  simp at kl0
  obtain ⟨Ak, nk, ek, kl, hk⟩ : ∃ A n e, u10.cell? ⟨gl, 10, none⟩ = some (.slice A n e) ∧ Trm u10 A n e (.un ⟨18, 0⟩ (.un ⟨17, 0⟩ (.un ⟨18, 0⟩ f))) := ⟨_, _, _, kl0, HA.out.get (by (repeat (first | exact List.Mem.head _ | refine List.Mem.tail _ ?_)))⟩
  have HK := Aside0.mk hk
  clear hk kl0
  go_region_held3 (fun w' => w'.cell? ⟨gw, 0, none⟩ = some (.slice X1 stem.length d1) ∧ w'.cell? ⟨gw, 1, none⟩ = some (.slice X2 loop.length d2) ∧ w'.cell? ⟨gl, 10, none⟩ = some (.slice Ak nk ek)) (go_keep)
    ((go_at_call 25; refine (holds_sem (t := (.un ⟨18, 0⟩ (.un ⟨17, 0⟩ (.un ⟨18, 0⟩ f)))) WO.out HA.out (below_drew1 (Below.refl _ _)) HK.out ⟨(.look 18 _ (by decide) (.look 17 _ (by decide) (.look 18 _ (by decide) Gf.out.1))), (by have := Gf.out.2.1; have := Gf.out.2.2; have := Gg.out.2.1; have := Gg.out.2.2; (try simp only [Tm.size]); omega), (by have := Gf.out.2.1; have := Gf.out.2.2; have := Gg.out.2.1; have := Gg.out.2.2; (try simp [Tm.tempo]); omega)⟩).mono ?_; rintro e u11 ⟨v0, rfl, hv, ha, hb⟩; have HV := Aside0.mk hv; have z0 := ha.c0; have z1 := ha.c1'; have z2 := pw_cell_below hb kl; replace HA := Aside0.mk ha; replace KL := Aside0.mk (blk_below KL.out hb); clear hv ha hb))
  clear k0 k1 kl HK
  go_wp2_with fail
  have k0 := HA.out.c0
  have k1 := HA.out.c1'
  have kl0 := blk_cell KL.out 11
  simp at kl0
  obtain ⟨Ak, nk, ek, kl, hk⟩ : ∃ A n e, u11.cell? ⟨gl, 11, none⟩ = some (.slice A n e) ∧ Trm u11 A n e (.un ⟨17, 0⟩ (.un ⟨18, 0⟩ f)) := ⟨_, _, _, kl0, HA.out.get (by (repeat (first | exact List.Mem.head _ | refine List.Mem.tail _ ?_)))⟩
  have HK := Aside0.mk hk
  clear hk kl0
  go_region_held3 (fun w' => w'.cell? ⟨gw, 0, none⟩ = some (.slice X1 stem.length d1) ∧ w'.cell? ⟨gw, 1, none⟩ = some (.slice X2 loop.length d2) ∧ w'.cell? ⟨gl, 11, none⟩ = some (.slice Ak nk ek)) (go_keep)
    ((go_at_call 25; refine (holds_sem (t := (.un ⟨17, 0⟩ (.un ⟨18, 0⟩ f))) WO.out HA.out (below_drew1 (Below.refl _ _)) HK.out ⟨(.look 17 _ (by decide) (.look 18 _ (by decide) Gf.out.1)), (by have := Gf.out.2.1; have := Gf.out.2.2; have := Gg.out.2.1; have := Gg.out.2.2; (try simp only [Tm.size]); omega), (by have := Gf.out.2.1; have := Gf.out.2.2; have := Gg.out.2.1; have := Gg.out.2.2; (try simp [Tm.tempo]); omega)⟩).mono ?_; rintro e u12 ⟨v1, rfl, hv, ha, hb⟩; obtain rfl : v1 = v0 := Bool.eq_iff_iff.mpr (hv.trans ((nest_GFG f _).symm.trans HV.out.symm)); have z0 := ha.c0; have z1 := ha.c1'; have z2 := pw_cell_below hb kl; replace HA := Aside0.mk ha; replace KL := Aside0.mk (blk_below KL.out hb); clear hv ha hb HV))
  clear k0 k1 kl HK
  go_wp2_with fail
  rw [rounds_succ]
  go_wp2_with (go_at_call 24; go_must (refine (moments_none_sem (t := f) HA.out (by (repeat (first | exact List.Mem.head _ | refine List.Mem.tail _ ?_))) ⟨Gf.out.1, (by have := Gf.out.2.1; have := Gf.out.2.2; have := Gg.out.2.1; have := Gg.out.2.2; (try simp only [Tm.size]); omega), (by have := Gf.out.2.1; have := Gf.out.2.2; have := Gg.out.2.1; have := Gg.out.2.2; (try simp [Tm.tempo]); omega)⟩).mono ?_; rintro e w9 ⟨v9, rfl, hb⟩; have B9 := Aside0.mk hb; clear hb))
  go_ret
  exact ⟨rfl, B9.out⟩
end Go.Proofs.YtcoaeefmmnohkaaDoor.P
