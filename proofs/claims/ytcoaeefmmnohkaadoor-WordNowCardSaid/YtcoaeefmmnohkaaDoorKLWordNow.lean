/- The walk of WordNow: what is to come is now, or from the next moment on: all laws of ops that look ahead, moment by moment. -/
import Derived.WalkSpells
import Derived.StillTailTactics
import Derived.Deep.RegionHeld3
import Derived.Deep.DeepCutAuto
import Derived.Deep.QuietTactic
import Derived.BigQuiet
import Derived.Test.YtcoaeefmmnohkaaDoorK15
namespace Go.Proofs.YtcoaeefmmnohkaaDoor.P
open Go.RowKit Go.Proofs.YtcoaeefmmnohkaaDoorW.PrintWords Go.Proofs.YtcoaeefmmnohkaaDoorW.PrintLast Go.Proofs.YtcoaeefmmnohkaaDoorW.PrintMore Go.Proofs.YtcoaeefmmnohkaaDoor.G Go.Proofs.YtcoaeefmmnohkaaDoor.Q
attribute [local go_sem] max2_int min2_int max_two min_two max_three min_three max_four min_four
set_option linter.unusedVariables false
set_option linter.unusedSimpArgs false
theorem now_U (f g : Tm) (s : Om) : (Tm.bin ⟨15, 0⟩ f g).says s ↔ g.says s ∨ f.says s ∧ (Tm.bin ⟨15, 0⟩ f g).says (s.from_ 1) := by
  show (∃ j, g.says (s.from_ j) ∧ ∀ m, m < j → f.says (s.from_ m)) ↔ g.says s ∨ f.says s ∧ ∃ j, g.says ((s.from_ 1).from_ j) ∧ ∀ m, m < j → f.says ((s.from_ 1).from_ m)
  simp only [Om.from_from]
  constructor
  · rintro ⟨j, hj, hk⟩
    cases j with
    | zero => rw [Om.from_zero] at hj; exact .inl hj
    | succ j =>
      have h0 := hk 0 (by omega)
      rw [Om.from_zero] at h0
      exact .inr ⟨h0, j, by rwa [show 1 + j = j + 1 by omega], fun m hm => hk (1 + m) (by omega)⟩
  · rintro (h | ⟨h, j, hj, hk⟩)
    · exact ⟨0, by rwa [Om.from_zero], fun m hm => by omega⟩
    · refine ⟨1 + j, hj, fun m hm => ?_⟩
      cases m with
      | zero => rwa [Om.from_zero]
      | succ m => rw [show m + 1 = 1 + m by omega]; exact hk m (by omega)
theorem now_R (f g : Tm) (s : Om) : (Tm.bin ⟨16, 0⟩ f g).says s ↔ g.says s ∧ (f.says s ∨ (Tm.bin ⟨16, 0⟩ f g).says (s.from_ 1)) := by
  show (∀ j, g.says (s.from_ j) ∨ ∃ m, m < j ∧ f.says (s.from_ m)) ↔ g.says s ∧ (f.says s ∨ ∀ j, g.says ((s.from_ 1).from_ j) ∨ ∃ m, m < j ∧ f.says ((s.from_ 1).from_ m))
  simp only [Om.from_from]
  constructor
  · intro h
    refine ⟨?_, ?_⟩
    · rcases h 0 with h | ⟨m, hm, _⟩
      · rwa [Om.from_zero] at h
      · omega
    · refine (Classical.em (f.says s)).elim .inl (fun hn => .inr (fun j => ?_))
      rcases h (1 + j) with h | ⟨m, hm, hf⟩
      · exact .inl h
      · cases m with
        | zero => rw [Om.from_zero] at hf; exact absurd hf hn
        | succ m => rw [show m + 1 = 1 + m by omega] at hf; exact .inr ⟨m, by omega, hf⟩
  · rintro ⟨h, h2⟩ j
    cases j with
    | zero => rw [Om.from_zero]; exact .inl h
    | succ j =>
      rw [show j + 1 = 1 + j by omega]
      rcases h2 with h2 | h2
      · exact .inr ⟨0, by omega, by rwa [Om.from_zero]⟩
      · rcases h2 j with q | ⟨m, hm, q⟩
        · exact .inl q
        · exact .inr ⟨1 + m, by omega, q⟩
theorem now_F (f : Tm) (s : Om) : (Tm.un ⟨17, 0⟩ f).says s ↔ f.says s ∨ (Tm.un ⟨17, 0⟩ f).says (s.from_ 1) := by
  show (∃ j, f.says (s.from_ j)) ↔ f.says s ∨ ∃ j, f.says ((s.from_ 1).from_ j)
  simp only [Om.from_from]
  constructor
  · rintro ⟨j, hj⟩
    cases j with
    | zero => rw [Om.from_zero] at hj; exact .inl hj
    | succ j => exact .inr ⟨j, by rwa [show 1 + j = j + 1 by omega]⟩
  · rintro (h | ⟨j, hj⟩)
    · exact ⟨0, by rwa [Om.from_zero]⟩
    · exact ⟨1 + j, hj⟩
theorem now_G (f : Tm) (s : Om) : (Tm.un ⟨18, 0⟩ f).says s ↔ f.says s ∧ (Tm.un ⟨18, 0⟩ f).says (s.from_ 1) := by
  show (∀ j, f.says (s.from_ j)) ↔ f.says s ∧ ∀ j, f.says ((s.from_ 1).from_ j)
  simp only [Om.from_from]
  constructor
  · exact fun h => ⟨by have := h 0; rwa [Om.from_zero] at this, fun j => h (1 + j)⟩
  · rintro ⟨h, h2⟩ j
    cases j with
    | zero => rwa [Om.from_zero]
    | succ j => rw [show j + 1 = 1 + j by omega]; exact h2 j
theorem now_eqs {xs : List (List Bool)} {back : Nat} {f g : Tm} {a b u r o l t : List Bool} (hb : back < xs.length) (ha : RowOf xs back f a) (hg : RowOf xs back g b) (hu : RowOf xs back (.bin ⟨15, 0⟩ f g) u) (hr : RowOf xs back (.bin ⟨16, 0⟩ f g) r) (ho : RowOf xs back (.un ⟨17, 0⟩ f) o) (hl : RowOf xs back (.un ⟨18, 0⟩ f) l) (ht : RowOf xs back (.un ⟨14, 0⟩ f) t) {i : Nat} (hi : i < xs.length) :
    gd u i = (gd b i || gd a i && gd u (nx xs.length back i)) ∧ gd r i = (gd b i && (gd a i || gd r (nx xs.length back i))) ∧ gd o i = (gd a i || gd o (nx xs.length back i)) ∧ gd l i = (gd a i && gd l (nx xs.length back i)) ∧ gd t i = gd a (nx xs.length back i) := by
  have hk := nx_lt (i := i) hb
  have hn := uw_next xs back i
  refine ⟨?_, ?_, ?_, ?_, ?_⟩ <;> apply Bool.eq_iff_iff.mpr
  · rw [hu.2 i hi, Bool.or_eq_true, Bool.and_eq_true, hg.2 i hi, ha.2 i hi, hu.2 _ hk, now_U, hn]
  · rw [hr.2 i hi, Bool.and_eq_true, Bool.or_eq_true, hg.2 i hi, ha.2 i hi, hr.2 _ hk, now_R, hn]
  · rw [ho.2 i hi, Bool.or_eq_true, ha.2 i hi, ho.2 _ hk, now_F, hn]
  · rw [hl.2 i hi, Bool.and_eq_true, ha.2 i hi, hl.2 _ hk, now_G, hn]
  · rw [ht.2 i hi, ha.2 _ hk, ← hn]
    exact Iff.rfl

def foretellkeep_WordNow.T20 : Bool × List (List Nat × List Nat) := (true, [([], []), ([], []), ([0, 1], [0, 1]), ([2], [2]), ([], []), ([], []), ([4, 5], [4, 5]), ([6], [6]), ([7], [7]), ([8], [8]), ([8], [8]), ([9, 10, 8], [8, 9, 10]), ([11, 8], [8, 11]), ([12, 8, 8], [8, 12]), ([13], [13]), ([13], [13]), ([14, 15, 13], [13, 14, 15]), ([16, 13], [13, 16]), ([13, 17, 8], [8, 13, 17]), ([8, 18], [8, 18]), ([3, 19], [3, 19]), ([20, 13], [20]), ([21], [21]), ([21], [21]), ([22, 23, 21], [21, 22, 23]), ([24, 21], [21, 24]), ([21], [21]), ([21], [21]), ([26, 27, 21], [21, 26, 27]), ([28, 21], [21, 28]), ([29, 21, 21], [21, 29]), ([30], [30]), ([30], [30]), ([31, 32, 30], [30, 31, 32]), ([33, 30], [30, 33]), ([34, 30, 30], [30, 34]), ([35], [35]), ([35], [35]), ([36, 37, 35], [35, 36, 37]), ([38, 35], [35, 38]), ([35, 39, 30], [30, 35, 39]), ([30, 40, 21], [21, 30, 40]), ([25, 41, 21], [21, 25, 41]), ([21, 42], [21, 42]), ([43, 35], [43]), ([44], [44]), ([44], [44]), ([45, 46, 44], [44, 45, 46]), ([47, 44], [44, 47]), ([44], [44]), ([44], [44]), ([49, 50, 44], [44, 49, 50]), ([51, 44], [44, 51]), ([52, 44, 44], [44, 52]), ([53], [53]), ([53], [53]), ([54, 55, 53], [53, 54, 55]), ([56, 53], [53, 56]), ([53, 57, 44], [44, 53, 57]), ([48, 58, 44], [44, 48, 58]), ([44, 59], [44, 59]), ([60, 53], [60]), ([61], [61]), ([61], [61]), ([62, 63, 61], [61, 62, 63]), ([64, 61], [61, 64]), ([61], [61]), ([61], [61]), ([66, 67, 61], [61, 66, 67]), ([68, 61], [61, 68]), ([69, 61, 61], [61, 69]), ([70], [70]), ([70], [70]), ([71, 72, 70], [70, 71, 72]), ([73, 70], [70, 73]), ([70, 74, 61], [61, 70, 74]), ([65, 75, 61], [61, 65, 75]), ([61, 76], [61, 76]), ([77, 70], [77]), ([78], [78]), ([78], [78]), ([79, 80, 78], [78, 79, 80]), ([81, 78], [78, 81]), ([78], [78]), ([78], [78]), ([83, 84, 78], [78, 83, 84]), ([85, 78], [78, 85]), ([82, 86, 78], [78, 82, 86]), ([78, 87], [78, 87])])
def foretellkeep_WordNow.B20 : List Nat := [0, 0, 3, 7, 0, 0, 48, 112, 240, 496, 496, 2032, 4080, 8176, 16368, 16368, 65520, 131056, 262128, 524272, 1048575, 2097151, 4194303, 4194303, 16777215, 33554431, 4194303, 4194303, 205520895, 473956351, 1010827263, 2084569087, 2084569087, 8527020031, 17116954623, 34296823807, 68656562175, 68656562175, 274814992383, 549692899327, 1099448713215, 2198960340991, 4398046511103, 8796093022207, 17592186044415, 35184372088831, 35184372088831, 140737488355327, 281474976710655, 35184372088831, 35184372088831, 1724034232352767, 3975834046038015, 8479433673408511, 17486632928149503, 17486632928149503, 71529828456595455, 143587422494523391, 287702610570379263, 576460752303423487, 1152921504606846975, 2305843009213693951, 4611686018427387903, 4611686018427387903, 18446744073709551615, 36893488147419103231, 4611686018427387903, 4611686018427387903, 225972614902942007295, 521120520082294833151, 1111416330441000484863, 2292007951158411788287, 2292007951158411788287, 9375557675462879608831, 18820290641202170036223, 37709756572680750891007, 75557863725914323419135, 151115727451828646838271, 302231454903657293676543, 604462909807314587353087, 604462909807314587353087, 2417851639229258349412351, 4835703278458516698824703, 604462909807314587353087, 604462909807314587353087, 29618682580558414780301311, 68304308808226548370898943, 154742504910672534362390527, 309485009821345068724781055]
theorem foretellkeep_WordNow.tab20 : rtab .any (opsOf Tryd.f5 20) = foretellkeep_WordNow.T20 := by kernel_rfl
theorem foretellkeep_WordNow.bits20 : waitsOk foretellkeep_WordNow.T20.2 foretellkeep_WordNow.B20 = true := by kernel_rfl
/-- What is left to prove of the law WordNow in the plain: nothing, its walk says all. -/
def foretellkeep_WordNow.Pur : Prop := True
set_option maxHeartbeats 16000000 in
set_option maxRecDepth 100000 in
theorem foretellkeep_WordNow.wlk (P : foretellkeep_WordNow.Pur) (A0 : Option Addr) (c0 : Nat) (l0 : List (S79)) (A1 : Option Addr) (c1 : Nat) (l1 : List (S79)) (A2_0 : Option Addr) (c2_0 : Nat) (l2_0 : List Int) (A2_1 : Option Addr) (c2_1 : Nat) (l2_1 : List Int) (w : World) (hr0 : Kd.C k79 w A0 l0.length l0) (hc0 : l0.length ≤ c0) (hr1 : Kd.C k79 w A1 l1.length l1) (hc1 : l1.length ≤ c1) (hr2_0 : Kd.C (Kd.int .i64) w A2_0 l2_0.length l2_0) (hc2_0 : l2_0.length ≤ c2_0) (hr2_1 : Kd.C (Kd.int .i64) w A2_1 l2_1.length l2_1) (hc2_1 : l2_1.length ≤ c2_1) (w0 : (l0.length ≤ maxLen ∧ ∀ y ∈ l0, ((Lit.int .i64 y.f0).wf = true ∧ (Lit.int .i64 y.f1).wf = true))) (w1 : (l1.length ≤ maxLen ∧ ∀ y ∈ l1, ((Lit.int .i64 y.f0).wf = true ∧ (Lit.int .i64 y.f1).wf = true))) (w2 : ((l2_0.length ≤ maxLen ∧ ∀ y ∈ l2_0, (Lit.int .i64 y).wf = true) ∧ (l2_1.length ≤ maxLen ∧ ∀ y ∈ l2_1, (Lit.int .i64 y).wf = true))) (hG_ : Glob w) :
    Calls Tryd.prog 5 #[.slice A0 l0.length c0, .slice A1 l1.length c1, .agg #[.slice A2_0 l2_0.length c2_0, .slice A2_1 l2_1.length c2_1]] w fun e w' => e = .returned (.bool true) ∧ Below w.heap.size w w' := by
  have R0 := Aside0.mk hr0
  have L0 := Aside0.mk hc0
  have F0 := Aside0.mk w0.2
  have R1 := Aside0.mk hr1
  have L1 := Aside0.mk hc1
  have F1 := Aside0.mk w1.2
  have S0 := Aside0.mk hr2_0
  have T0 := Aside0.mk hc2_0
  have S1 := Aside0.mk hr2_1
  have T1 := Aside0.mk hc2_1
  have V0 := Aside0.mk w2.1.2
  have V1 := Aside0.mk w2.2.2
  have GL := Aside0.mk hG_
  clear hr0 hc0 w0 hr1 hc1 w1 hr2_0 hc2_0 hr2_1 hc2_1 w2 hG_ P
  go_enter Tryd.func5, Tryd.ntmps5
  go_upto_region 4 with (first | (go_at_call 23; go_must (refine (word_sem V0.out V1.out A2_0 A2_1 c2_0 c2_1 ?h0 T0.out ?h1 T1.out).mono ?_; (case h0 => exact Kd.C_below S0.out (below_alloc (Below.refl _ _) _)); (case h1 => exact Kd.C_below S1.out (below_alloc (Below.refl _ _) _)); rintro e w1 ⟨X1, X2, d1, d2, stem, loop, rfl, z1, z2, z3, z4, hs, hl, sc, lc, hb⟩; have ZZ := Aside0.mk (And.intro z1 (And.intro z2 (And.intro z3 z4))); have HS := Aside0.mk hs; have HL := Aside0.mk hl; have SL := Aside0.mk (And.intro sc lc); have B1 := Aside0.mk (below_step (below_alloc (Below.refl _ _) _) hb); clear z1 z2 z3 z4 hs hl sc lc hb)) | ((with_reducible refine gate_dst (N := 7) rfl ?_); go_must (refine box_event ?hg (N := 7) ?hd (cs := #[.slice none 0 0, .slice none 0 0]) (t := 43) ?hr ?_; (case hd => rfl); (case hg => rfl); (case hr => first | (go_simp; done) | (go_simp; rfl)); intro gw hgw w2 hbox hb; have KW := Aside0.mk hbox; have GW := Aside0.mk hgw; have BW := Aside0.mk hb; have ka := (blk_cell hbox 0).trans rfl; have kb := (blk_cell hbox 1).trans rfl; have fa := blk_frozen hbox 0; have fb := blk_frozen hbox 1; clear hb hbox hgw)) | ((with_reducible refine gate_store (t := 43) (p := 7) (v := .tmp 28) rfl ?_); go_must (refine store_event (t := 43) (p := 7) (v := .tmp 28) (w1 := ((w2.setCell ⟨gw, 0, none⟩ (.slice X1 stem.length d1)).setCell ⟨gw, 1, none⟩ (.slice X2 loop.length d2))) ?hg ?ho ?hn ?hr ?_; (case ho => rfl); (case hg => rfl); (case hn => rfl); (case hr => first | (go_simp; done) | (go_simp; rfl)); intro w3 hw; have BX := Aside0.mk (show Below w1.heap.size w1 w3 from by rw [hw]; exact (BW.out.setCell (p := ⟨gw, 0, none⟩) (by have := GW.out; show _ ≤ gw; omega) _).setCell (p := ⟨gw, 1, none⟩) (by have := GW.out; show _ ≤ gw; omega) _); have HA : Aside0 (Amb w w3 gw X1 X2 d1 d2 stem loop []) := Aside0.mk ⟨below_step B1.out BX.out, GL.out.below (below_step B1.out BX.out), (by rw [hw]; exact blk_put (blk_put KW.out 0 _ rfl) 1 _ rfl), Kd.C_below HS.out BX.out, Kd.C_below HL.out BX.out, SL.out.1, SL.out.2, fun x hx => by simp at hx⟩; clear hw ka kb fa fb KW GW BW HS HL SL B1 BX)) | (go_at_call_of 16 (Value.slice A0 l0.length c0); go_must (refine (formula_sem F0.out 2 (by decide) (by decide) A0 c0 (Kd.C_below R0.out HA.out.bel) L0.out).mono ?_; rintro e w4 ⟨Bf, nf, ef, f, rfl, hf, sf, tf, hT, hb⟩; have Gf := Aside0.mk (And.intro hf (And.intro sf tf)); replace HA := Aside0.mk ((HA.out.below hb).add hT); clear hf sf tf hT hb)) | (go_at_call_of 16 (Value.slice A1 l1.length c1); go_must (refine (formula_sem F1.out 2 (by decide) (by decide) A1 c1 (Kd.C_below R1.out HA.out.bel) L1.out).mono ?_; rintro e w4 ⟨Bg, ng, eg, g, rfl, hf, sf, tf, hT, hb⟩; have Gg := Aside0.mk (And.intro hf (And.intro sf tf)); replace HA := Aside0.mk ((HA.out.below hb).add hT); clear hf sf tf hT hb)))
  have WO := Aside0.mk (ok_of (by have := ZZ.out.1; omega) ZZ.out.2.1 (by have := ZZ.out.2.2.1; omega) ZZ.out.2.2.2)
  obtain ⟨NN, hNN⟩ : ∃ NN, (stem ++ loop).length = NN := ⟨_, rfl⟩
  have HNN := Aside0.mk hNN
  have NL := Aside0.mk (show 1 ≤ NN ∧ NN ≤ 10 ∧ stem.length < NN ∧ stem.length + loop.length = NN from by have := ZZ.out; rw [← hNN, List.length_append]; omega)
  have k0 := HA.out.c0
  have k1 := HA.out.c1'
  have esum : wrap64 ((stem.length : Int) + (loop.length : Int)) = (NN : Int) := by have := NL.out; unfold wrap64; omega
  have RW : Aside0 (Rws w4 NN []) := Aside0.mk (fun x hx => by simp at hx)
  clear hNN
  go_upto_region 5 with fail
  rw [esum]
  clear esum
  go_upto_region 7 with (first | (go_at_call_of 24 (Value.slice Bf nf ef); go_must (refine (moments_sem (t := f) WO.out HA.out (Below.refl _ _) (HA.out.get (by (repeat (first | exact List.Mem.head _ | refine List.Mem.tail _ ?_)))) ⟨Gf.out.1, (by have := Gf.out.2.1; have := Gf.out.2.2; have := Gg.out.2.1; have := Gg.out.2.2; (try simp only [Tm.size]); omega), (by have := Gf.out.2.1; have := Gf.out.2.2; have := Gg.out.2.1; have := Gg.out.2.2; (try simp [Tm.tempo]); omega)⟩).mono ?_; rintro e wa ⟨ga, ca, ra, rfl, hr, hC, ha, hb⟩; rw [HNN.out] at hC ⊢; have Oa := Aside0.mk hr; replace RW := Aside0.mk ((RW.out.below hb).add hC); have z0 := ha.c0; have z1 := ha.c1'; replace HA := Aside0.mk ha; clear hr hC ha hb)) | (go_at_call_of 24 (Value.slice Bg ng eg); go_must (refine (moments_sem (t := g) WO.out HA.out (Below.refl _ _) (HA.out.get (by (repeat (first | exact List.Mem.head _ | refine List.Mem.tail _ ?_)))) ⟨Gg.out.1, (by have := Gf.out.2.1; have := Gf.out.2.2; have := Gg.out.2.1; have := Gg.out.2.2; (try simp only [Tm.size]); omega), (by have := Gf.out.2.1; have := Gf.out.2.2; have := Gg.out.2.1; have := Gg.out.2.2; (try simp [Tm.tempo]); omega)⟩).mono ?_; rintro e wb ⟨gb, cb, rb, rfl, hr, hC, ha, hb⟩; rw [HNN.out] at hC ⊢; have Ob := Aside0.mk hr; replace RW := Aside0.mk ((RW.out.below hb).add hC); have z0 := ha.c0; have z1 := ha.c1'; replace HA := Aside0.mk ha; clear hr hC ha hb)))
  have y0 := HA.out.c0
  have y1 := HA.out.c1'
  have hne := World.new_ne _ ⟨gw, 0, none⟩ y0
  go_region_held3 (fun w' => w'.cell? ⟨gw, 0, none⟩ = some (.slice X1 stem.length d1) ∧ w'.cell? ⟨gw, 1, none⟩ = some (.slice X2 loop.length d2)) (go_keep)
    ((first | (go_at_call 21; refine (joined2_sem 15 _ HA.out (below_drew1 (below_alloc (Below.refl _ _) _)) ((blk_cell (blk_new _ _) 0).trans rfl) ((blk_cell (blk_new _ _) 1).trans rfl) (by (repeat (first | exact List.Mem.head _ | refine List.Mem.tail _ ?_))) (by (repeat (first | exact List.Mem.head _ | refine List.Mem.tail _ ?_))) (by have := Gf.out.2.1; have := Gg.out.2.1; (try simp only [Tm.size]); omega)).mono ?_; rintro e wj ⟨Bj, nj, ej, rfl, hj, hbj⟩; have z0 := hj.c0; have z1 := hj.c1'; replace RW := Aside0.mk (RW.out.below hbj); replace HA := Aside0.mk hj; clear hj hbj) | (go_at_call 24; refine (moments_sem (t := (.bin ⟨15, 0⟩ f g)) WO.out HA.out (Below.refl _ _) (HA.out.get (List.Mem.head _)) ⟨(.unto 15 _ _ (by decide) Gf.out.1 Gg.out.1), (by have := Gf.out.2.1; have := Gf.out.2.2; have := Gg.out.2.1; have := Gg.out.2.2; (try simp only [Tm.size]); omega), (by have := Gf.out.2.1; have := Gf.out.2.2; have := Gg.out.2.1; have := Gg.out.2.2; (try simp [Tm.tempo]); omega)⟩).mono ?_; rintro e wu ⟨gu, cu, ru, rfl, hr, hC, ha, hb⟩; rw [HNN.out] at hC ⊢; have Ou := Aside0.mk hr; replace RW := Aside0.mk ((RW.out.below hb).add hC); have z0 := ha.c0; have z1 := ha.c1'; replace HA := Aside0.mk ha; clear hr hC ha hb)))
  clear y0 y1 hne
  go_wp2_with fail
  have y0 := HA.out.c0
  have y1 := HA.out.c1'
  have hne := World.new_ne _ ⟨gw, 0, none⟩ y0
  go_region_held3 (fun w' => w'.cell? ⟨gw, 0, none⟩ = some (.slice X1 stem.length d1) ∧ w'.cell? ⟨gw, 1, none⟩ = some (.slice X2 loop.length d2)) (go_keep)
    ((first | (go_at_call 21; refine (joined2_sem 16 _ HA.out (below_drew1 (below_alloc (Below.refl _ _) _)) ((blk_cell (blk_new _ _) 0).trans rfl) ((blk_cell (blk_new _ _) 1).trans rfl) (by (repeat (first | exact List.Mem.head _ | refine List.Mem.tail _ ?_))) (by (repeat (first | exact List.Mem.head _ | refine List.Mem.tail _ ?_))) (by have := Gf.out.2.1; have := Gg.out.2.1; (try simp only [Tm.size]); omega)).mono ?_; rintro e wj ⟨Bj, nj, ej, rfl, hj, hbj⟩; have z0 := hj.c0; have z1 := hj.c1'; replace RW := Aside0.mk (RW.out.below hbj); replace HA := Aside0.mk hj; clear hj hbj) | (go_at_call 24; refine (moments_sem (t := (.bin ⟨16, 0⟩ f g)) WO.out HA.out (Below.refl _ _) (HA.out.get (List.Mem.head _)) ⟨(.unto 16 _ _ (by decide) Gf.out.1 Gg.out.1), (by have := Gf.out.2.1; have := Gf.out.2.2; have := Gg.out.2.1; have := Gg.out.2.2; (try simp only [Tm.size]); omega), (by have := Gf.out.2.1; have := Gf.out.2.2; have := Gg.out.2.1; have := Gg.out.2.2; (try simp [Tm.tempo]); omega)⟩).mono ?_; rintro e wr ⟨gr, cr, rr, rfl, hr, hC, ha, hb⟩; rw [HNN.out] at hC ⊢; have Or := Aside0.mk hr; replace RW := Aside0.mk ((RW.out.below hb).add hC); have z0 := ha.c0; have z1 := ha.c1'; replace HA := Aside0.mk ha; clear hr hC ha hb)))
  clear y0 y1 hne
  go_wp2_with fail
  have y0 := HA.out.c0
  have y1 := HA.out.c1'
  have hne := World.new_ne _ ⟨gw, 0, none⟩ y0
  go_region_held3 (fun w' => w'.cell? ⟨gw, 0, none⟩ = some (.slice X1 stem.length d1) ∧ w'.cell? ⟨gw, 1, none⟩ = some (.slice X2 loop.length d2)) (go_keep)
    ((first | (go_at_call 21; refine (joined1_sem 17 _ HA.out (below_drew1 (below_alloc (Below.refl _ _) _)) ((blk_cell (blk_new _ _) 0).trans rfl) (by (repeat (first | exact List.Mem.head _ | refine List.Mem.tail _ ?_))) (by have := Gf.out.2.1; have := Gg.out.2.1; (try simp only [Tm.size]); omega)).mono ?_; rintro e wj ⟨Bj, nj, ej, rfl, hj, hbj⟩; have z0 := hj.c0; have z1 := hj.c1'; replace RW := Aside0.mk (RW.out.below hbj); replace HA := Aside0.mk hj; clear hj hbj) | (go_at_call 24; refine (moments_sem (t := (.un ⟨17, 0⟩ f)) WO.out HA.out (Below.refl _ _) (HA.out.get (List.Mem.head _)) ⟨(.look 17 _ (by decide) Gf.out.1), (by have := Gf.out.2.1; have := Gf.out.2.2; have := Gg.out.2.1; have := Gg.out.2.2; (try simp only [Tm.size]); omega), (by have := Gf.out.2.1; have := Gf.out.2.2; have := Gg.out.2.1; have := Gg.out.2.2; (try simp [Tm.tempo]); omega)⟩).mono ?_; rintro e wo ⟨go, co, ro, rfl, hr, hC, ha, hb⟩; rw [HNN.out] at hC ⊢; have Oo := Aside0.mk hr; replace RW := Aside0.mk ((RW.out.below hb).add hC); have z0 := ha.c0; have z1 := ha.c1'; replace HA := Aside0.mk ha; clear hr hC ha hb)))
  clear y0 y1 hne
  go_wp2_with fail
  have y0 := HA.out.c0
  have y1 := HA.out.c1'
  have hne := World.new_ne _ ⟨gw, 0, none⟩ y0
  go_region_held3 (fun w' => w'.cell? ⟨gw, 0, none⟩ = some (.slice X1 stem.length d1) ∧ w'.cell? ⟨gw, 1, none⟩ = some (.slice X2 loop.length d2)) (go_keep)
    ((first | (go_at_call 21; refine (joined1_sem 18 _ HA.out (below_drew1 (below_alloc (Below.refl _ _) _)) ((blk_cell (blk_new _ _) 0).trans rfl) (by (repeat (first | exact List.Mem.head _ | refine List.Mem.tail _ ?_))) (by have := Gf.out.2.1; have := Gg.out.2.1; (try simp only [Tm.size]); omega)).mono ?_; rintro e wj ⟨Bj, nj, ej, rfl, hj, hbj⟩; have z0 := hj.c0; have z1 := hj.c1'; replace RW := Aside0.mk (RW.out.below hbj); replace HA := Aside0.mk hj; clear hj hbj) | (go_at_call 24; refine (moments_sem (t := (.un ⟨18, 0⟩ f)) WO.out HA.out (Below.refl _ _) (HA.out.get (List.Mem.head _)) ⟨(.look 18 _ (by decide) Gf.out.1), (by have := Gf.out.2.1; have := Gf.out.2.2; have := Gg.out.2.1; have := Gg.out.2.2; (try simp only [Tm.size]); omega), (by have := Gf.out.2.1; have := Gf.out.2.2; have := Gg.out.2.1; have := Gg.out.2.2; (try simp [Tm.tempo]); omega)⟩).mono ?_; rintro e wl ⟨gl, cl, rl, rfl, hr, hC, ha, hb⟩; rw [HNN.out] at hC ⊢; have Ol := Aside0.mk hr; replace RW := Aside0.mk ((RW.out.below hb).add hC); have z0 := ha.c0; have z1 := ha.c1'; replace HA := Aside0.mk ha; clear hr hC ha hb)))
  clear y0 y1 hne
  go_wp2_with fail
  have y0 := HA.out.c0
  have y1 := HA.out.c1'
  have hne := World.new_ne _ ⟨gw, 0, none⟩ y0
  go_region_held3 (fun w' => w'.cell? ⟨gw, 0, none⟩ = some (.slice X1 stem.length d1) ∧ w'.cell? ⟨gw, 1, none⟩ = some (.slice X2 loop.length d2)) (go_keep)
    ((first | (go_at_call 21; refine (joined1_sem 14 _ HA.out (below_drew1 (below_alloc (Below.refl _ _) _)) ((blk_cell (blk_new _ _) 0).trans rfl) (by (repeat (first | exact List.Mem.head _ | refine List.Mem.tail _ ?_))) (by have := Gf.out.2.1; have := Gg.out.2.1; (try simp only [Tm.size]); omega)).mono ?_; rintro e wj ⟨Bj, nj, ej, rfl, hj, hbj⟩; have z0 := hj.c0; have z1 := hj.c1'; replace RW := Aside0.mk (RW.out.below hbj); replace HA := Aside0.mk hj; clear hj hbj) | (go_at_call 24; refine (moments_sem (t := (.un ⟨14, 0⟩ f)) WO.out HA.out (Below.refl _ _) (HA.out.get (List.Mem.head _)) ⟨(.look 14 _ (by decide) Gf.out.1), (by have := Gf.out.2.1; have := Gf.out.2.2; have := Gg.out.2.1; have := Gg.out.2.2; (try simp only [Tm.size]); omega), (by have := Gf.out.2.1; have := Gf.out.2.2; have := Gg.out.2.1; have := Gg.out.2.2; (try simp [Tm.tempo]); omega)⟩).mono ?_; rintro e wt ⟨gt, ct, rt, rfl, hr, hC, ha, hb⟩; rw [HNN.out] at hC ⊢; have Ot := Aside0.mk hr; replace RW := Aside0.mk ((RW.out.below hb).add hC); have z0 := ha.c0; have z1 := ha.c1'; replace HA := Aside0.mk ha; clear hr hC ha hb)))
  clear y0 y1 hne
  go_wp2_with fail
  go_loopg [25] NN (fun kq v25 wr => ∃ i : Nat, v25 = .int .i64 i ∧ i + kq = NN ∧ Aside0 (Rws wr NN [(gt, rt), (gl, rl), (go, ro), (gr, rr), (gu, ru), (gb, rb), (ga, ra)]) ∧ Aside0 (Below w.heap.size w wr) ∧ Aside0 (wr.cell? ⟨gw, 0, none⟩ = some (.slice X1 stem.length d1)))
  case atStart => exact ⟨0, rfl, by omega, RW, ⟨HA.out.bel⟩, ⟨HA.out.c0⟩⟩
  case round =>
    clear RW HA
    obtain ⟨i, rfl, hi, HR, HB, HW⟩ := hrel
    by_cases hlt : i < NN
    · have hq := now_eqs (by rw [HNN.out]; exact NL.out.2.2.1) Oa.out Ob.out Ou.out Or.out Oo.out Ol.out Ot.out (i := i) (by rw [HNN.out]; exact hlt)
      rw [HNN.out] at hq
      have hkl : nx NN stem.length i < NN := nx_lt NL.out.2.2.1
      have hnx : nx NN stem.length i = if i + 1 < NN then i + 1 else stem.length := rfl
      obtain ⟨kk, hk⟩ : ∃ kk, nx NN stem.length i = kk := ⟨_, rfl⟩
      rw [hk] at hq hkl hnx
      have HQ := Aside0.mk hq
      have b1 : decide ((i : Int) < (NN : Int)) = true := decide_eq_true (by omega)
      have b2 : ((i : Int) < (NN : Int)) = True := eq_true (by omega)
      have b3 : (0 ≤ (i : Int)) = True := eq_true (by omega)
      have e1 : wrap64 ((i : Int) + 1) = (i : Int) + 1 := by have := NL.out; unfold wrap64; omega
      have kw := HW.out
      have HI := Aside0.mk hi
      have HL := Aside0.mk hlt
      have HKL := Aside0.mk hkl
      have HNX := Aside0.mk hnx
      clear hi hlt hkl hnx hq hk
      go_upto_if 141 with fail
      go_cut [26] (fun v26 wc => v26 = .int .i64 kk ∧ Aside0 (Below wr.heap.size wr wc))
      case first =>
        by_cases hend : i + 1 = NN
        · have hks : kk = stem.length := by rw [HNX.out, if_neg (by omega)]
          have q3 : ((i : Int) + 1 == (NN : Int)) = true := beq_iff_eq.mpr (by omega)
          have HE := Aside0.mk hks
          clear hend hks
          all_goals go_wp2_with fail
          go_meet
          case rel => exact ⟨by rw [HE.out], ⟨by repeat (first | assumption | exact Below.refl _ _ | apply below_drew1 | apply below_alloc | apply pw_below_drewN)⟩⟩
        · have hks : kk = i + 1 := by rw [HNX.out, if_pos (by have := HL.out; omega)]
          have q3 : ((i : Int) + 1 == (NN : Int)) = false := beq_eq_false_iff_ne.mpr (by omega)
          have HE := Aside0.mk hks
          clear hend hks
          all_goals go_wp2_with fail
          go_meet
          case rel => exact ⟨by rw [HE.out, e1]; rfl, ⟨by repeat (first | assumption | exact Below.refl _ _ | apply below_drew1 | apply below_alloc | apply pw_below_drewN)⟩⟩
      case rest =>
        obtain ⟨rfl, HC⟩ := hcut
        clear kw
        have HRc := Aside0.mk (HR.out.below HC.out)
        have HBc := Aside0.mk (below_step HB.out HC.out)
        have HWc := Aside0.mk (pw_cell_below HC.out HW.out)
        have hlt := HL.out
        have hkl := HKL.out
        obtain ⟨eu, er, eo, el, et⟩ := HQ.out
        have cai := HRc.out.get (g := ga) (r := ra) (by (repeat (first | exact List.Mem.head _ | refine List.Mem.tail _ ?_))) hlt
        have cak := HRc.out.get (g := ga) (r := ra) (by (repeat (first | exact List.Mem.head _ | refine List.Mem.tail _ ?_))) hkl
        have cbi := HRc.out.get (g := gb) (r := rb) (by (repeat (first | exact List.Mem.head _ | refine List.Mem.tail _ ?_))) hlt
        have cui := HRc.out.get (g := gu) (r := ru) (by (repeat (first | exact List.Mem.head _ | refine List.Mem.tail _ ?_))) hlt
        have cuk := HRc.out.get (g := gu) (r := ru) (by (repeat (first | exact List.Mem.head _ | refine List.Mem.tail _ ?_))) hkl
        have cri := HRc.out.get (g := gr) (r := rr) (by (repeat (first | exact List.Mem.head _ | refine List.Mem.tail _ ?_))) hlt
        have crk := HRc.out.get (g := gr) (r := rr) (by (repeat (first | exact List.Mem.head _ | refine List.Mem.tail _ ?_))) hkl
        have coi := HRc.out.get (g := go) (r := ro) (by (repeat (first | exact List.Mem.head _ | refine List.Mem.tail _ ?_))) hlt
        have cok := HRc.out.get (g := go) (r := ro) (by (repeat (first | exact List.Mem.head _ | refine List.Mem.tail _ ?_))) hkl
        have cli := HRc.out.get (g := gl) (r := rl) (by (repeat (first | exact List.Mem.head _ | refine List.Mem.tail _ ?_))) hlt
        have clk := HRc.out.get (g := gl) (r := rl) (by (repeat (first | exact List.Mem.head _ | refine List.Mem.tail _ ?_))) hkl
        have cti := HRc.out.get (g := gt) (r := rt) (by (repeat (first | exact List.Mem.head _ | refine List.Mem.tail _ ?_))) hlt
        rw [eu] at cui
        rw [er] at cri
        rw [eo] at coi
        rw [el] at cli
        rw [et] at cti
        generalize gd ra i = xa at cai cui cri coi cli
        generalize gd rb i = xb at cbi cui cri
        generalize gd ra kk = ya at cak cti
        generalize gd ru kk = yu at cuk cui
        generalize gd rr kk = yr at crk cri
        generalize gd ro kk = yo at cok coi
        generalize gd rl kk = yl at clk cli
        have b4 : (0 ≤ (kk : Int)) = True := eq_true (by omega)
        have b5 : ((kk : Int) < (NN : Int)) = True := eq_true (by omega)
        have hbne : ∀ z : Bool, (z != z) = false := fun z => bne_self_eq_false z
        clear eu er eo el et hlt hkl
        go_upto_region 20 with fail
        cases xa
        ·
          cases xb
          · as_aux_lemma =>
            simp only [Bool.false_or, Bool.true_or, Bool.false_and, Bool.true_and, Bool.or_false, Bool.or_true, Bool.and_false, Bool.and_true] at cui cri coi cli
            refine start_ (n := 89) (S := fun w' => w'.cell? ⟨ga, i, none⟩ = some (.bool false) ∧ w'.cell? ⟨ga, kk, none⟩ = some (.bool ya) ∧ w'.cell? ⟨gb, i, none⟩ = some (.bool false) ∧ w'.cell? ⟨gu, i, none⟩ = some (.bool false) ∧ w'.cell? ⟨gu, kk, none⟩ = some (.bool yu) ∧ w'.cell? ⟨gr, i, none⟩ = some (.bool false) ∧ w'.cell? ⟨gr, kk, none⟩ = some (.bool yr) ∧ w'.cell? ⟨go, i, none⟩ = some (.bool yo) ∧ w'.cell? ⟨go, kk, none⟩ = some (.bool yo) ∧ w'.cell? ⟨gl, i, none⟩ = some (.bool false) ∧ w'.cell? ⟨gl, kk, none⟩ = some (.bool yl) ∧ w'.cell? ⟨gt, i, none⟩ = some (.bool ya)) (ds := []) (bl 89 0) (by kernel_rfl) rfl (by kernel_rfl) ⟨cai, cak, cbi, cui, cuk, cri, crk, coi, cok, cli, clk, cti⟩ (fun hHeld => ?_)
            refine with_tabW foretellkeep_WordNow.tab20 foretellkeep_WordNow.bits20 (fun HT_ HW_ => ?_)
            refine puQ 0 (some 145) (bl 89 1) ?_
            refine puQ 1 (some 146) (bl 89 3) ?_
            refine puQ 2 (some 147) (bl 89 7) ?_
            refine taQ 3 (some 148) (bl 89 15) hHeld ?_
            refine puQ 4 (some 149) (bl 89 31) ?_
            refine puQ 5 (some 150) (bl 89 63) ?_
            refine puQ 6 (some 151) (bl 89 127) ?_
            refine taQ 7 (some 152) (bl 89 255) hHeld ?_
            refine puQ 8 (some 153) (bl 89 511) ?_
            refine puQ 9 (some 154) (bl 89 1023) ?_
            refine puQ 10 (some 155) (bl 89 2047) ?_
            refine puQ 11 (some 156) (bl 89 4095) ?_
            refine taQ 12 (some 157) (bl 89 8191) hHeld ?_
            refine puQ 13 (some 158) (bl 89 16383) ?_
            refine puN 14 (some 159) (bl 89 32767) ?_
            refine puN 15 (some 160) (bl 89 65535) ?_
            refine puN 16 (some 161) (bl 89 131071) ?_
            refine puN 17 (some 162) (bl 89 262143) ?_
            refine puQ 18 (some 163) (bl 89 524287) ?_
            refine puQ 19 (some 164) (bl 89 1048575) ?_
            refine puQ 20 (some 165) (bl 89 2097151) ?_
            refine puQ 21 (some 166) (bl 89 4194303) ?_
            refine puQ 22 (some 167) (bl 89 8388607) ?_
            refine puQ 23 (some 168) (bl 89 16777215) ?_
            refine puQ 24 (some 169) (bl 89 33554431) ?_
            refine taQ 25 (some 170) (bl 89 67108863) hHeld ?_
            refine puQ 26 (some 171) (bl 89 134217727) ?_
            refine puQ 27 (some 172) (bl 89 268435455) ?_
            refine puQ 28 (some 173) (bl 89 536870911) ?_
            refine taQ 29 (some 174) (bl 89 1073741823) hHeld ?_
            refine puQ 30 (some 175) (bl 89 2147483647) ?_
            refine puN 31 (some 176) (bl 89 4294967295) ?_
            refine puN 32 (some 177) (bl 89 8589934591) ?_
            refine puN 33 (some 178) (bl 89 17179869183) ?_
            refine puN 34 (some 179) (bl 89 34359738367) ?_
            refine puN 35 (some 180) (bl 89 68719476735) ?_
            refine puN 36 (some 181) (bl 89 137438953471) ?_
            refine puN 37 (some 182) (bl 89 274877906943) ?_
            refine puN 38 (some 183) (bl 89 549755813887) ?_
            refine puN 39 (some 184) (bl 89 1099511627775) ?_
            refine puN 40 (some 185) (bl 89 2199023255551) ?_
            refine puQ 41 (some 186) (bl 89 4398046511103) ?_
            refine puQ 42 (some 187) (bl 89 8796093022207) ?_
            refine puQ 43 (some 188) (bl 89 17592186044415) ?_
            refine puQ 44 (some 189) (bl 89 35184372088831) ?_
            refine puQ 45 (some 190) (bl 89 70368744177663) ?_
            refine puQ 46 (some 191) (bl 89 140737488355327) ?_
            refine puQ 47 (some 192) (bl 89 281474976710655) ?_
            refine taQ 48 (some 193) (bl 89 562949953421311) hHeld ?_
            refine puQ 49 (some 194) (bl 89 1125899906842623) ?_
            refine puQ 50 (some 195) (bl 89 2251799813685247) ?_
            refine puQ 51 (some 196) (bl 89 4503599627370495) ?_
            refine taQ 52 (some 197) (bl 89 9007199254740991) hHeld ?_
            refine puQ 53 (some 198) (bl 89 18014398509481983) ?_
            refine puQ 54 (some 199) (bl 89 36028797018963967) ?_
            refine puQ 55 (some 200) (bl 89 72057594037927935) ?_
            refine puQ 56 (some 201) (bl 89 144115188075855871) ?_
            refine taQ 57 (some 202) (bl 89 288230376151711743) hHeld ?_
            refine puQ 58 (some 203) (bl 89 576460752303423487) ?_
            refine puQ 59 (some 204) (bl 89 1152921504606846975) ?_
            refine puQ 60 (some 205) (bl 89 2305843009213693951) ?_
            refine puQ 61 (some 206) (bl 89 4611686018427387903) ?_
            refine puQ 62 (some 207) (bl 89 9223372036854775807) ?_
            refine puQ 63 (some 208) (bl 89 18446744073709551615) ?_
            refine puQ 64 (some 209) (bl 89 36893488147419103231) ?_
            refine taQ 65 (some 210) (bl 89 73786976294838206463) hHeld ?_
            refine puQ 66 (some 211) (bl 89 147573952589676412927) ?_
            refine puQ 67 (some 212) (bl 89 295147905179352825855) ?_
            refine puQ 68 (some 213) (bl 89 590295810358705651711) ?_
            refine taQ 69 (some 214) (bl 89 1180591620717411303423) hHeld ?_
            refine puQ 70 (some 215) (bl 89 2361183241434822606847) ?_
            refine puN 71 (some 216) (bl 89 4722366482869645213695) ?_
            refine puN 72 (some 217) (bl 89 9444732965739290427391) ?_
            refine puN 73 (some 218) (bl 89 18889465931478580854783) ?_
            refine puN 74 (some 219) (bl 89 37778931862957161709567) ?_
            refine puQ 75 (some 220) (bl 89 75557863725914323419135) ?_
            refine puQ 76 (some 221) (bl 89 151115727451828646838271) ?_
            refine puQ 77 (some 222) (bl 89 302231454903657293676543) ?_
            refine puQ 78 (some 223) (bl 89 604462909807314587353087) ?_
            refine puQ 79 (some 224) (bl 89 1208925819614629174706175) ?_
            refine puQ 80 (some 225) (bl 89 2417851639229258349412351) ?_
            refine puQ 81 (some 226) (bl 89 4835703278458516698824703) ?_
            refine taQ 82 (some 227) (bl 89 9671406556917033397649407) hHeld ?_
            refine puQ 83 (some 228) (bl 89 19342813113834066795298815) ?_
            refine puQ 84 (some 229) (bl 89 38685626227668133590597631) ?_
            refine puQ 85 (some 230) (bl 89 77371252455336267181195263) ?_
            refine taQ 86 (some 231) (bl 89 154742504910672534362390527) hHeld ?_
            refine puQ 87 (some 232) (bl 89 309485009821345068724781055) ?_
            refine puQ 88 (some 233) (bl 89 618970019642690137449562111) ?_
            refine done_ (done_of HT_.out (by kernel_rfl)) ?_
            all_goals go_wp2_with fail
            all_goals go_roundg (NN - (i + 1))
            all_goals try (have := HI.out; have := HL.out; omega)
            all_goals exact ⟨i + 1, by first | exact congrArg (Value.int .i64) e1 | (rw [e1]; rfl), by have := HI.out; have := HL.out; omega, by first | exact ⟨HRc.out⟩ | exact ⟨HRc.out.below (below_drew (Below.refl _ _))⟩, by first | exact ⟨HBc.out⟩ | exact ⟨below_step HBc.out (below_drew (Below.refl _ _))⟩, by first | exact ⟨HWc.out⟩ | exact ⟨pw_cell_below (below_drew (Below.refl _ _)) HWc.out⟩⟩
          · as_aux_lemma =>
            simp only [Bool.false_or, Bool.true_or, Bool.false_and, Bool.true_and, Bool.or_false, Bool.or_true, Bool.and_false, Bool.and_true] at cui cri coi cli
            refine start_ (n := 89) (S := fun w' => w'.cell? ⟨ga, i, none⟩ = some (.bool false) ∧ w'.cell? ⟨ga, kk, none⟩ = some (.bool ya) ∧ w'.cell? ⟨gb, i, none⟩ = some (.bool true) ∧ w'.cell? ⟨gu, i, none⟩ = some (.bool true) ∧ w'.cell? ⟨gu, kk, none⟩ = some (.bool yu) ∧ w'.cell? ⟨gr, i, none⟩ = some (.bool yr) ∧ w'.cell? ⟨gr, kk, none⟩ = some (.bool yr) ∧ w'.cell? ⟨go, i, none⟩ = some (.bool yo) ∧ w'.cell? ⟨go, kk, none⟩ = some (.bool yo) ∧ w'.cell? ⟨gl, i, none⟩ = some (.bool false) ∧ w'.cell? ⟨gl, kk, none⟩ = some (.bool yl) ∧ w'.cell? ⟨gt, i, none⟩ = some (.bool ya)) (ds := []) (bl 89 0) (by kernel_rfl) rfl (by kernel_rfl) ⟨cai, cak, cbi, cui, cuk, cri, crk, coi, cok, cli, clk, cti⟩ (fun hHeld => ?_)
            refine with_tabW foretellkeep_WordNow.tab20 foretellkeep_WordNow.bits20 (fun HT_ HW_ => ?_)
            refine puQ 0 (some 145) (bl 89 1) ?_
            refine puQ 1 (some 146) (bl 89 3) ?_
            refine puQ 2 (some 147) (bl 89 7) ?_
            refine taQ 3 (some 148) (bl 89 15) hHeld ?_
            refine puQ 4 (some 149) (bl 89 31) ?_
            refine puQ 5 (some 150) (bl 89 63) ?_
            refine puQ 6 (some 151) (bl 89 127) ?_
            refine taQ 7 (some 152) (bl 89 255) hHeld ?_
            refine puQ 8 (some 153) (bl 89 511) ?_
            refine puN 9 (some 154) (bl 89 1023) ?_
            refine puN 10 (some 155) (bl 89 2047) ?_
            refine puN 11 (some 156) (bl 89 4095) ?_
            refine puN 12 (some 157) (bl 89 8191) ?_
            refine puN 13 (some 158) (bl 89 16383) ?_
            refine puN 14 (some 159) (bl 89 32767) ?_
            refine puN 15 (some 160) (bl 89 65535) ?_
            refine puN 16 (some 161) (bl 89 131071) ?_
            refine puN 17 (some 162) (bl 89 262143) ?_
            refine puN 18 (some 163) (bl 89 524287) ?_
            refine puQ 19 (some 164) (bl 89 1048575) ?_
            refine puQ 20 (some 165) (bl 89 2097151) ?_
            refine puQ 21 (some 166) (bl 89 4194303) ?_
            refine puQ 22 (some 167) (bl 89 8388607) ?_
            refine puQ 23 (some 168) (bl 89 16777215) ?_
            refine puQ 24 (some 169) (bl 89 33554431) ?_
            refine taQ 25 (some 170) (bl 89 67108863) hHeld ?_
            refine puQ 26 (some 171) (bl 89 134217727) ?_
            refine puQ 27 (some 172) (bl 89 268435455) ?_
            refine puQ 28 (some 173) (bl 89 536870911) ?_
            refine taQ 29 (some 174) (bl 89 1073741823) hHeld ?_
            refine puQ 30 (some 175) (bl 89 2147483647) ?_
            refine puQ 31 (some 176) (bl 89 4294967295) ?_
            refine puQ 32 (some 177) (bl 89 8589934591) ?_
            refine puQ 33 (some 178) (bl 89 17179869183) ?_
            refine taQ 34 (some 179) (bl 89 34359738367) hHeld ?_
            refine puQ 35 (some 180) (bl 89 68719476735) ?_
            refine puQ 36 (some 181) (bl 89 137438953471) ?_
            refine puQ 37 (some 182) (bl 89 274877906943) ?_
            refine puQ 38 (some 183) (bl 89 549755813887) ?_
            refine taQ 39 (some 184) (bl 89 1099511627775) hHeld ?_
            refine puQ 40 (some 185) (bl 89 2199023255551) ?_
            refine puQ 41 (some 186) (bl 89 4398046511103) ?_
            refine puQ 42 (some 187) (bl 89 8796093022207) ?_
            refine puQ 43 (some 188) (bl 89 17592186044415) ?_
            refine puQ 44 (some 189) (bl 89 35184372088831) ?_
            refine puQ 45 (some 190) (bl 89 70368744177663) ?_
            refine puQ 46 (some 191) (bl 89 140737488355327) ?_
            refine puQ 47 (some 192) (bl 89 281474976710655) ?_
            refine taQ 48 (some 193) (bl 89 562949953421311) hHeld ?_
            refine puQ 49 (some 194) (bl 89 1125899906842623) ?_
            refine puQ 50 (some 195) (bl 89 2251799813685247) ?_
            refine puQ 51 (some 196) (bl 89 4503599627370495) ?_
            refine taQ 52 (some 197) (bl 89 9007199254740991) hHeld ?_
            refine puQ 53 (some 198) (bl 89 18014398509481983) ?_
            refine puQ 54 (some 199) (bl 89 36028797018963967) ?_
            refine puQ 55 (some 200) (bl 89 72057594037927935) ?_
            refine puQ 56 (some 201) (bl 89 144115188075855871) ?_
            refine taQ 57 (some 202) (bl 89 288230376151711743) hHeld ?_
            refine puQ 58 (some 203) (bl 89 576460752303423487) ?_
            refine puQ 59 (some 204) (bl 89 1152921504606846975) ?_
            refine puQ 60 (some 205) (bl 89 2305843009213693951) ?_
            refine puQ 61 (some 206) (bl 89 4611686018427387903) ?_
            refine puQ 62 (some 207) (bl 89 9223372036854775807) ?_
            refine puQ 63 (some 208) (bl 89 18446744073709551615) ?_
            refine puQ 64 (some 209) (bl 89 36893488147419103231) ?_
            refine taQ 65 (some 210) (bl 89 73786976294838206463) hHeld ?_
            refine puQ 66 (some 211) (bl 89 147573952589676412927) ?_
            refine puQ 67 (some 212) (bl 89 295147905179352825855) ?_
            refine puQ 68 (some 213) (bl 89 590295810358705651711) ?_
            refine taQ 69 (some 214) (bl 89 1180591620717411303423) hHeld ?_
            refine puQ 70 (some 215) (bl 89 2361183241434822606847) ?_
            refine puN 71 (some 216) (bl 89 4722366482869645213695) ?_
            refine puN 72 (some 217) (bl 89 9444732965739290427391) ?_
            refine puN 73 (some 218) (bl 89 18889465931478580854783) ?_
            refine puN 74 (some 219) (bl 89 37778931862957161709567) ?_
            refine puQ 75 (some 220) (bl 89 75557863725914323419135) ?_
            refine puQ 76 (some 221) (bl 89 151115727451828646838271) ?_
            refine puQ 77 (some 222) (bl 89 302231454903657293676543) ?_
            refine puQ 78 (some 223) (bl 89 604462909807314587353087) ?_
            refine puQ 79 (some 224) (bl 89 1208925819614629174706175) ?_
            refine puQ 80 (some 225) (bl 89 2417851639229258349412351) ?_
            refine puQ 81 (some 226) (bl 89 4835703278458516698824703) ?_
            refine taQ 82 (some 227) (bl 89 9671406556917033397649407) hHeld ?_
            refine puQ 83 (some 228) (bl 89 19342813113834066795298815) ?_
            refine puQ 84 (some 229) (bl 89 38685626227668133590597631) ?_
            refine puQ 85 (some 230) (bl 89 77371252455336267181195263) ?_
            refine taQ 86 (some 231) (bl 89 154742504910672534362390527) hHeld ?_
            refine puQ 87 (some 232) (bl 89 309485009821345068724781055) ?_
            refine puQ 88 (some 233) (bl 89 618970019642690137449562111) ?_
            refine done_ (done_of HT_.out (by kernel_rfl)) ?_
            all_goals cases yo
            all_goals go_wp2_with fail
            all_goals go_roundg (NN - (i + 1))
            all_goals try (have := HI.out; have := HL.out; omega)
            all_goals exact ⟨i + 1, by first | exact congrArg (Value.int .i64) e1 | (rw [e1]; rfl), by have := HI.out; have := HL.out; omega, by first | exact ⟨HRc.out⟩ | exact ⟨HRc.out.below (below_drew (Below.refl _ _))⟩, by first | exact ⟨HBc.out⟩ | exact ⟨below_step HBc.out (below_drew (Below.refl _ _))⟩, by first | exact ⟨HWc.out⟩ | exact ⟨pw_cell_below (below_drew (Below.refl _ _)) HWc.out⟩⟩
        ·
          cases xb
          · as_aux_lemma =>
            simp only [Bool.false_or, Bool.true_or, Bool.false_and, Bool.true_and, Bool.or_false, Bool.or_true, Bool.and_false, Bool.and_true] at cui cri coi cli
            refine start_ (n := 89) (S := fun w' => w'.cell? ⟨ga, i, none⟩ = some (.bool true) ∧ w'.cell? ⟨ga, kk, none⟩ = some (.bool ya) ∧ w'.cell? ⟨gb, i, none⟩ = some (.bool false) ∧ w'.cell? ⟨gu, i, none⟩ = some (.bool yu) ∧ w'.cell? ⟨gu, kk, none⟩ = some (.bool yu) ∧ w'.cell? ⟨gr, i, none⟩ = some (.bool false) ∧ w'.cell? ⟨gr, kk, none⟩ = some (.bool yr) ∧ w'.cell? ⟨go, i, none⟩ = some (.bool true) ∧ w'.cell? ⟨go, kk, none⟩ = some (.bool yo) ∧ w'.cell? ⟨gl, i, none⟩ = some (.bool yl) ∧ w'.cell? ⟨gl, kk, none⟩ = some (.bool yl) ∧ w'.cell? ⟨gt, i, none⟩ = some (.bool ya)) (ds := []) (bl 89 0) (by kernel_rfl) rfl (by kernel_rfl) ⟨cai, cak, cbi, cui, cuk, cri, crk, coi, cok, cli, clk, cti⟩ (fun hHeld => ?_)
            refine with_tabW foretellkeep_WordNow.tab20 foretellkeep_WordNow.bits20 (fun HT_ HW_ => ?_)
            refine puQ 0 (some 145) (bl 89 1) ?_
            refine puQ 1 (some 146) (bl 89 3) ?_
            refine puQ 2 (some 147) (bl 89 7) ?_
            refine taQ 3 (some 148) (bl 89 15) hHeld ?_
            refine puQ 4 (some 149) (bl 89 31) ?_
            refine puQ 5 (some 150) (bl 89 63) ?_
            refine puQ 6 (some 151) (bl 89 127) ?_
            refine taQ 7 (some 152) (bl 89 255) hHeld ?_
            refine puQ 8 (some 153) (bl 89 511) ?_
            refine puQ 9 (some 154) (bl 89 1023) ?_
            refine puQ 10 (some 155) (bl 89 2047) ?_
            refine puQ 11 (some 156) (bl 89 4095) ?_
            refine taQ 12 (some 157) (bl 89 8191) hHeld ?_
            refine puQ 13 (some 158) (bl 89 16383) ?_
            refine puQ 14 (some 159) (bl 89 32767) ?_
            refine puQ 15 (some 160) (bl 89 65535) ?_
            refine puQ 16 (some 161) (bl 89 131071) ?_
            refine taQ 17 (some 162) (bl 89 262143) hHeld ?_
            refine puQ 18 (some 163) (bl 89 524287) ?_
            refine puQ 19 (some 164) (bl 89 1048575) ?_
            refine puQ 20 (some 165) (bl 89 2097151) ?_
            refine puQ 21 (some 166) (bl 89 4194303) ?_
            refine puQ 22 (some 167) (bl 89 8388607) ?_
            refine puQ 23 (some 168) (bl 89 16777215) ?_
            refine puQ 24 (some 169) (bl 89 33554431) ?_
            refine taQ 25 (some 170) (bl 89 67108863) hHeld ?_
            refine puQ 26 (some 171) (bl 89 134217727) ?_
            refine puQ 27 (some 172) (bl 89 268435455) ?_
            refine puQ 28 (some 173) (bl 89 536870911) ?_
            refine taQ 29 (some 174) (bl 89 1073741823) hHeld ?_
            refine puQ 30 (some 175) (bl 89 2147483647) ?_
            refine puN 31 (some 176) (bl 89 4294967295) ?_
            refine puN 32 (some 177) (bl 89 8589934591) ?_
            refine puN 33 (some 178) (bl 89 17179869183) ?_
            refine puN 34 (some 179) (bl 89 34359738367) ?_
            refine puN 35 (some 180) (bl 89 68719476735) ?_
            refine puN 36 (some 181) (bl 89 137438953471) ?_
            refine puN 37 (some 182) (bl 89 274877906943) ?_
            refine puN 38 (some 183) (bl 89 549755813887) ?_
            refine puN 39 (some 184) (bl 89 1099511627775) ?_
            refine puN 40 (some 185) (bl 89 2199023255551) ?_
            refine puQ 41 (some 186) (bl 89 4398046511103) ?_
            refine puQ 42 (some 187) (bl 89 8796093022207) ?_
            refine puQ 43 (some 188) (bl 89 17592186044415) ?_
            refine puQ 44 (some 189) (bl 89 35184372088831) ?_
            refine puQ 45 (some 190) (bl 89 70368744177663) ?_
            refine puQ 46 (some 191) (bl 89 140737488355327) ?_
            refine puQ 47 (some 192) (bl 89 281474976710655) ?_
            refine taQ 48 (some 193) (bl 89 562949953421311) hHeld ?_
            refine puQ 49 (some 194) (bl 89 1125899906842623) ?_
            refine puQ 50 (some 195) (bl 89 2251799813685247) ?_
            refine puQ 51 (some 196) (bl 89 4503599627370495) ?_
            refine taQ 52 (some 197) (bl 89 9007199254740991) hHeld ?_
            refine puQ 53 (some 198) (bl 89 18014398509481983) ?_
            refine puN 54 (some 199) (bl 89 36028797018963967) ?_
            refine puN 55 (some 200) (bl 89 72057594037927935) ?_
            refine puN 56 (some 201) (bl 89 144115188075855871) ?_
            refine puN 57 (some 202) (bl 89 288230376151711743) ?_
            refine puQ 58 (some 203) (bl 89 576460752303423487) ?_
            refine puQ 59 (some 204) (bl 89 1152921504606846975) ?_
            refine puQ 60 (some 205) (bl 89 2305843009213693951) ?_
            refine puQ 61 (some 206) (bl 89 4611686018427387903) ?_
            refine puQ 62 (some 207) (bl 89 9223372036854775807) ?_
            refine puQ 63 (some 208) (bl 89 18446744073709551615) ?_
            refine puQ 64 (some 209) (bl 89 36893488147419103231) ?_
            refine taQ 65 (some 210) (bl 89 73786976294838206463) hHeld ?_
            refine puQ 66 (some 211) (bl 89 147573952589676412927) ?_
            refine puQ 67 (some 212) (bl 89 295147905179352825855) ?_
            refine puQ 68 (some 213) (bl 89 590295810358705651711) ?_
            refine taQ 69 (some 214) (bl 89 1180591620717411303423) hHeld ?_
            refine puQ 70 (some 215) (bl 89 2361183241434822606847) ?_
            refine puQ 71 (some 216) (bl 89 4722366482869645213695) ?_
            refine puQ 72 (some 217) (bl 89 9444732965739290427391) ?_
            refine puQ 73 (some 218) (bl 89 18889465931478580854783) ?_
            refine taQ 74 (some 219) (bl 89 37778931862957161709567) hHeld ?_
            refine puQ 75 (some 220) (bl 89 75557863725914323419135) ?_
            refine puQ 76 (some 221) (bl 89 151115727451828646838271) ?_
            refine puQ 77 (some 222) (bl 89 302231454903657293676543) ?_
            refine puQ 78 (some 223) (bl 89 604462909807314587353087) ?_
            refine puQ 79 (some 224) (bl 89 1208925819614629174706175) ?_
            refine puQ 80 (some 225) (bl 89 2417851639229258349412351) ?_
            refine puQ 81 (some 226) (bl 89 4835703278458516698824703) ?_
            refine taQ 82 (some 227) (bl 89 9671406556917033397649407) hHeld ?_
            refine puQ 83 (some 228) (bl 89 19342813113834066795298815) ?_
            refine puQ 84 (some 229) (bl 89 38685626227668133590597631) ?_
            refine puQ 85 (some 230) (bl 89 77371252455336267181195263) ?_
            refine taQ 86 (some 231) (bl 89 154742504910672534362390527) hHeld ?_
            refine puQ 87 (some 232) (bl 89 309485009821345068724781055) ?_
            refine puQ 88 (some 233) (bl 89 618970019642690137449562111) ?_
            refine done_ (done_of HT_.out (by kernel_rfl)) ?_
            all_goals cases yu
            all_goals cases yl
            all_goals go_wp2_with fail
            all_goals go_roundg (NN - (i + 1))
            all_goals try (have := HI.out; have := HL.out; omega)
            all_goals exact ⟨i + 1, by first | exact congrArg (Value.int .i64) e1 | (rw [e1]; rfl), by have := HI.out; have := HL.out; omega, by first | exact ⟨HRc.out⟩ | exact ⟨HRc.out.below (below_drew (Below.refl _ _))⟩, by first | exact ⟨HBc.out⟩ | exact ⟨below_step HBc.out (below_drew (Below.refl _ _))⟩, by first | exact ⟨HWc.out⟩ | exact ⟨pw_cell_below (below_drew (Below.refl _ _)) HWc.out⟩⟩
          · as_aux_lemma =>
            simp only [Bool.false_or, Bool.true_or, Bool.false_and, Bool.true_and, Bool.or_false, Bool.or_true, Bool.and_false, Bool.and_true] at cui cri coi cli
            refine start_ (n := 89) (S := fun w' => w'.cell? ⟨ga, i, none⟩ = some (.bool true) ∧ w'.cell? ⟨ga, kk, none⟩ = some (.bool ya) ∧ w'.cell? ⟨gb, i, none⟩ = some (.bool true) ∧ w'.cell? ⟨gu, i, none⟩ = some (.bool true) ∧ w'.cell? ⟨gu, kk, none⟩ = some (.bool yu) ∧ w'.cell? ⟨gr, i, none⟩ = some (.bool true) ∧ w'.cell? ⟨gr, kk, none⟩ = some (.bool yr) ∧ w'.cell? ⟨go, i, none⟩ = some (.bool true) ∧ w'.cell? ⟨go, kk, none⟩ = some (.bool yo) ∧ w'.cell? ⟨gl, i, none⟩ = some (.bool yl) ∧ w'.cell? ⟨gl, kk, none⟩ = some (.bool yl) ∧ w'.cell? ⟨gt, i, none⟩ = some (.bool ya)) (ds := []) (bl 89 0) (by kernel_rfl) rfl (by kernel_rfl) ⟨cai, cak, cbi, cui, cuk, cri, crk, coi, cok, cli, clk, cti⟩ (fun hHeld => ?_)
            refine with_tabW foretellkeep_WordNow.tab20 foretellkeep_WordNow.bits20 (fun HT_ HW_ => ?_)
            refine puQ 0 (some 145) (bl 89 1) ?_
            refine puQ 1 (some 146) (bl 89 3) ?_
            refine puQ 2 (some 147) (bl 89 7) ?_
            refine taQ 3 (some 148) (bl 89 15) hHeld ?_
            refine puQ 4 (some 149) (bl 89 31) ?_
            refine puQ 5 (some 150) (bl 89 63) ?_
            refine puQ 6 (some 151) (bl 89 127) ?_
            refine taQ 7 (some 152) (bl 89 255) hHeld ?_
            refine puQ 8 (some 153) (bl 89 511) ?_
            refine puN 9 (some 154) (bl 89 1023) ?_
            refine puN 10 (some 155) (bl 89 2047) ?_
            refine puN 11 (some 156) (bl 89 4095) ?_
            refine puN 12 (some 157) (bl 89 8191) ?_
            refine puN 13 (some 158) (bl 89 16383) ?_
            refine puN 14 (some 159) (bl 89 32767) ?_
            refine puN 15 (some 160) (bl 89 65535) ?_
            refine puN 16 (some 161) (bl 89 131071) ?_
            refine puN 17 (some 162) (bl 89 262143) ?_
            refine puN 18 (some 163) (bl 89 524287) ?_
            refine puQ 19 (some 164) (bl 89 1048575) ?_
            refine puQ 20 (some 165) (bl 89 2097151) ?_
            refine puQ 21 (some 166) (bl 89 4194303) ?_
            refine puQ 22 (some 167) (bl 89 8388607) ?_
            refine puQ 23 (some 168) (bl 89 16777215) ?_
            refine puQ 24 (some 169) (bl 89 33554431) ?_
            refine taQ 25 (some 170) (bl 89 67108863) hHeld ?_
            refine puQ 26 (some 171) (bl 89 134217727) ?_
            refine puQ 27 (some 172) (bl 89 268435455) ?_
            refine puQ 28 (some 173) (bl 89 536870911) ?_
            refine taQ 29 (some 174) (bl 89 1073741823) hHeld ?_
            refine puQ 30 (some 175) (bl 89 2147483647) ?_
            refine puQ 31 (some 176) (bl 89 4294967295) ?_
            refine puQ 32 (some 177) (bl 89 8589934591) ?_
            refine puQ 33 (some 178) (bl 89 17179869183) ?_
            refine taQ 34 (some 179) (bl 89 34359738367) hHeld ?_
            refine puQ 35 (some 180) (bl 89 68719476735) ?_
            refine puN 36 (some 181) (bl 89 137438953471) ?_
            refine puN 37 (some 182) (bl 89 274877906943) ?_
            refine puN 38 (some 183) (bl 89 549755813887) ?_
            refine puN 39 (some 184) (bl 89 1099511627775) ?_
            refine puQ 40 (some 185) (bl 89 2199023255551) ?_
            refine puQ 41 (some 186) (bl 89 4398046511103) ?_
            refine puQ 42 (some 187) (bl 89 8796093022207) ?_
            refine puQ 43 (some 188) (bl 89 17592186044415) ?_
            refine puQ 44 (some 189) (bl 89 35184372088831) ?_
            refine puQ 45 (some 190) (bl 89 70368744177663) ?_
            refine puQ 46 (some 191) (bl 89 140737488355327) ?_
            refine puQ 47 (some 192) (bl 89 281474976710655) ?_
            refine taQ 48 (some 193) (bl 89 562949953421311) hHeld ?_
            refine puQ 49 (some 194) (bl 89 1125899906842623) ?_
            refine puQ 50 (some 195) (bl 89 2251799813685247) ?_
            refine puQ 51 (some 196) (bl 89 4503599627370495) ?_
            refine taQ 52 (some 197) (bl 89 9007199254740991) hHeld ?_
            refine puQ 53 (some 198) (bl 89 18014398509481983) ?_
            refine puN 54 (some 199) (bl 89 36028797018963967) ?_
            refine puN 55 (some 200) (bl 89 72057594037927935) ?_
            refine puN 56 (some 201) (bl 89 144115188075855871) ?_
            refine puN 57 (some 202) (bl 89 288230376151711743) ?_
            refine puQ 58 (some 203) (bl 89 576460752303423487) ?_
            refine puQ 59 (some 204) (bl 89 1152921504606846975) ?_
            refine puQ 60 (some 205) (bl 89 2305843009213693951) ?_
            refine puQ 61 (some 206) (bl 89 4611686018427387903) ?_
            refine puQ 62 (some 207) (bl 89 9223372036854775807) ?_
            refine puQ 63 (some 208) (bl 89 18446744073709551615) ?_
            refine puQ 64 (some 209) (bl 89 36893488147419103231) ?_
            refine taQ 65 (some 210) (bl 89 73786976294838206463) hHeld ?_
            refine puQ 66 (some 211) (bl 89 147573952589676412927) ?_
            refine puQ 67 (some 212) (bl 89 295147905179352825855) ?_
            refine puQ 68 (some 213) (bl 89 590295810358705651711) ?_
            refine taQ 69 (some 214) (bl 89 1180591620717411303423) hHeld ?_
            refine puQ 70 (some 215) (bl 89 2361183241434822606847) ?_
            refine puQ 71 (some 216) (bl 89 4722366482869645213695) ?_
            refine puQ 72 (some 217) (bl 89 9444732965739290427391) ?_
            refine puQ 73 (some 218) (bl 89 18889465931478580854783) ?_
            refine taQ 74 (some 219) (bl 89 37778931862957161709567) hHeld ?_
            refine puQ 75 (some 220) (bl 89 75557863725914323419135) ?_
            refine puQ 76 (some 221) (bl 89 151115727451828646838271) ?_
            refine puQ 77 (some 222) (bl 89 302231454903657293676543) ?_
            refine puQ 78 (some 223) (bl 89 604462909807314587353087) ?_
            refine puQ 79 (some 224) (bl 89 1208925819614629174706175) ?_
            refine puQ 80 (some 225) (bl 89 2417851639229258349412351) ?_
            refine puQ 81 (some 226) (bl 89 4835703278458516698824703) ?_
            refine taQ 82 (some 227) (bl 89 9671406556917033397649407) hHeld ?_
            refine puQ 83 (some 228) (bl 89 19342813113834066795298815) ?_
            refine puQ 84 (some 229) (bl 89 38685626227668133590597631) ?_
            refine puQ 85 (some 230) (bl 89 77371252455336267181195263) ?_
            refine taQ 86 (some 231) (bl 89 154742504910672534362390527) hHeld ?_
            refine puQ 87 (some 232) (bl 89 309485009821345068724781055) ?_
            refine puQ 88 (some 233) (bl 89 618970019642690137449562111) ?_
            refine done_ (done_of HT_.out (by kernel_rfl)) ?_
            all_goals cases yl
            all_goals go_wp2_with fail
            all_goals go_roundg (NN - (i + 1))
            all_goals try (have := HI.out; have := HL.out; omega)
            all_goals exact ⟨i + 1, by first | exact congrArg (Value.int .i64) e1 | (rw [e1]; rfl), by have := HI.out; have := HL.out; omega, by first | exact ⟨HRc.out⟩ | exact ⟨HRc.out.below (below_drew (Below.refl _ _))⟩, by first | exact ⟨HBc.out⟩ | exact ⟨below_step HBc.out (below_drew (Below.refl _ _))⟩, by first | exact ⟨HWc.out⟩ | exact ⟨pw_cell_below (below_drew (Below.refl _ _)) HWc.out⟩⟩
    · have b1 : decide ((i : Int) < (NN : Int)) = false := decide_eq_false (by omega)
      have b2 : ((i : Int) < (NN : Int)) = False := eq_false (by omega)
      clear hi hlt
      go_wp2_with fail
      go_ret
      exact ⟨rfl, HB.out⟩
end Go.Proofs.YtcoaeefmmnohkaaDoor.P
