-- PACKED by pack.py of this repo: FForetellkeepModelTwice
import Derived.WalkSpells
import Derived.Deep.RegionLaw
import Derived.Deep.RegionHeld3
import Derived.Deep.DrawnRows
import Derived.Test.YteennleoieafiaaDoorK2
import Derived.Test.YteennleoieafiaaDoorK3
import Derived.Test.YteennleoieafiaaDoorK6
import Derived.Test.YteennleoieafiaaDoorK10
section
namespace Go.Proofs.YteennleoieafiaaDoor.P
open Go.RowKit Go.Proofs.YteennleoieafiaaDoorW.PrintWords Go.Proofs.YteennleoieafiaaDoorW.PrintLast Go.Proofs.YteennleoieafiaaDoorW.PrintMore Go.Proofs.YteennleoieafiaaDoor.G
attribute [local go_sem] max2_int min2_int max_two min_two max_three min_three max_four min_four   -- for this text's walks alone
set_option linter.unusedVariables false
set_option linter.unusedSimpArgs false

/-! ### foretellkeep_ModelTwice: function 3 -/
--IMPORT Derived.WalkSpells
--IMPORT Derived.Deep.RegionLaw
--IMPORT Derived.Deep.RegionHeld3
--IMPORT Derived.Deep.DrawnRows
def foretellkeep_ModelTwice.go (k : Nat) (vs : List S32) (rs : List S42) (p : Int) : Option Bool :=
  if 0 ≤ p then (if p < (vs.length : Int) then (if vs.length ≤ 1000 then (if rs.length ≤ 1000 then
    ((foretellkeep_num.f 0).bind fun n0 => (foretellkeep_num.f 1).bind fun n1 =>
      (model_Check.f k vs rs).bind fun e0 => if e0 = 0 then ((model_Check.f k (vs ++ [rd_T32 vs p]) rs).bind fun e1 => if e1 = 7 then ((model_Check.f k vs (rs ++ [⟨[⟨11, 0⟩], [⟨1, n0⟩, ⟨1, n1⟩]⟩])).bind fun e2 => if e2 = 7 then ((model_Check.f k vs (rs ++ [⟨n1, []⟩])).bind fun e3 => if e3 = 5 then some true else none) else none) else none) else none)
    else none) else none) else none) else none
def foretellkeep_ModelTwice.f (k : Nat) (a0_0 : Int) (a0_1 : Int) (a0_2 : Int) (a0_3 : Int) (a0_4 : Int) (a0_5 : Int) (l0_6 : List (S65)) (a1 : Int) : Option (Bool) :=
  (foretellkeep_Model.f k a0_0 a0_1 a0_2 a0_3 a0_4 a0_5 l0_6).bind fun m => (foretellkeep_picked.f a1 2).bind fun p => foretellkeep_ModelTwice.go k m.1 m.2 p
theorem foretellkeep_ModelTwice.mono : ∀ a0 a1 a2 a3 a4 a5 a6 a7 k, LeO (foretellkeep_ModelTwice.f k a0 a1 a2 a3 a4 a5 a6 a7) (foretellkeep_ModelTwice.f (k + 1) a0 a1 a2 a3 a4 a5 a6 a7) := by
  intro a0 a1 a2 a3 a4 a5 a6 a7 k
  unfold foretellkeep_ModelTwice.f
  refine LeO.bind (foretellkeep_Model.mono _ _ _ _ _ _ _ _) (fun _ => LeO.bind (LeO.refl _) (fun _ => ?_))
  unfold foretellkeep_ModelTwice.go
  exact LeO.ite (LeO.ite (LeO.ite (LeO.ite (LeO.bind (LeO.refl _) (fun _ => LeO.bind (LeO.refl _) (fun _ => LeO.bind (model_Check.mono _ _ _) (fun _ => LeO.ite (LeO.bind (model_Check.mono _ _ _) (fun _ => LeO.ite (LeO.bind (model_Check.mono _ _ _) (fun _ => LeO.ite (LeO.bind (model_Check.mono _ _ _) (fun _ => LeO.refl _)) (LeO.none _))) (LeO.none _))) (LeO.none _))))) (LeO.none _)) (LeO.none _)) (LeO.none _)) (LeO.none _)
theorem foretellkeep_ModelTwice.picked (a0 a1 r : Int) (w : World) (h : foretellkeep_picked.f a0 a1 = some r) : Calls Tryd.prog 15 #[.int .i64 a0, .int .i64 a1] w fun e w' => e = .returned (.int .i64 r) ∧ w' = w := by
  have H := h
  unfold foretellkeep_picked.f at H
  clear h
  by_cases c3 : a0 < 0
  · rw [if_pos c3] at H
    have c3b0 : decide (a0 < 0) = true := decide_eq_true c3
    clear c3
    by_cases c4 : a1 = 0
    · rw [if_pos c4] at H
      exact absurd H (by simp)
    · rw [if_neg c4] at H
      have c4b0 : (a1 == 0) = false := beq_eq_false_iff_ne.mpr c4
      have c4b1 : (a1 != 0) = true := bne_iff_ne.mpr c4
      obtain rfl := Option.some.inj H
      go_enter Tryd.func15, Tryd.ntmps15
      go_wp2
      go_ret
      exact ⟨by first | rfl | (simp; done) | (simp [*]; done), rfl⟩
  · rw [if_neg c3] at H
    have c3b0 : decide (a0 < 0) = false := decide_eq_false c3
    clear c3
    by_cases c5 : a1 = 0
    · rw [if_pos c5] at H
      exact absurd H (by simp)
    · rw [if_neg c5] at H
      have c5b0 : (a1 == 0) = false := beq_eq_false_iff_ne.mpr c5
      have c5b1 : (a1 != 0) = true := bne_iff_ne.mpr c5
      obtain rfl := Option.some.inj H
      go_enter Tryd.func15, Tryd.ntmps15
      go_wp2
      go_ret
      exact ⟨by first | rfl | (simp; done) | (simp [*]; done), rfl⟩
def foretellkeep_ModelTwice.T3 : Bool × List (List Nat × List Nat) := (true, [([], []), ([0], [0]), ([1], [1]), ([], []), ([3], [3]), ([], []), ([5, 2], [5]), ([4, 6], [4, 6]), ([7], [7]), ([8], [8]), ([2, 9, 6], [2, 9]), ([0, 1, 2, 3, 4, 5, 6, 7, 8, 9, 10], []), ([11, 10, 10, 0, 1, 2, 3, 4, 5, 6, 7, 8, 9, 10], [10, 11])])
def foretellkeep_ModelTwice.B3 : List Nat := [0, 1, 3, 0, 8, 0, 39, 127, 255, 511, 1023, 2047, 4095]
theorem foretellkeep_ModelTwice.tab3 : rtab .any (opsOf Tryd.f3 3) = foretellkeep_ModelTwice.T3 := by kernel_rfl
theorem foretellkeep_ModelTwice.bits3 : waitsOk foretellkeep_ModelTwice.T3.2 foretellkeep_ModelTwice.B3 = true := by kernel_rfl
set_option maxHeartbeats 8000000 in
set_option maxRecDepth 100000 in
theorem foretellkeep_ModelTwice.calls (k : Nat) (a0_0 : Int) (a0_1 : Int) (a0_2 : Int) (a0_3 : Int) (a0_4 : Int) (a0_5 : Int) (A0_6 : Option Addr) (c0_6 : Nat) (l0_6 : List (S65)) (a1 : Int) (r : Bool) (w : World) (hr0_6 : Kd.C k65 w A0_6 l0_6.length l0_6) (hc0_6 : l0_6.length ≤ c0_6) (hG_ : Glob w) (hr_ : Aside0 (r = true)) (h : foretellkeep_ModelTwice.f k a0_0 a0_1 a0_2 a0_3 a0_4 a0_5 l0_6 a1 = some r) :
    Calls Tryd.prog 3 #[.agg #[.int .i64 a0_0, .int .i64 a0_1, .int .i64 a0_2, .int .i64 a0_3, .int .i64 a0_4, .int .i64 a0_5, .slice A0_6 l0_6.length c0_6], .int .i64 a1] w fun e w' => e = .returned (.bool r) ∧ Below w.heap.size w w' := by
  have infoV := (by kernel_rfl : (Tryd.prog.info? 32).map (fun i => (i.zero, i.size, i.bytes)) = some (some (.agg #[.string ⟨#[]⟩, .int .i64 0, .int .i64 0, .int .i64 0]), 4, 40))
  have infoR := (by kernel_rfl : (Tryd.prog.info? 42).map (fun i => (i.zero, i.size, i.bytes)) = some (some (.agg #[.slice none 0 0, .slice none 0 0]), 2, 48))
  have hu1 := Tryd.underlying25
  have hu2 := Tryd.underlying29
  have hu3 := Tryd.underlying32
  have hu4 := Tryd.underlying42
  have hu5 := Tryd.underlying39
  have hu6 := Tryd.underlying35
  unfold foretellkeep_ModelTwice.f at h
  obtain ⟨⟨vs, rs⟩, hM, h⟩ := Option.bind_eq_some_iff.mp h
  obtain ⟨p, hp, h⟩ := Option.bind_eq_some_iff.mp h
  simp only at h
  unfold foretellkeep_ModelTwice.go at h
  obtain ⟨p0, h⟩ := iN h
  obtain ⟨p1, h⟩ := iN h
  obtain ⟨vl, h⟩ := iN h
  obtain ⟨rl, h⟩ := iN h
  obtain ⟨n0, hn0, h⟩ := Option.bind_eq_some_iff.mp h
  obtain ⟨n1, hn1, h⟩ := Option.bind_eq_some_iff.mp h
  obtain ⟨e0, he0, h⟩ := Option.bind_eq_some_iff.mp h
  obtain ⟨e0_, h⟩ := iN h
  subst e0_
  obtain ⟨e1, he1, h⟩ := Option.bind_eq_some_iff.mp h
  obtain ⟨e1_, h⟩ := iN h
  subst e1_
  obtain ⟨e2, he2, h⟩ := Option.bind_eq_some_iff.mp h
  obtain ⟨e2_, h⟩ := iN h
  subst e2_
  obtain ⟨e3, he3, h⟩ := Option.bind_eq_some_iff.mp h
  obtain ⟨e3_, h⟩ := iN h
  subst e3_
  have HM := Aside0.mk hM
  have HP := Aside0.mk hp
  have P0 := Aside0.mk p0
  have P1 := Aside0.mk p1
  have VL := Aside0.mk vl
  have RLn := Aside0.mk rl
  have HN0 := Aside0.mk hn0
  have HN1 := Aside0.mk hn1
  have HE0 := Aside0.mk he0
  have HE1 := Aside0.mk he1
  have HE2 := Aside0.mk he2
  have HE3 := Aside0.mk he3
  obtain rfl : r = true := hr_.out
  have R6 := Aside0.mk hr0_6
  have L6 := Aside0.mk hc0_6
  have GLB := Aside0.mk hG_
  clear hM hp p0 p1 vl rl hn0 hn1 he0 he1 he2 he3 h hr0_6 hc0_6 hG_
  go_enter Tryd.func3, Tryd.ntmps3
  go_upto_region 3 with (first | ((with_reducible refine gate_dst (N := 2) rfl ?_); go_must (refine box_event ?hg (N := 2) ?hd (cs := #[.int .i64 a0_0, .int .i64 a0_1, .int .i64 a0_2, .int .i64 a0_3, .int .i64 a0_4, .int .i64 a0_5, .slice A0_6 l0_6.length c0_6]) (t := 25) ?hr ?_; (case hd => rfl); (case hg => rfl); (case hr => first | (go_simp; done) | (go_simp; rfl)); intro g2 hg w1 hbox hb; have K2 := Aside0.mk hbox; have B1 := Aside0.mk hb; have hd0 := (blk_cell hbox 0).trans rfl; have hd1 := (blk_cell hbox 1).trans rfl; have hd2 := (blk_cell hbox 2).trans rfl; have hd3 := (blk_cell hbox 3).trans rfl; have hd4 := (blk_cell hbox 4).trans rfl; have hd5 := (blk_cell hbox 5).trans rfl; have hd6 := (blk_cell hbox 6).trans rfl; clear hb hbox hg)) | (go_at_call 14; go_must (refine (foretellkeep_Model.calls k a0_0 a0_1 a0_2 a0_3 a0_4 a0_5 A0_6 c0_6 l0_6 vs rs _ (Kd.C_below R6.out B1.out) L6.out HM.out).mono ?_; rintro e w2 ⟨vv, vr, rfl, rv, rr, hb⟩; obtain ⟨gV, cV, rfl, _, _, _, _⟩ := Kd.R_form rv (by have := P0.out; have := P1.out; omega); obtain ⟨Ar, cR, rfl⟩ := Kd.R_slice rr; have NV := Aside0.mk (Kd.R_N rv); have NR := Aside0.mk (Kd.R_N rr); have B2 := Aside0.mk (below_step B1.out hb); clear rv rr hb hd0 hd1 hd2 hd3 hd4 hd5 hd6 K2)) | ((with_reducible refine gate_dst (N := 5) rfl ?_); go_must (refine box_event ?hg (N := 5) ?hd (cs := #[.slice none 0 0, .slice none 0 0]) (t := 29) ?hr ?_; (case hd => rfl); (case hg => rfl); (case hr => first | (go_simp; done) | (go_simp; rfl)); intro g5 hg w3 hbox hb; have K5 := Aside0.mk hbox; have G5 := Aside0.mk (Nat.le_of_eq hg.symm); have B3 := Aside0.mk hb; have ha0 := (blk_cell hbox 0).trans rfl; have ha1 := (blk_cell hbox 1).trans rfl; have hf0 := blk_frozen hbox 0; have hf1 := blk_frozen hbox 1; clear hb hbox hg)) | ((with_reducible refine gate_store (t := 29) (p := 5) (v := .tmp 10) rfl ?_); go_must (refine store_event (t := 29) (p := 5) (v := .tmp 10) (w1 := ((w3.setCell ⟨g5, 0, none⟩ (.slice (some ⟨gV, 0, none⟩) vs.length cV)).setCell ⟨g5, 1, none⟩ (.slice Ar rs.length cR))) ?hg ?ho ?hn ?hr ?_; (case ho => rfl); (case hg => rfl); (case hn => rfl); (case hr => first | (go_simp; done) | (go_simp; rfl)); intro w4 hw; have K54 := Aside0.mk (show w4.heap[g5]? = some (.cells #[.slice (some ⟨gV, 0, none⟩) vs.length cV, .slice Ar rs.length cR] 29 (0, 0)) from by rw [hw]; exact blk_put (blk_put K5.out 0 _ rfl) 1 _ rfl); have B4 := Aside0.mk (show Below w2.heap.size w2 w4 from by rw [hw]; exact (B3.out.setCell (p := ⟨g5, 0, none⟩) G5.out _).setCell (p := ⟨g5, 1, none⟩) G5.out _); have hq0 : w4.cell? ⟨g5, 0, none⟩ = some (.slice (some ⟨gV, 0, none⟩) vs.length cV) := (blk_cell K54.out 0).trans rfl; have hq1 : w4.cell? ⟨g5, 1, none⟩ = some (.slice Ar rs.length cR) := (blk_cell K54.out 1).trans rfl; clear hw ha0 ha1 hf0 hf1 K5 B3)) | ((with_reducible refine gate_dst (N := 6) rfl ?_); go_must (refine box_event ?hg (N := 6) ?hd (cs := #[.slice none 0 0, .slice none 0 0]) (t := 29) ?hr ?_; (case hd => rfl); (case hg => rfl); (case hr => first | (go_simp; done) | (go_simp; rfl)); intro g6 hg w5 hbox hb; have K6 := Aside0.mk hbox; have G6 := Aside0.mk (Nat.le_of_eq hg.symm); have B5 := Aside0.mk hb; have ha0 := (blk_cell hbox 0).trans rfl; have ha1 := (blk_cell hbox 1).trans rfl; have hf0 := blk_frozen hbox 0; have hf1 := blk_frozen hbox 1; clear hb hbox hg hq0 hq1)) | ((with_reducible refine gate_store (t := 29) (p := 6) (v := .tmp 11) rfl ?_); go_must (refine store_event (t := 29) (p := 6) (v := .tmp 11) (w1 := ((w5.setCell ⟨g6, 0, none⟩ (.slice (some ⟨gV, 0, none⟩) vs.length cV)).setCell ⟨g6, 1, none⟩ (.slice Ar rs.length cR))) ?hg ?ho ?hn ?hr ?_; (case ho => rfl); (case hg => rfl); (case hn => rfl); (case hr => first | (go_simp; done) | (go_simp; rfl)); intro w6 hw; have K66 := Aside0.mk (show w6.heap[g6]? = some (.cells #[.slice (some ⟨gV, 0, none⟩) vs.length cV, .slice Ar rs.length cR] 29 (0, 0)) from by rw [hw]; exact blk_put (blk_put K6.out 0 _ rfl) 1 _ rfl); have B6 := Aside0.mk (show Below w4.heap.size w4 w6 from by rw [hw]; exact (B5.out.setCell (p := ⟨g6, 0, none⟩) G6.out _).setCell (p := ⟨g6, 1, none⟩) G6.out _); clear hw ha0 ha1 hf0 hf1 K6 B5)))
  have B26 := Aside0.mk (below_step B4.out B6.out)
  have K56 := Aside0.mk (blk_below K54.out B6.out)
  have NV6 := Aside0.mk (Kd.N_old NV.out B26.out)
  have NR6 := Aside0.mk (Kd.N_old NR.out B26.out)
  obtain ⟨cx, hcl, hFK, hcc, _⟩ := Kd.N_elem NV6.out z32 p P0.out P1.out
  have hop := k32_open (Kd.FK_now hFK)
  obtain ⟨x, hx⟩ : ∃ x, vs.getD p.toNat z32 = x := ⟨_, rfl⟩
  rw [hx] at hop hFK
  subst hop
  have cv0 := hcc 0 _ rfl
  have cv1 := hcc 1 _ rfl
  have cv2 := hcc 2 _ rfl
  have cv3 := hcc 3 _ rfl
  simp only [show k32.sz = 4 from rfl, Nat.add_zero] at cv0 cv1 cv2 cv3
  have HX := Aside0.mk hx
  have HFX := Aside0.mk (Kd.FK_mono hFK (fun k hk => hk.1))
  have ca0 : w6.cell? ⟨g5, 0, none⟩ = some (.slice (some ⟨gV, 0, none⟩) vs.length cV) := (blk_cell K56.out 0).trans rfl
  have GL6 := Aside0.mk (blk_lt K66.out)
  have q0 := eq_true P0.out
  have q1 := eq_true P1.out
  have FV6 := Aside0.mk (Kd.N_F NV6.out)
  obtain ⟨X, hXe⟩ : ∃ X, vs ++ [x] = X := ⟨_, rfl⟩
  have HXE := Aside0.mk hXe
  obtain ⟨Z2, hZ2⟩ : ∃ Z, rs ++ [(⟨[⟨11, 0⟩], [⟨1, n0⟩, ⟨1, n1⟩]⟩ : S42)] = Z := ⟨_, rfl⟩
  have HZ2 := Aside0.mk hZ2
  obtain ⟨Z3, hZ3⟩ : ∃ Z, rs ++ [(⟨n1, []⟩ : S42)] = Z := ⟨_, rfl⟩
  have HZ3 := Aside0.mk hZ3
  have hrdx : rd_T32 vs p = x := hx
  replace HE1 := Aside0.mk (show model_Check.f k X rs = some 7 from by rw [← hXe, ← hrdx]; exact HE1.out)
  replace HE2 := Aside0.mk (show model_Check.f k vs Z2 = some 7 from by rw [← hZ2]; exact HE2.out)
  replace HE3 := Aside0.mk (show model_Check.f k vs Z3 = some 5 from by rw [← hZ3]; exact HE3.out)
  clear hx hcc hcl hFK hXe hZ2 hZ3 hrdx
  (try simp only [Act.put, List.setIfInBounds_toArray, List.set_cons_zero, List.set_cons_succ])
  go_cut [] (fun wc => ∃ (Yv : Option Addr) (ev : Nat), Aside0 (Below w4.heap.size w4 wc) ∧ Aside0 (wc.heap[g6]? = some (.cells #[.slice Yv X.length ev, .slice Ar rs.length cR] 29 (0, 0))) ∧ Aside0 (Kd.N k32 32 wc w6.heap.size (fun k => k ≠ g6) (.slice Yv X.length ev) X))
  case first =>
    refine start_ (n := 13) (S := fun w' => w'.cell? ⟨g5, 0, none⟩ = some (.slice (some ⟨gV, 0, none⟩) vs.length cV) ∧ w'.cell? ⟨gV, p.toNat * 4, none⟩ = some (.string x.f0) ∧ w'.cell? ⟨gV, p.toNat * 4 + 1, none⟩ = some (.int .i64 x.f1) ∧ w'.cell? ⟨gV, p.toNat * 4 + 2, none⟩ = some (.int .i64 x.f2) ∧ w'.cell? ⟨gV, p.toNat * 4 + 3, none⟩ = some (.int .i64 x.f3)) (ds := [12]) (bl 13 0) (by kernel_rfl) rfl (by kernel_rfl) ⟨ca0, cv0, cv1, cv2, cv3⟩ (fun hHeld => ?_)
    refine with_tabW foretellkeep_ModelTwice.tab3 foretellkeep_ModelTwice.bits3 (fun HT_ HW_ => ?_)
    refine puQ 0 (some 12) (bl 13 1) ?_
    refine puQ 3 (some 15) (bl 13 9) ?_
    refine puQ 5 (some 17) (bl 13 41) ?_
    refine taQ 1 (some 13) (bl 13 43) hHeld ?_
    refine taQ 4 (some 16) (bl 13 59) hHeld ?_
    refine one_ (i := 2) (N := some 14) (bl 13 63) rfl rfl (one_of HT_.out (by kernel_rfl)) (by decide) (fun K hK => ?_)
    refine Kd.N_append_rows_step k32 (w0 := w6) w6.heap.size (by rfl) (.const (.slice none 0 0)) (.tmp 13) 26 32 (.agg #[.string ⟨#[]⟩, .int .i64 0, .int .i64 0, .int .i64 0]) 40 (by rfl) Tryd.underlying26 infoV rfl (by decide) (by omega) (.slice none 0 0) ([] : List S32) vs (some ⟨gV, 0, none⟩) vs.length cV (fun k => k ≠ g6) (fun k => True ∧ k < w2.heap.size) (by rfl) (by rfl) (Kd.N_nil _ _ _ _ _) (Kd.F_step FV6.out (fun k _ hk => (show Below w6.heap.size w6 _ from (by repeat (first | assumption | exact Below.refl _ _ | apply below_drew1 | apply below_alloc | apply pw_below_drewN))).block k hk)) (fun k hk => ⟨fun e => by have h1 := G6.out; have h2 := hk.2; have h3 := B4.out.size; omega, by simp [Value.ownBlock]⟩) (fun k hk => Nat.ne_of_gt (Nat.lt_of_lt_of_le GL6.out (Nat.le_trans (Below.size (B := w6.heap.size) (w := w6) (by repeat (first | assumption | exact Below.refl _ _ | apply below_drew1 | apply below_alloc | apply pw_below_drewN))) hk))) (by repeat (first | assumption | exact Below.refl _ _ | apply below_drew1 | apply below_alloc | apply pw_below_drewN)) (below_size (by repeat (first | assumption | exact Below.refl _ _ | apply below_drew1 | apply below_alloc | apply pw_below_drewN))) (by have := VL.out; simp only [List.length_nil]; omega) ?_
    intro va w8 hra hba hga hata
    clear hga
    rw [List.nil_append] at hra
    have HRA := Aside0.mk hra
    have HBA := Aside0.mk hba
    have HTA := Aside0.mk hata
    clear hra hba hata
    have y0 := pw_cell_below HBA.out ca0
    have y1 := pw_cell_below HBA.out cv0
    have y2 := pw_cell_below HBA.out cv1
    have y3 := pw_cell_below HBA.out cv2
    have y4 := pw_cell_below HBA.out cv3
    refine hK.out _ _ ⟨y0, y1, y2, y3, y4⟩ (fun hHeld => ?_)
    clear hK K
    refine norm_ (a' := ?_) ?_ ?_
    rotate_left
    · show Act.put _ (some 14) _ = _
      simp only [Act.put, List.setIfInBounds_toArray, List.set_cons_zero, List.set_cons_succ, i64_w, i32_w]
      rfl
    refine one_ (i := 6) (N := some 18) (bl 13 127) rfl rfl (one_of HT_.out (by kernel_rfl)) (by decide) (fun K hK => ?_)
    refine goes_ Tryd.func15 (by kernel_rfl) rfl #[.int .i64 a1, .int .i64 2] (by rfl) rfl rfl (by (try simp only [List.map_toArray, List.map_cons, List.map_nil]); first | done | rfl) ?_
    refine (foretellkeep_ModelTwice.picked a1 2 p _ HP.out).mono ?_
    rintro e w' ⟨rfl, hw_⟩
    obtain rfl := hw_.symm
    clear hw_
    refine ⟨_, rfl, ?_⟩
    refine hK.out _ _ ⟨hHeld.1, hHeld.2.1, hHeld.2.2.1, hHeld.2.2.2.1, hHeld.2.2.2.2⟩ (fun hHeld => ?_)
    clear hK K
    refine norm_ (a' := ?_) ?_ ?_
    rotate_left
    · show Act.put _ (some 18) _ = _
      simp only [Act.put, List.setIfInBounds_toArray, List.set_cons_zero, List.set_cons_succ, i64_w, i32_w]
      rfl
    refine puQ 7 (some 19) (bl 13 255) ?_
    refine taQ 8 (some 20) (bl 13 511) hHeld ?_
    refine one_ (i := 9) (N := some 21) (bl 13 1023) rfl rfl (one_of HT_.out (by kernel_rfl)) (by decide) (fun K hK => ?_)
    refine value_ (w1 := ?_) (v := ?_) (by rfl) rfl ?_ ?_
    rotate_left 2
    · go_simp
      constructor
      · rfl
      · rfl
    refine hK.out _ _ ⟨(World.cell?_alloc_lt _ _ _ (World.block_lt_of_cell? _ _ (hHeld.1))).trans (hHeld.1), (World.cell?_alloc_lt _ _ _ (World.block_lt_of_cell? _ _ (hHeld.2.1))).trans (hHeld.2.1), (World.cell?_alloc_lt _ _ _ (World.block_lt_of_cell? _ _ (hHeld.2.2.1))).trans (hHeld.2.2.1), (World.cell?_alloc_lt _ _ _ (World.block_lt_of_cell? _ _ (hHeld.2.2.2.1))).trans (hHeld.2.2.2.1), (World.cell?_alloc_lt _ _ _ (World.block_lt_of_cell? _ _ (hHeld.2.2.2.2))).trans (hHeld.2.2.2.2)⟩ (fun hHeld => ?_)
    clear hK K
    refine norm_ (a' := ?_) ?_ ?_
    rotate_left
    · show Act.put _ (some 21) _ = _
      simp only [Act.put, List.setIfInBounds_toArray, List.set_cons_zero, List.set_cons_succ, i64_w, i32_w]
      rfl
    refine one_ (i := 10) (N := some 22) (bl 13 2047) rfl rfl (one_of HT_.out (by kernel_rfl)) (by decide) (fun K hK => ?_)
    refine Kd.N_append_step k32 (w0 := w6) w6.heap.size (by rfl) (.tmp 14) (.tmp 21) 26 32 (.agg #[.string ⟨#[]⟩, .int .i64 0, .int .i64 0, .int .i64 0]) 40 (by rfl) Tryd.underlying26 infoV rfl (by decide) (by omega) va vs x [.string x.f0, .int .i64 x.f1, .int .i64 x.f2, .int .i64 x.f3] (fun k => k ≠ g6) (fun k => True ∧ k < w2.heap.size) (by rfl) (by rfl) (Kd.FK_step HFX.out (fun k _ hk => HBA.out.block k hk)) (fun k hk => ⟨fun e => by have h1 := G6.out; have h2 := hk.2; have h3 := B4.out.size; omega, fun e => by rcases HTA.out with h | ⟨b, h, hb⟩ <;> rw [h] at e <;> simp [Value.ownBlock] at e; have hz := (show w6.heap.size ≤ w6.drew.heap.size from (below_drew (Below.refl 0 w6)).size); have hy := B26.out.size; have := hk.2; omega⟩) (fun k hk => Nat.ne_of_gt (Nat.lt_of_lt_of_le GL6.out (Nat.le_trans (Below.size (B := w6.heap.size) (w := w6) HBA.out) hk))) HRA.out HBA.out (below_size HBA.out) (by have := VL.out; omega) ?_
    intro vb w9 hrb hbb hgb hatb
    clear hgb hatb
    rw [HXE.out] at hrb
    obtain ⟨Yv, ev, rfl⟩ := Kd.N_slice hrb
    have HRB := Aside0.mk hrb
    have HBB := Aside0.mk hbb
    clear hrb hbb
    have ka9 := (blk_cell (blk_below K66.out HBB.out) 0).trans rfl
    have kb9 := (blk_cell (blk_below K66.out HBB.out) 1).trans rfl
    have fa9 := blk_frozen (blk_below K66.out HBB.out) 0
    have fb9 := blk_frozen (blk_below K66.out HBB.out) 1
    have z0 := pw_cell_below HBB.out ca0
    have z1 := pw_cell_below HBB.out cv0
    have z2 := pw_cell_below HBB.out cv1
    have z3 := pw_cell_below HBB.out cv2
    have z4 := pw_cell_below HBB.out cv3
    refine hK.out _ _ ⟨z0, z1, z2, z3, z4⟩ (fun hHeld => ?_)
    clear hK K
    refine norm_ (a' := ?_) ?_ ?_
    rotate_left
    · show Act.put _ (some 22) _ = _
      simp only [Act.put, List.setIfInBounds_toArray, List.set_cons_zero, List.set_cons_succ, i64_w, i32_w]
      rfl
    refine puQ 11 (some 23) (bl 13 4095) ?_
    refine last_ (i := 12) (N := none) (bl 13 8191) rfl rfl (one_of HT_.out (by kernel_rfl)) (by decide) (fun K hK => ?_)
    refine skip_ (w1 := ?_) (by rfl) rfl ?_ ?_
    rotate_left
    · go_simp
      rfl
    refine hK.out _ _ ?_
    clear hK K
    refine done_ (done_of HT_.out (by kernel_rfl)) ?_
    go_wp2
    go_meet
    case rel =>
      exact ⟨Yv, ev, ⟨(below_step B6.out HBB.out).setCell (p := ⟨g6, 0, none⟩) G6.out _⟩, ⟨blk_put (blk_below K66.out HBB.out) 0 _ rfl⟩, ⟨Kd.N_far (p := ⟨g6, 0, none⟩) HRB.out (fun _ hk => hk) _⟩⟩
  case rest =>
    obtain ⟨Yv, ev, HC4, K6c, NX⟩ := hcut
    clear HFX FV6 NV6 NR6 K56 K66 ca0 cv0 cv1 cv2 cv3
    have B2c := Aside0.mk (below_step B4.out HC4.out)
    have K5c := Aside0.mk (blk_below K54.out HC4.out)
    have hq0 : wc.cell? ⟨g5, 0, none⟩ = some (.slice (some ⟨gV, 0, none⟩) vs.length cV) := (blk_cell K5c.out 0).trans rfl
    have hq1 : wc.cell? ⟨g5, 1, none⟩ = some (.slice Ar rs.length cR) := (blk_cell K5c.out 1).trans rfl
    go_upto_region 5 with (first | ((with_reducible refine gate_dst (N := 7) rfl ?_); go_must (refine box_event ?hg (N := 7) ?hd (cs := #[.slice none 0 0, .slice none 0 0]) (t := 29) ?hr ?_; (case hd => rfl); (case hg => rfl); (case hr => first | (go_simp; done) | (go_simp; rfl)); intro g7 hg w7 hbox hb; have K7 := Aside0.mk hbox; have G7 := Aside0.mk (Nat.le_of_eq hg.symm); have B7 := Aside0.mk hb; have ha0 := (blk_cell hbox 0).trans rfl; have ha1 := (blk_cell hbox 1).trans rfl; have hf0 := blk_frozen hbox 0; have hf1 := blk_frozen hbox 1; clear hb hbox hg hq0 hq1)) | ((with_reducible refine gate_store (t := 29) (p := 7) (v := .tmp 24) rfl ?_); go_must (refine store_event (t := 29) (p := 7) (v := .tmp 24) (w1 := ((w7.setCell ⟨g7, 0, none⟩ (.slice (some ⟨gV, 0, none⟩) vs.length cV)).setCell ⟨g7, 1, none⟩ (.slice Ar rs.length cR))) ?hg ?ho ?hn ?hr ?_; (case ho => rfl); (case hg => rfl); (case hn => rfl); (case hr => first | (go_simp; done) | (go_simp; rfl)); intro w8 hw; have K78 := Aside0.mk (show w8.heap[g7]? = some (.cells #[.slice (some ⟨gV, 0, none⟩) vs.length cV, .slice Ar rs.length cR] 29 (0, 0)) from by rw [hw]; exact blk_put (blk_put K7.out 0 _ rfl) 1 _ rfl); have B8 := Aside0.mk (show Below wc.heap.size wc w8 from by rw [hw]; exact (B7.out.setCell (p := ⟨g7, 0, none⟩) G7.out _).setCell (p := ⟨g7, 1, none⟩) G7.out _); clear hw ha0 ha1 hf0 hf1 K7 B7)))
    have B28 := Aside0.mk (below_step B2c.out B8.out)
    have K58 := Aside0.mk (blk_below K5c.out B8.out)
    have FR8 := Aside0.mk (Kd.N_F (Kd.N_old NR.out B28.out))
    have hq1 : w8.cell? ⟨g5, 1, none⟩ = some (.slice Ar rs.length cR) := (blk_cell K58.out 1).trans rfl
    have GL7 := Aside0.mk (blk_lt K78.out)
    have GE7 := Aside0.mk (show w2.heap.size ≤ g7 from Nat.le_trans B2c.out.size G7.out)
    go_upto_region 6 with (first | ((with_reducible refine gate_builtin (b := .append) (xs := #[.const (.slice none 0 0), .tmp 26]) rfl ?_); at_builtin; go_must (refine Kd.N_append_rows k42 (w0 := w8) w8.heap.size rfl (.const (.slice none 0 0)) (.tmp 26) 27 42 (.agg #[.slice none 0 0, .slice none 0 0]) 48 rfl Tryd.underlying27 infoR rfl (by decide) (by omega) (.slice none 0 0) ([] : List S42) rs Ar rs.length cR (fun k => k ≠ g7) (fun k => True ∧ k < w2.heap.size) rfl rfl (Kd.N_nil _ _ _ _ _) FR8.out (fun k hk => ⟨fun e => by have h1 := GE7.out; have h2 := hk.2; omega, by simp [Value.ownBlock]⟩) (fun k hk => Nat.ne_of_gt (Nat.lt_of_lt_of_le GL7.out hk)) (Below.refl _ _) (Nat.le_refl _) (by have := RLn.out; simp only [List.length_nil]; omega) ?_; intro va w10 hra hba hga hata; rw [List.nil_append] at hra; have NA := Aside0.mk hra; have LA := Aside0.mk (Kd.N_lt hra); have B10 := Aside0.mk hba; have SZ := Aside0.mk (Nat.le_refl w10.heap.size); have hk1 := (blk_cell (blk_below K78.out hba) 1).trans rfl; clear hra hba hga hata hq1)) | ((with_reducible refine gate_dst (N := 29) rfl ?_); go_must (refine Kd.N_lit k35 (w0 := w10) w10.heap.size 35 ?hg (N' := 29) ?hd (xs := [(⟨11, 0⟩ : S35)]) (inner := [.int .i64 11, .int .i64 0]) (ok := fun k => w10.heap.size ≤ k) (okp := fun k => w10.heap.size ≤ k) ?hr ?hp (fun _ hk => hk) ?hf (Below.refl _ _) (Nat.le_refl _) (by simp) ?_; (case hd => rfl); (case hg => rfl); (case hr => first | (go_simp; done) | (go_simp; rfl)); (case hp => exact Reps.c2 (k35_mkF _ _ (⟨11, 0⟩ : S35)) (Reps.none _ _)); (case hf => have := SZ.out; first | omega | exact this); intro v11 w11 ho hb hg hn; obtain ⟨A11, c11, rfl⟩ := Kd.N_slice ho; have N11 := Aside0.mk ho; have B11 := Aside0.mk hb; replace SZ := Aside0.mk hb.size; clear ho hb hg hn)) | (go_at_call_of 16 (Value.int .i64 0); go_must (refine (foretellkeep_num.calls 0 n0 _ HN0.out).mono ?_; rintro e w12 ⟨v_, rfl, rn, hb⟩; obtain ⟨A12, c12, rfl⟩ := Kd.R_slice rn; have N12 := Aside0.mk (Kd.R_N (Kd.R_mono (ok' := fun k => w10.heap.size ≤ k) (Kd.R_bound rn) (fun k hk => Nat.le_trans SZ.out hk.2.1))); have B12 := Aside0.mk (below_step B11.out hb); replace N11 := Aside0.mk (Kd.N_below N11.out hb); replace SZ := Aside0.mk B12.out.size; clear rn hb)) | (go_at_call_of 16 (Value.int .i64 1); go_must (refine (foretellkeep_num.calls 1 n1 _ HN1.out).mono ?_; rintro e w13 ⟨v_, rfl, rn, hb⟩; obtain ⟨A13, c13, rfl⟩ := Kd.R_slice rn; have N13 := Aside0.mk (Kd.R_N (Kd.R_mono (ok' := fun k => w10.heap.size ≤ k) (Kd.R_bound rn) (fun k hk => Nat.le_trans SZ.out hk.2.1))); have B13 := Aside0.mk (below_step B12.out hb); replace N11 := Aside0.mk (Kd.N_below N11.out hb); replace N12 := Aside0.mk (Kd.N_below N12.out hb); replace SZ := Aside0.mk B13.out.size; clear rn hb B11 B12)) | ((with_reducible refine gate_dst (N := 34) rfl ?_); go_must (refine Kd.N_lit k39 (w0 := w13) w13.heap.size 39 ?hg (N' := 34) ?hd (xs := [(⟨1, n0⟩ : S39), (⟨1, n1⟩ : S39)]) (inner := [.int .i64 1, .slice A12 n0.length c12, .int .i64 1, .slice A13 n1.length c13]) (ok := fun k => w10.heap.size ≤ k) (okp := fun k => w10.heap.size ≤ k) ?hr ?hp (fun _ hk => hk) ?hf (Below.refl _ _) (Nat.le_refl _) (by simp) ?_; (case hd => rfl); (case hg => rfl); (case hr => first | (go_simp; done) | (go_simp; rfl)); (case hp => exact Reps.c2 (k39_mkF _ _ (⟨1, n0⟩ : S39) (Kd.N_reads' N12.out).2.1 (Kd.N_F N12.out)) (Reps.c2 (k39_mkF _ _ (⟨1, n1⟩ : S39) (Kd.N_reads' N13.out).2.1 (Kd.N_F N13.out)) (Reps.none _ _))); (case hf => have := SZ.out; first | omega | exact this); intro v14 w14 ho hb hg hn; obtain ⟨A14, c14, rfl⟩ := Kd.N_slice ho; have N14 := Aside0.mk ho; replace N11 := Aside0.mk (Kd.N_below N11.out hb); have B14 := Aside0.mk (below_step B13.out hb); have hk14 := pw_cell_below B14.out hk1; clear ho hb hg hn N12 N13 hk1)) | ((with_reducible refine gate_builtin (b := .append) (xs := #[.tmp 27, .tmp 36]) rfl ?_); at_builtin; go_must (refine Kd.N_append k42 (w0 := w8) w8.heap.size rfl (.tmp 27) (.tmp 36) 27 42 (.agg #[.slice none 0 0, .slice none 0 0]) 48 rfl Tryd.underlying27 infoR rfl (by decide) (by omega) va rs (⟨[⟨11, 0⟩], [⟨1, n0⟩, ⟨1, n1⟩]⟩ : S42) [.slice A11 1 c11, .slice A14 2 c14] (fun k => k ≠ g7) (fun k => w10.heap.size ≤ k) rfl rfl (k42_mkF _ _ (⟨[⟨11, 0⟩], [⟨1, n0⟩, ⟨1, n1⟩]⟩ : S42) (Kd.N_reads' N11.out).2.1 (Kd.N_F N11.out) (Kd.N_reads' N14.out).2.1 (Kd.N_F N14.out)) (fun k hk => ⟨fun e => by have h1 := GL7.out; have h2 := B10.out.size; omega, fun e => by have := LA.out k e.symm; omega⟩) (fun k hk => Nat.ne_of_gt (Nat.lt_of_lt_of_le GL7.out (Nat.le_trans (below_step B10.out B14.out).size hk))) (Kd.N_below NA.out B14.out) (below_step B10.out B14.out) (below_step B10.out B14.out).size (by have := RLn.out; omega) ?_; intro vb w15 hrb hbb hgb hatb; rw [HZ2.out] at hrb; obtain ⟨Yr, er, rfl⟩ := Kd.N_slice hrb; have NR15 := Aside0.mk hrb; have B15 := Aside0.mk hbb; have hc7 := (blk_cell (blk_below K78.out hbb) 1).trans rfl; have hf7 := blk_frozen (blk_below K78.out hbb) 1; clear hrb hbb hgb hatb hk14 N11 N14 NA LA SZ B14 B10)) | ((with_reducible refine gate_store (t := 27) (p := 38) (v := .tmp 37) rfl ?_); go_must (refine store_event (t := 27) (p := 38) (v := .tmp 37) (w1 := w15.setCell ⟨g7, 1, none⟩ (.slice Yr Z2.length er)) ?hg ?ho ?hn ?hr ?_; (case ho => rfl); (case hg => rfl); (case hn => rfl); (case hr => first | (go_simp; done) | (go_simp; rfl)); intro w16 hw; have K716 := Aside0.mk (show w16.heap[g7]? = some (.cells #[.slice (some ⟨gV, 0, none⟩) vs.length cV, .slice Yr Z2.length er] 29 (0, 0)) from by rw [hw]; exact blk_put (blk_below K78.out B15.out) 1 _ rfl); have NR16 := Aside0.mk (show Kd.N k42 42 w16 w8.heap.size (fun k => k ≠ g7) (.slice Yr Z2.length er) Z2 from by rw [hw]; exact Kd.N_far (p := ⟨g7, 1, none⟩) NR15.out (fun _ hk => hk) _); have B16 := Aside0.mk (show Below wc.heap.size wc w16 from by rw [hw]; exact (below_step B8.out B15.out).setCell (p := ⟨g7, 1, none⟩) G7.out _); clear hw hc7 hf7 NR15 B15 K78)))
    have K516 := Aside0.mk (blk_below K5c.out B16.out)
    have hq0 : w16.cell? ⟨g5, 0, none⟩ = some (.slice (some ⟨gV, 0, none⟩) vs.length cV) := (blk_cell K516.out 0).trans rfl
    have hq1 : w16.cell? ⟨g5, 1, none⟩ = some (.slice Ar rs.length cR) := (blk_cell K516.out 1).trans rfl
    go_upto_region 7 with (first | ((with_reducible refine gate_dst (N := 8) rfl ?_); go_must (refine box_event ?hg (N := 8) ?hd (cs := #[.slice none 0 0, .slice none 0 0]) (t := 29) ?hr ?_; (case hd => rfl); (case hg => rfl); (case hr => first | (go_simp; done) | (go_simp; rfl)); intro g8 hg w17 hbox hb; have K8 := Aside0.mk hbox; have G8 := Aside0.mk (Nat.le_of_eq hg.symm); have B17 := Aside0.mk hb; have ha0 := (blk_cell hbox 0).trans rfl; have ha1 := (blk_cell hbox 1).trans rfl; have hf0 := blk_frozen hbox 0; have hf1 := blk_frozen hbox 1; clear hb hbox hg hq0 hq1)) | ((with_reducible refine gate_store (t := 29) (p := 8) (v := .tmp 39) rfl ?_); go_must (refine store_event (t := 29) (p := 8) (v := .tmp 39) (w1 := ((w17.setCell ⟨g8, 0, none⟩ (.slice (some ⟨gV, 0, none⟩) vs.length cV)).setCell ⟨g8, 1, none⟩ (.slice Ar rs.length cR))) ?hg ?ho ?hn ?hr ?_; (case ho => rfl); (case hg => rfl); (case hn => rfl); (case hr => first | (go_simp; done) | (go_simp; rfl)); intro w18 hw; have K818 := Aside0.mk (show w18.heap[g8]? = some (.cells #[.slice (some ⟨gV, 0, none⟩) vs.length cV, .slice Ar rs.length cR] 29 (0, 0)) from by rw [hw]; exact blk_put (blk_put K8.out 0 _ rfl) 1 _ rfl); have B18 := Aside0.mk (show Below w16.heap.size w16 w18 from by rw [hw]; exact (B17.out.setCell (p := ⟨g8, 0, none⟩) G8.out _).setCell (p := ⟨g8, 1, none⟩) G8.out _); clear hw ha0 ha1 hf0 hf1 K8 B17)))
    have Bc18 := Aside0.mk (below_step B16.out B18.out)
    have K518 := Aside0.mk (blk_below K5c.out Bc18.out)
    have FR18 := Aside0.mk (Kd.N_F (Kd.N_old NR.out (below_step B2c.out Bc18.out)))
    have hq1 : w18.cell? ⟨g5, 1, none⟩ = some (.slice Ar rs.length cR) := (blk_cell K518.out 1).trans rfl
    have GL8 := Aside0.mk (blk_lt K818.out)
    have GE8 := Aside0.mk (show w2.heap.size ≤ g8 from Nat.le_trans (below_step B2c.out B16.out).size G8.out)
    go_upto_region 8 with (first | ((with_reducible refine gate_builtin (b := .append) (xs := #[.const (.slice none 0 0), .tmp 41]) rfl ?_); at_builtin; go_must (refine Kd.N_append_rows k42 (w0 := w18) w18.heap.size rfl (.const (.slice none 0 0)) (.tmp 41) 27 42 (.agg #[.slice none 0 0, .slice none 0 0]) 48 rfl Tryd.underlying27 infoR rfl (by decide) (by omega) (.slice none 0 0) ([] : List S42) rs Ar rs.length cR (fun k => k ≠ g8) (fun k => True ∧ k < w2.heap.size) rfl rfl (Kd.N_nil _ _ _ _ _) FR18.out (fun k hk => ⟨fun e => by have h1 := GE8.out; have h2 := hk.2; omega, by simp [Value.ownBlock]⟩) (fun k hk => Nat.ne_of_gt (Nat.lt_of_lt_of_le GL8.out hk)) (Below.refl _ _) (Nat.le_refl _) (by have := RLn.out; simp only [List.length_nil]; omega) ?_; intro va w20 hra hba hga hata; rw [List.nil_append] at hra; have NA := Aside0.mk hra; have LA := Aside0.mk (Kd.N_lt hra); have B20 := Aside0.mk hba; clear hra hba hga hata hq1)) | (go_at_call 16; go_must (refine (foretellkeep_num.calls 1 n1 _ HN1.out).mono ?_; rintro e w21 ⟨v_, rfl, rn, hb⟩; obtain ⟨A21, c21, rfl⟩ := Kd.R_slice rn; have N21 := Aside0.mk (Kd.R_N (Kd.R_mono (ok' := fun k => w20.heap.size ≤ k) (Kd.R_bound rn) (fun k hk => hk.2.1))); have B21 := Aside0.mk hb; clear rn hb)) | ((with_reducible refine gate_builtin (b := .append) (xs := #[.tmp 42, .tmp 45]) rfl ?_); at_builtin; go_must (refine Kd.N_append k42 (w0 := w18) w18.heap.size rfl (.tmp 42) (.tmp 45) 27 42 (.agg #[.slice none 0 0, .slice none 0 0]) 48 rfl Tryd.underlying27 infoR rfl (by decide) (by omega) va rs (⟨n1, []⟩ : S42) [.slice A21 n1.length c21, .slice none 0 0] (fun k => k ≠ g8) (fun k => w20.heap.size ≤ k) rfl rfl (k42_mkF _ _ (⟨n1, []⟩ : S42) (Kd.N_reads' N21.out).2.1 (Kd.N_F N21.out) (Nat.le_refl 0) (fun W' _ => ⟨rfl, Nat.zero_le _, fun h => absurd h (Nat.lt_irrefl 0)⟩)) (fun k hk => ⟨fun e => by have h1 := GL8.out; have h2 := B20.out.size; omega, fun e => by have := LA.out k e.symm; omega⟩) (fun k hk => Nat.ne_of_gt (Nat.lt_of_lt_of_le GL8.out (Nat.le_trans (below_step B20.out B21.out).size hk))) (Kd.N_below NA.out B21.out) (below_step B20.out B21.out) (below_step B20.out B21.out).size (by have := RLn.out; omega) ?_; intro vb w22 hrb hbb hgb hatb; rw [HZ3.out] at hrb; obtain ⟨Yz, ez, rfl⟩ := Kd.N_slice hrb; have NR22 := Aside0.mk hrb; have B22 := Aside0.mk hbb; have hc8 := (blk_cell (blk_below K818.out hbb) 1).trans rfl; have hf8 := blk_frozen (blk_below K818.out hbb) 1; clear hrb hbb hgb hatb N21 NA LA B21 B20)) | ((with_reducible refine gate_store (t := 27) (p := 47) (v := .tmp 46) rfl ?_); go_must (refine store_event (t := 27) (p := 47) (v := .tmp 46) (w1 := w22.setCell ⟨g8, 1, none⟩ (.slice Yz Z3.length ez)) ?hg ?ho ?hn ?hr ?_; (case ho => rfl); (case hg => rfl); (case hn => rfl); (case hr => first | (go_simp; done) | (go_simp; rfl)); intro w23 hw; have K823 := Aside0.mk (show w23.heap[g8]? = some (.cells #[.slice (some ⟨gV, 0, none⟩) vs.length cV, .slice Yz Z3.length ez] 29 (0, 0)) from by rw [hw]; exact blk_put (blk_below K818.out B22.out) 1 _ rfl); have NR23 := Aside0.mk (show Kd.N k42 42 w23 w18.heap.size (fun k => k ≠ g8) (.slice Yz Z3.length ez) Z3 from by rw [hw]; exact Kd.N_far (p := ⟨g8, 1, none⟩) NR22.out (fun _ hk => hk) _); have B23 := Aside0.mk (show Below w16.heap.size w16 w23 from by rw [hw]; exact (below_step B18.out B22.out).setCell (p := ⟨g8, 1, none⟩) G8.out _); clear hw hc8 hf8 NR22 B22 K818)))
    have B2_23 := Aside0.mk (below_step (below_step B2c.out B16.out) B23.out)
    have Bc23 := Aside0.mk (below_step B16.out B23.out)
    have K523 := Aside0.mk (blk_below K5c.out Bc23.out)
    have K623 := Aside0.mk (blk_below K6c.out Bc23.out)
    have K723 := Aside0.mk (blk_below K716.out B23.out)
    have CV := Aside0.mk (Kd.N_reads' (Kd.N_below NV.out B2_23.out))
    have CR := Aside0.mk (Kd.N_reads' (Kd.N_below NR.out B2_23.out))
    have CX := Aside0.mk (Kd.N_reads' (Kd.N_below NX.out Bc23.out))
    have CZ2 := Aside0.mk (Kd.N_reads' (Kd.N_below NR16.out B23.out))
    have CZ3 := Aside0.mk (Kd.N_reads' NR23.out)
    have BW := Aside0.mk (below_step B2.out B2_23.out)
    have hq0 : w23.cell? ⟨g5, 0, none⟩ = some (.slice (some ⟨gV, 0, none⟩) vs.length cV) := (blk_cell K523.out 0).trans rfl
    have hq1 : w23.cell? ⟨g5, 1, none⟩ = some (.slice Ar rs.length cR) := (blk_cell K523.out 1).trans rfl
    clear NV NR NX NR16 NR23 FR8 FR18
    go_wp2_with (first | (go_at_call_of 17 (Value.agg #[.slice (some ⟨gV, 0, none⟩) vs.length cV, .slice Ar rs.length cR]); go_must (refine (model_Check.calls k _ _ vs _ _ rs 0 _ (Kd.C_below CV.out.2.2 (Below.refl _ _)) CV.out.2.1 (Kd.C_below CR.out.2.2 (Below.refl _ _)) CR.out.2.1 (Glob.below GLB.out (below_step BW.out (Below.refl _ _))) HE0.out).mono ?_; rintro e_ w24 ⟨rfl, hb⟩; have B24 := Aside0.mk hb; clear hq0 hq1; have hq0 := (blk_cell (blk_below K623.out hb) 0).trans rfl; have hq1 := (blk_cell (blk_below K623.out hb) 1).trans rfl; clear hb)) | (go_at_call_of 17 (Value.agg #[.slice Yv X.length ev, .slice Ar rs.length cR]); go_must (refine (model_Check.calls k _ _ X _ _ rs 7 _ (Kd.C_below CX.out.2.2 B24.out) CX.out.2.1 (Kd.C_below CR.out.2.2 B24.out) CR.out.2.1 (Glob.below GLB.out (below_step BW.out B24.out)) HE1.out).mono ?_; rintro e_ w25 ⟨rfl, hb⟩; have B25 := Aside0.mk (below_step B24.out hb); clear hq0 hq1; have hq0 := (blk_cell (blk_below K723.out B25.out) 0).trans rfl; have hq1 := (blk_cell (blk_below K723.out B25.out) 1).trans rfl; clear hb)) | (go_at_call_of 17 (Value.agg #[.slice (some ⟨gV, 0, none⟩) vs.length cV, .slice Yr Z2.length er]); go_must (refine (model_Check.calls k _ _ vs _ _ Z2 7 _ (Kd.C_below CV.out.2.2 B25.out) CV.out.2.1 (Kd.C_below CZ2.out.2.2 B25.out) CZ2.out.2.1 (Glob.below GLB.out (below_step BW.out B25.out)) HE2.out).mono ?_; rintro e_ w26 ⟨rfl, hb⟩; have B26_ := Aside0.mk (below_step B25.out hb); clear hq0 hq1; have hq0 := (blk_cell (blk_below K823.out B26_.out) 0).trans rfl; have hq1 := (blk_cell (blk_below K823.out B26_.out) 1).trans rfl; clear hb)) | (go_at_call_of 17 (Value.agg #[.slice (some ⟨gV, 0, none⟩) vs.length cV, .slice Yz Z3.length ez]); go_must (refine (model_Check.calls k _ _ vs _ _ Z3 5 _ (Kd.C_below CV.out.2.2 B26_.out) CV.out.2.1 (Kd.C_below CZ3.out.2.2 B26_.out) CZ3.out.2.1 (Glob.below GLB.out (below_step BW.out B26_.out)) HE3.out).mono ?_; rintro e_ w27 ⟨rfl, hb⟩; have B27 := Aside0.mk (below_step B26_.out hb); clear hq0 hq1 hb)))
    go_ret
    exact ⟨rfl, below_step BW.out B27.out⟩

end Go.Proofs.YteennleoieafiaaDoor.P
end
