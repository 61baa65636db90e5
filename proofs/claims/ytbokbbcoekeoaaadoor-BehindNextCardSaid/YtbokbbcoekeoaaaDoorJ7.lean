-- PACKED by pack.py of this repo: FForetellkeepFormula FForetellkeepTask QForm
import Derived.WalkSpells
import Derived.Test.YtbokbbcoekeoaaaDoorJ1
import Derived.Test.YtbokbbcoekeoaaaDoorJ2
import Derived.Test.YtbokbbcoekeoaaaDoorJ6
import Derived.Test.YtbokbbcoekeoaaaDoorJ5
import Derived.Test.YtbokbbcoekeoaaaDoorJ4
section
namespace Go.Proofs.YtbokbbcoekeoaaaDoor.P
open Go.RowKit Go.Proofs.YtbokbbcoekeoaaaDoorW.PrintWords Go.Proofs.YtbokbbcoekeoaaaDoorW.PrintLast Go.Proofs.YtbokbbcoekeoaaaDoorW.PrintMore Go.Proofs.YtbokbbcoekeoaaaDoor.G
attribute [local go_sem] max2_int min2_int max_two min_two max_three min_three max_four min_four
set_option linter.unusedVariables false
set_option linter.unusedSimpArgs false

--IMPORT FGrownTake
--IMPORT Derived.WalkSpells
def foretellkeep_Formula.f (k : Nat) (l0 : List (S152)) (a1 : Int) (a2 : Int) : Option ((List (S72))) := (grown_formula.f k l0 a1 ⟨0, a2, []⟩ 4).bind fun st => some st.out
theorem foretellkeep_Formula.mono : ∀ a0 a1 a2 k, LeO (foretellkeep_Formula.f k a0 a1 a2) (foretellkeep_Formula.f (k + 1) a0 a1 a2) := by
 intro a0 a1 a2 k
 unfold foretellkeep_Formula.f
 exact LeO.bind (grown_formula.mono_f k _ _ _ _) (fun _ => LeO.refl _)
set_option maxHeartbeats 8000000 in
set_option maxRecDepth 100000 in
theorem foretellkeep_Formula.calls (k : Nat) (A0 : Option Addr) (c0 : Nat) (l0 : List (S152)) (a1 : Int) (a2 : Int) (r : List (S72)) (w : World) (hr0 : Kd.C k152 w A0 l0.length l0) (hc0 : l0.length ≤ c0) (h : foretellkeep_Formula.f k l0 a1 a2 = some r) :
  Calls Tryd.prog 26 #[.slice A0 l0.length c0, .int .i64 a1, .int .i64 a2] w fun e w' => ∃ v0_ : Value, e = .returned (v0_) ∧ Kd.R k72 72 w' w.heap.size (fun _ => True) v0_ r ∧ Below w.heap.size w w' := by
 have R0 := Aside0.mk hr0
 clear hr0 hc0
 unfold foretellkeep_Formula.f at h
 obtain ⟨st, h1, h⟩ := Option.bind_eq_some_iff.mp h
 obtain rfl := Option.some.inj h
 have H1 := Aside0.mk h1
 clear h h1
 go_enter Tryd.func26, Tryd.ntmps26
 go_wp2_with (first | ((with_reducible refine gate_dst (N := 12) rfl ?_); go_must (refine box_event ?hg (N := 12) ?hd (cs := #[.slice A0 l0.length c0, .int .i64 0, .int .i64 0, .int .i64 a1, .int .i64 a2, .slice none 0 0]) (t := 128) ?hr ?_; (case hd => rfl); (case hg => rfl); (case hr => first | (go_simp; done) | (go_simp; rfl)); intro g hg w1 hbox hb; have HV := Aside0.mk (show GrownAt w w1 g A0 l0.length c0 0 a1 ⟨0, a2, []⟩ from ⟨_, hbox, Kd.R_nil _ _ _ _ _, hb⟩); have BG := Aside0.mk (show w.heap.size ≤ g by rw [hg]; exact Nat.le_refl _); clear hb hbox hg)) | (go_at_call 53; go_must (refine (grown_formula.calls w A0 c0 l0 g 0 a1 R0.out BG.out k _ _ _ _ HV.out H1.out).mono ?_; rintro e w2 ⟨rfl, hv⟩; obtain ⟨vo, k2, ro, b2⟩ := hv; have K2 := Aside0.mk k2; have RO := Aside0.mk ro; have HB := Aside0.mk b2; clear k2 ro b2; have hcz5 : w2.cell? ⟨g, 5, none⟩ = some vo := (blk_cell K2.out 5).trans rfl)))
 go_ret
 exact ⟨_, rfl, RO.out, HB.out⟩

def foretellkeep_Task.f (k : Nat) (a0_0 : Int) (a0_1 : Int) (a0_2 : Int) (a0_3 : Int) (a0_4 : Int) (a0_5 : Int) (l0_6 : List (S124)) (l1 : List (S152)) (a2 : Int) : Option ((List (S77)) × (List (S118)) × (List (List (S72))) × (List (S72))) := (foretellkeep_Model.f k a0_0 a0_1 a0_2 a0_3 a0_4 a0_5 l0_6).bind fun bt113 => ((foretellkeep_props.f k).bind fun t119 => ((foretellkeep_Formula.f k l1 3 a2).bind fun t122 => (some (bt113.1, bt113.2, t119, t122))))
theorem foretellkeep_Task.mono : ∀ a0 a1 a2 a3 a4 a5 a6 a7 a8 k, LeO (foretellkeep_Task.f k a0 a1 a2 a3 a4 a5 a6 a7 a8) (foretellkeep_Task.f (k + 1) a0 a1 a2 a3 a4 a5 a6 a7 a8) := by
 intro a0 a1 a2 a3 a4 a5 a6 a7 a8 k
 unfold foretellkeep_Task.f
 repeat' first
   | (with_reducible exact foretellkeep_Formula.mono _ _ _ _)
   | (with_reducible exact foretellkeep_Model.mono _ _ _ _ _ _ _ _)
   | (with_reducible exact foretellkeep_props.mono _)
   | (with_reducible exact LeO.refl _)
   | (with_reducible exact LeO.none _)
   | (with_reducible refine LeO.ite ?_ ?_)
   | (with_reducible refine LeO.bind ?_ (fun _ => ?_))
   | exact foretellkeep_Formula.mono _ _ _ _
   | exact foretellkeep_Model.mono _ _ _ _ _ _ _ _
   | exact foretellkeep_props.mono _
   | exact LeO.none _
   | refine LeO.ite ?_ ?_
   | refine LeO.bind ?_ (fun _ => ?_)
set_option maxHeartbeats 8000000 in
set_option maxRecDepth 100000 in
theorem foretellkeep_Task.calls (k : Nat) (a0_0 : Int) (a0_1 : Int) (a0_2 : Int) (a0_3 : Int) (a0_4 : Int) (a0_5 : Int) (A0_6 : Option Addr) (c0_6 : Nat) (l0_6 : List (S124)) (A1 : Option Addr) (c1 : Nat) (l1 : List (S152)) (a2 : Int) (r1 : List (S77)) (r2 : List (S118)) (r3 : List (List (S72))) (r4 : List (S72)) (w : World) (hr0_6 : Kd.C k124 w A0_6 l0_6.length l0_6) (hc0_6 : l0_6.length ≤ c0_6) (hr1 : Kd.C k152 w A1 l1.length l1) (hc1 : l1.length ≤ c1) (h : foretellkeep_Task.f k a0_0 a0_1 a0_2 a0_3 a0_4 a0_5 l0_6 l1 a2 = some (r1, r2, r3, r4)) :
  Calls Tryd.prog 9 #[.agg #[.int .i64 a0_0, .int .i64 a0_1, .int .i64 a0_2, .int .i64 a0_3, .int .i64 a0_4, .int .i64 a0_5, .slice A0_6 l0_6.length c0_6], .slice A1 l1.length c1, .int .i64 a2] w fun e w' => ∃ v0_ v1_ v2_ v3_ : Value, e = .returned (.agg #[v0_, v1_, v2_, v3_]) ∧ Kd.R k77 77 w' w.heap.size (fun _ => True) v0_ r1 ∧ Kd.R k118 118 w' w.heap.size (fun k_ => some k_ ≠ (v3_ : Value).ownBlock) v1_ r2 ∧ Kd.S (Kd.slice 72 k72) 32 w' w.heap.size (fun k_ => some k_ ≠ (v3_ : Value).ownBlock) v2_ r3 ∧ Kd.R k72 72 w' w.heap.size (fun _ => True) v3_ r4 ∧ Below w.heap.size w w' := by
 have hu25 := Tryd.underlying25
 have hu34 := Tryd.underlying34
 have HR0_6 := Aside0.mk hr0_6
 have HC0_6 := Aside0.mk hc0_6
 clear hr0_6 hc0_6
 have HR1 := Aside0.mk hr1
 have HC1 := Aside0.mk hc1
 clear hr1 hc1
 have HB := Aside0.mk (Below.refl w.heap.size w)
 have H : ((foretellkeep_Model.f k a0_0 a0_1 a0_2 a0_3 a0_4 a0_5 l0_6).bind fun bt113 => ((foretellkeep_props.f k).bind fun t119 => ((foretellkeep_Formula.f k l1 3 a2).bind fun t122 => (some (bt113.1, bt113.2, t119, t122))))) = some (r1, r2, r3, r4) := h
 clear h
 replace H := Option.bind_eq_some_iff.mp H
 obtain ⟨⟨t113, t116⟩, A40, H⟩ := H
 replace H : ((foretellkeep_props.f k).bind fun t119 => ((foretellkeep_Formula.f k l1 3 a2).bind fun t122 => (some (t113, t116, t119, t122)))) = some (r1, r2, r3, r4) := H
 have A4 := Aside0.mk A40
 clear A40
 replace H := Option.bind_eq_some_iff.mp H
 obtain ⟨t119, A50, H⟩ := H
 replace H : ((foretellkeep_Formula.f k l1 3 a2).bind fun t122 => (some (t113, t116, t119, t122))) = some (r1, r2, r3, r4) := H
 have A5 := Aside0.mk A50
 clear A50
 replace H := Option.bind_eq_some_iff.mp H
 obtain ⟨t122, A60, H⟩ := H
 replace H : (some (t113, t116, t119, t122)) = some (r1, r2, r3, r4) := H
 have A6 := Aside0.mk A60
 clear A60
 simp only [Option.some.injEq, Prod.mk.injEq] at H
 obtain ⟨rfl, rfl, rfl, rfl⟩ := H
 go_enter Tryd.func9, Tryd.ntmps9
 go_wp2_with (first | ((with_reducible refine gate_dst (N := 3) rfl ?_); refine box_event ?hg (N := 3) ?hd (cs := #[.int .i64 a0_0, .int .i64 a0_1, .int .i64 a0_2, .int .i64 a0_3, .int .i64 a0_4, .int .i64 a0_5, .slice A0_6 l0_6.length c0_6]) (t := 25) ?hr ?_; (case hd => rfl); (case hg => rfl); (case hr => first | (go_simp; done) | (go_simp; rfl)); intro gb111 hg w7 hbox hb; have n0_ := Aside0.mk (below_step (bQ) hb); have n1_ := Aside0.mk (hbox); have n2_ := Aside0.mk ((by rw [hg]; exact (below_size (bQ)) : w.heap.size ≤ gb111)); have n3_ := n2_; clear HB; have HB := n0_; have BK111 := n1_; have GW111 := n2_; have GE111 := n3_; clear n0_ n1_ n2_ n3_; clear hb hbox hg) | ((with_reducible refine gate_dst (N := 6) rfl ?_); refine box_event ?hg (N := 6) ?hd (cs := #[.slice none 0 0, .slice none 0 0, .slice none 0 0, .slice none 0 0]) (t := 34) ?hr ?_; (case hd => rfl); (case hg => rfl); (case hr => first | (go_simp; done) | (go_simp; rfl)); intro gb112 hg w8 hbox hb; have n0_ := Aside0.mk (blk_below (kQ BK111.out) hb); have n1_ := Aside0.mk (below_step (bQ1 GE111.out) hb); have n2_ := Aside0.mk (hbox); have n3_ := Aside0.mk ((by rw [hg]; exact (below_size (bQ1 GE111.out)) : w.heap.size ≤ gb112)); have n4_ := n3_; have n5_ := Aside0.mk ((by rw [hg]; exact Nat.ne_of_lt (blk_lt (kQ BK111.out)) : gb111 ≠ gb112)); have n6_ := Aside0.mk ((by rw [hg]; exact Nat.ne_of_gt (blk_lt (kQ BK111.out)) : gb112 ≠ gb111)); clear BK111; clear HB; have BK111 := n0_; have HB := n1_; have BK112 := n2_; have GW112 := n3_; have GE112 := n4_; have NB111_112 := n5_; have NB112_111 := n6_; clear n0_ n1_ n2_ n3_ n4_ n5_ n6_; clear hb hbox hg; have hnb9 := NB111_112.out; have hnc9 := NB112_111.out; have hcz10_0 : w8.cell? ⟨gb111, 0, none⟩ = some (.int .i64 a0_0) := (blk_cell BK111.out 0).trans rfl; have hcz10_1 : w8.cell? ⟨gb111, 1, none⟩ = some (.int .i64 a0_1) := (blk_cell BK111.out 1).trans rfl; have hcz10_2 : w8.cell? ⟨gb111, 2, none⟩ = some (.int .i64 a0_2) := (blk_cell BK111.out 2).trans rfl; have hcz10_3 : w8.cell? ⟨gb111, 3, none⟩ = some (.int .i64 a0_3) := (blk_cell BK111.out 3).trans rfl; have hcz10_4 : w8.cell? ⟨gb111, 4, none⟩ = some (.int .i64 a0_4) := (blk_cell BK111.out 4).trans rfl; have hcz10_5 : w8.cell? ⟨gb111, 5, none⟩ = some (.int .i64 a0_5) := (blk_cell BK111.out 5).trans rfl; have hcz10_6 : w8.cell? ⟨gb111, 6, none⟩ = some (.slice A0_6 l0_6.length c0_6) := (blk_cell BK111.out 6).trans rfl; have hfz10_0 := blk_frozen BK111.out 0; have hfz10_1 := blk_frozen BK111.out 1; have hfz10_2 := blk_frozen BK111.out 2; have hfz10_3 := blk_frozen BK111.out 3; have hfz10_4 := blk_frozen BK111.out 4; have hfz10_5 := blk_frozen BK111.out 5; have hfz10_6 := blk_frozen BK111.out 6) | ((with_reducible refine gate_callee (f := 24) rfl ?_); refine goesL_ (some 8) rfl rfl Tryd.func24 (by kernel_rfl) rfl #[.agg #[.int .i64 a0_0, .int .i64 a0_1, .int .i64 a0_2, .int .i64 a0_3, .int .i64 a0_4, .int .i64 a0_5, .slice A0_6 l0_6.length c0_6]] rfl mQ ?_; (with_reducible refine (foretellkeep_Model.calls k a0_0 a0_1 a0_2 a0_3 a0_4 a0_5 _ _ l0_6 t113 t116 _ ?side1 ?side2 A4.out).mono ?_); (case side1 => exact cQ HR0_6.out); (case side2 => exact HC0_6.out); rintro e w11 ⟨v114, v117, rfl, ho0, ho1, hb⟩; refine ⟨_, rfl, ?_⟩; have n0_ := Aside0.mk (Kd.R_lower ho0 (below_size (bQ2 GE111.out GE112.out))); have n1_ := Aside0.mk (Kd.R_lower ho1 (below_size (bQ2 GE111.out GE112.out))); have n2_ := Aside0.mk (blk_below (kQ BK111.out) hb); have n3_ := Aside0.mk (blk_below (kQ BK112.out) hb); have n4_ := Aside0.mk (below_step (bQ2 GE111.out GE112.out) hb); clear BK111; clear BK112; clear HB; have HO115 := n0_; have HO118 := n1_; have BK111 := n2_; have BK112 := n3_; have HB := n4_; clear n0_ n1_ n2_ n3_ n4_; (try clear hb); (try clear hb2); (try clear hk); (try clear hi); (try clear ho0); (try clear ho1)) | ((with_reducible refine gate_callee (f := 25) rfl ?_); refine goesL_ (some 9) rfl rfl Tryd.func25 (by kernel_rfl) rfl #[] rfl mQ ?_; (with_reducible refine (foretellkeep_props.calls k  t119 _ A5.out).mono ?_); rintro e w12 ⟨v120, rfl, ho0, hb⟩; refine ⟨_, rfl, ?_⟩; have n0_ := Aside0.mk (Kd.R_below (rQR HO115.out) hb); have n1_ := Aside0.mk (Kd.R_below (rQR HO118.out) hb); have n2_ := Aside0.mk (Kd.S_lower ho0 (below_size (bQ2 GE111.out GE112.out))); have n3_ := Aside0.mk (blk_below (kQ BK111.out) hb); have n4_ := Aside0.mk (blk_below (kQ BK112.out) hb); have n5_ := Aside0.mk (below_step (bQ2 GE111.out GE112.out) hb); clear HO115; clear HO118; clear BK111; clear BK112; clear HB; have HO115 := n0_; have HO118 := n1_; have HO121 := n2_; have BK111 := n3_; have BK112 := n4_; have HB := n5_; clear n0_ n1_ n2_ n3_ n4_ n5_; (try clear hb); (try clear hb2); (try clear hk); (try clear hi); (try clear ho0)) | ((with_reducible refine gate_callee (f := 26) rfl ?_); refine goesL_ (some 12) rfl rfl Tryd.func26 (by kernel_rfl) rfl #[.slice A1 l1.length c1, .int .i64 3, .int .i64 a2] rfl mQ ?_; (with_reducible refine (foretellkeep_Formula.calls k _ _ l1 3 a2 t122 _ ?side1 ?side2 A6.out).mono ?_); (case side1 => exact cQ HR1.out); (case side2 => exact HC1.out); rintro e w13 ⟨v123, rfl, ho0, hb⟩; refine ⟨_, rfl, ?_⟩; have n0_ := Aside0.mk (Kd.R_below (rQR HO115.out) hb); have n1_ := Aside0.mk (Kd.R_elder' (rQR HO118.out) (Kd.R_base ho0) hb); have n2_ := Aside0.mk (Kd.S_elder' (rQS HO121.out) (Kd.R_base ho0) hb); have n3_ := Aside0.mk (Kd.R_lower ho0 (below_size (bQ2 GE111.out GE112.out))); have n4_ := Aside0.mk (blk_below (kQ BK111.out) hb); have n5_ := Aside0.mk (blk_below (kQ BK112.out) hb); have n6_ := Aside0.mk (below_step (bQ2 GE111.out GE112.out) hb); clear HO115; clear HO118; clear HO121; clear BK111; clear BK112; clear HB; have HO115 := n0_; have HO118 := n1_; have HO121 := n2_; have HO124 := n3_; have BK111 := n4_; have BK112 := n5_; have HB := n6_; clear n0_ n1_ n2_ n3_ n4_ n5_ n6_; (try clear hb); (try clear hb2); (try clear hk); (try clear hi); (try clear ho0); obtain ⟨Ao14, co14, eo14⟩ := Kd.R_slice HO124.out; subst eo14; obtain ⟨Ao15, co15, eo15⟩ := Kd.S_slice HO121.out; subst eo15; obtain ⟨Ao16, co16, eo16⟩ := Kd.R_slice HO118.out; subst eo16; obtain ⟨Ao17, co17, eo17⟩ := Kd.R_slice HO115.out; subst eo17; have hcz18_0 : w13.cell? ⟨gb112, 0, none⟩ = some (.slice none 0 0) := (blk_cell BK112.out 0).trans rfl; have hcz18_1 : w13.cell? ⟨gb112, 1, none⟩ = some (.slice none 0 0) := (blk_cell BK112.out 1).trans rfl; have hcz18_2 : w13.cell? ⟨gb112, 2, none⟩ = some (.slice none 0 0) := (blk_cell BK112.out 2).trans rfl; have hcz18_3 : w13.cell? ⟨gb112, 3, none⟩ = some (.slice none 0 0) := (blk_cell BK112.out 3).trans rfl; have hfz18_0 := blk_frozen BK112.out 0; have hfz18_1 := blk_frozen BK112.out 1; have hfz18_2 := blk_frozen BK112.out 2; have hfz18_3 := blk_frozen BK112.out 3))
 refine bodyPost_ret (results_cell_row rfl _ _ gb112 34 #[.slice Ao17 t113.length co17, .slice Ao16 t116.length co16, .slice Ao15 t119.length co15, .slice Ao14 t122.length co14] (0, 0) _ rfl (by (with_reducible repeat (first | refine blk_drewN ?_ _ | refine blk_drew ?_ | refine blk_alloc ?_ _)); refine blk_put (cs := #[.slice Ao17 t113.length co17, .slice Ao16 t116.length co16, .slice Ao15 t119.length co15, .slice none 0 0]) ?_ 3 _ rfl; (with_reducible repeat (first | refine blk_drewN ?_ _ | refine blk_drew ?_ | refine blk_alloc ?_ _)); refine blk_put (cs := #[.slice Ao17 t113.length co17, .slice Ao16 t116.length co16, .slice none 0 0, .slice none 0 0]) ?_ 2 _ rfl; (with_reducible repeat (first | refine blk_drewN ?_ _ | refine blk_drew ?_ | refine blk_alloc ?_ _)); refine blk_put (cs := #[.slice Ao17 t113.length co17, .slice none 0 0, .slice none 0 0, .slice none 0 0]) ?_ 1 _ rfl; (with_reducible repeat (first | refine blk_drewN ?_ _ | refine blk_drew ?_ | refine blk_alloc ?_ _)); refine blk_put (cs := #[.slice none 0 0, .slice none 0 0, .slice none 0 0, .slice none 0 0]) ?_ 0 _ rfl; (with_reducible repeat (first | refine blk_drewN ?_ _ | refine blk_drew ?_ | refine blk_alloc ?_ _)); exact BK112.out) Tryd.underlying34 rfl (by kernel_rfl)) rfl ?_
 exact ⟨_, _, _, _, by first | rfl | (simp [errW_none, errW_some] <;> rfl) | (simp [*, errW_none, errW_some] <;> rfl), by (with_reducible repeat (first | apply Kd.R_alloc | apply Kd.R_drewN | apply Kd.R_drew)); exact Kd.R_mono (Kd.R_far (p := ⟨gb112, 3, none⟩) (Kd.R_far (p := ⟨gb112, 2, none⟩) (Kd.R_far (p := ⟨gb112, 1, none⟩) (Kd.R_far (p := ⟨gb112, 0, none⟩) (Kd.R_types HO115.out BK112.out (by decide)) (fun _ hk => hk.2) (.slice Ao17 t113.length co17)) (fun _ hk => hk.2) (.slice Ao16 t116.length co16)) (fun _ hk => hk.2) (.slice Ao15 t119.length co15)) (fun _ hk => hk.2) (.slice Ao14 t122.length co14)) (fun _ hk => trivial), by (with_reducible repeat (first | apply Kd.R_alloc | apply Kd.R_drewN | apply Kd.R_drew)); exact Kd.R_mono (Kd.R_far (p := ⟨gb112, 3, none⟩) (Kd.R_far (p := ⟨gb112, 2, none⟩) (Kd.R_far (p := ⟨gb112, 1, none⟩) (Kd.R_far (p := ⟨gb112, 0, none⟩) (Kd.R_types HO118.out BK112.out (by decide)) (fun _ hk => hk.2) (.slice Ao17 t113.length co17)) (fun _ hk => hk.2) (.slice Ao16 t116.length co16)) (fun _ hk => hk.2) (.slice Ao15 t119.length co15)) (fun _ hk => hk.2) (.slice Ao14 t122.length co14)) (fun _ hk => hk.1.2), by (with_reducible repeat (first | apply Kd.S_alloc | apply Kd.S_drewN | apply Kd.S_drew)); exact Kd.S_mono (Kd.S_far (p := ⟨gb112, 3, none⟩) (Kd.S_far (p := ⟨gb112, 2, none⟩) (Kd.S_far (p := ⟨gb112, 1, none⟩) (Kd.S_far (p := ⟨gb112, 0, none⟩) (Kd.S_types HO121.out BK112.out (by decide)) (fun _ hk => hk.2) (.slice Ao17 t113.length co17)) (fun _ hk => hk.2) (.slice Ao16 t116.length co16)) (fun _ hk => hk.2) (.slice Ao15 t119.length co15)) (fun _ hk => hk.2) (.slice Ao14 t122.length co14)) (fun _ hk => hk.1.2), by (with_reducible repeat (first | apply Kd.R_alloc | apply Kd.R_drewN | apply Kd.R_drew)); exact Kd.R_mono (Kd.R_far (p := ⟨gb112, 3, none⟩) (Kd.R_far (p := ⟨gb112, 2, none⟩) (Kd.R_far (p := ⟨gb112, 1, none⟩) (Kd.R_far (p := ⟨gb112, 0, none⟩) (Kd.R_types HO124.out BK112.out (by decide)) (fun _ hk => hk.2) (.slice Ao17 t113.length co17)) (fun _ hk => hk.2) (.slice Ao16 t116.length co16)) (fun _ hk => hk.2) (.slice Ao15 t119.length co15)) (fun _ hk => hk.2) (.slice Ao14 t122.length co14)) (fun _ hk => trivial), bQ2 GE111.out GE112.out⟩

end Go.Proofs.YtbokbbcoekeoaaaDoor.P
end
section
namespace Go.Proofs.YtbokbbcoekeoaaaDoor.Q
open Go.RowKit Go.Proofs.YtbokbbcoekeoaaaDoorW.PrintWords Go.Proofs.YtbokbbcoekeoaaaDoorW.PrintMore Go.Proofs.YtbokbbcoekeoaaaDoor.P
set_option linter.unusedVariables false
inductive FormT (props : Int) : Tm → Prop
  | prop (v : Int) (h0 : 0 ≤ v) (h1 : v < props) : FormT props (.leaf ⟨13, v⟩)
  | yes (o : Int) (h : o = 11 ∨ o = 12) : FormT props (.leaf ⟨o, 0⟩)
  | not (a : Tm) (ha : FormT props a) : FormT props (.un ⟨10, 0⟩ a)
  | log (o : Int) (a b : Tm) (h : o = 8 ∨ o = 9) (ha : FormT props a) (hb : FormT props b) : FormT props (.bin ⟨o, 0⟩ a b)
  | look (o : Int) (a : Tm) (h : o = 14 ∨ o = 17 ∨ o = 18) (ha : FormT props a) : FormT props (.un ⟨o, 0⟩ a)
  | unto (o : Int) (a b : Tm) (h : o = 15 ∨ o = 16) (ha : FormT props a) (hb : FormT props b) : FormT props (.bin ⟨o, 0⟩ a b)
theorem FormT.ok {props : Int} {t : Tm} (h : FormT props t) : t.ok := by
  induction h with
  | prop v => exact ⟨(by decide : (1 : Int) ≤ 13), (by decide : (13 : Int) ≤ 18), (by decide : polish_Parts.tab.getD (13 : Int).toNat 0 = 0)⟩
  | yes o h => rcases h with rfl | rfl <;> exact ⟨by decide, by decide, by decide⟩
  | not a _ ih => exact ⟨by decide, by decide, by decide, ih⟩
  | log o a b h _ _ iha ihb => rcases h with rfl | rfl <;> exact ⟨by decide, by decide, by decide, iha, ihb⟩
  | look o a h _ ih => rcases h with rfl | rfl | rfl <;> exact ⟨by decide, by decide, by decide, ih⟩
  | unto o a b h _ _ iha ihb => rcases h with rfl | rfl <;> exact ⟨by decide, by decide, by decide, iha, ihb⟩
def Tm.tempo : Tm → Nat
  | .leaf _ => 0
  | .un o a => (if o.f0 = 10 then 0 else 1) + a.tempo
  | .bin o a b => (if o.f0 = 8 ∨ o.f0 = 9 then 0 else 1) + a.tempo + b.tempo
theorem form_gen {raw : List Raw} (hw : rawWf raw) (props : Int) (hp0 : 0 < props) (hp : props ≤ 100) : ∀ (d : Nat) (a tp : Int) (out : List Op), d ≤ 10 → 0 ≤ a → a ≤ 10000 → out.length + 1000 * d ≤ 20000 → 0 ≤ tp → tp ≤ 1000 →
    ∃ t, FormT props t ∧ (a ≤ 12 → a + t.size ≤ 13 + d) ∧ (12 ≤ a → t.size = 1) ∧ (t.tempo : Int) ≤ tp ∧ t.size ≤ 2 ^ (d + 1) - 1 ∧ Ev (fun k => grown_formula.f k raw props ⟨a, tp, out⟩ (d : Int)) ⟨a + t.size, tp - t.tempo, out ++ t.flat⟩ := by
  intro d
  induction d with
  | zero =>
    intro a tp out hd h0 h1 ho t0 t1
    obtain ⟨r, hr, w0, w1⟩ := take_is hw a tp out h0 (by omega)
    have p16 := picked_is w0 (m := 16) (by decide)
    have p4 := picked_is w0 (m := 4) (by decide)
    have u4 := pk_hi r.f0 (m := 4) (by decide)
    have pv := picked_is w1 (m := props) hp0
    have lv := pk_lo r.f1 (m := props) hp0
    have uv := pk_hi r.f1 (m := props) hp0
    generalize pk r.f0 4 = op at *
    generalize pk r.f1 props = v at *
    refine ⟨.leaf ⟨13, v⟩, .prop v lv uv, by simp only [Tm.size]; omega, fun _ => rfl, by simp only [Tm.tempo]; omega, (by show 1 ≤ 2 ^ (0 + 1) - 1; decide), Ev.step (f := fun _ => some ⟨a + 1, tp, out ++ [⟨13, v⟩]⟩) (fun k => ?_) (ev_some (by simp [Tm.size, Tm.tempo, Tm.flat]))⟩
    simp only [grown_formula.f, hr, p16, p4, Option.bind_some]
    rw [if_pos (.inl rfl), Option.bind_some, show (if 8 < op ∧ tp = 0 then wrap64 (4 + Int.tmod op 5) else op) = op from if_neg (by omega), if_pos u4, if_pos hp0, pv, Option.bind_some, put_ok _ _ _ _ _ (by omega)]
  | succ d ih =>
    intro a tp out hd h0 h1 ho t0 t1
    have hp1 : 2 ^ (d + 1 + 1) = 2 * 2 ^ (d + 1) := by rw [Nat.pow_succ]; omega
    have hp2 : 2 ≤ 2 ^ (d + 1) := by have := Nat.two_pow_pos d; rw [Nat.pow_succ]; omega
    obtain ⟨r, hr, w0, w1⟩ := take_is hw a tp out h0 (by omega)
    have p16 := picked_is w0 (m := 16) (by decide)
    have p4 := picked_is w0 (m := 4) (by decide)
    have l4 := pk_lo r.f0 (m := 4) (by decide)
    have u4 := pk_hi r.f0 (m := 4) (by decide)
    have l16 := pk_lo r.f0 (m := 16) (by decide)
    have u16 := pk_hi r.f0 (m := 16) (by decide)
    obtain ⟨o0, hop, o1, o2, o3⟩ : ∃ op : Int, (if ((d + 1 : Nat) : Int) = 0 ∨ 12 < a + 1 then foretellkeep_picked.f r.f0 4 else some (pk r.f0 16)) = some op ∧ 0 ≤ op ∧ op < 16 ∧ (12 ≤ a → op < 4) := by
      by_cases c : ((d + 1 : Nat) : Int) = 0 ∨ 12 < a + 1
      · rw [if_pos c, p4]
        exact ⟨_, rfl, l4, by omega, fun _ => u4⟩
      · rw [if_neg c]
        exact ⟨_, rfl, l16, u16, by omega⟩
    obtain ⟨op, hop2, q0, q1, q2, q3⟩ : ∃ op : Int, (if 8 < o0 ∧ tp = 0 then wrap64 (4 + Int.tmod o0 5) else o0) = op ∧ 0 ≤ op ∧ op < 16 ∧ (12 ≤ a → op < 4) ∧ (9 ≤ op → 1 ≤ tp) := by
      by_cases c : 8 < o0 ∧ tp = 0
      · rw [if_pos c]
        have hm := Int.tmod_eq_emod_of_nonneg (a := o0) (b := 5) (by omega)
        rw [w64 (n := 4 + Int.tmod o0 5) (by omega) (by omega)]
        exact ⟨_, rfl, by omega, by omega, by omega, by omega⟩
      · rw [if_neg c]
        exact ⟨_, rfl, o1, o2, o3, by omega⟩
    have e1 : w64 (n := ((d + 1 : Nat) : Int) - 1) (by omega) (by omega) = w64 (n := ((d + 1 : Nat) : Int) - 1) (by omega) (by omega) := rfl
    have hd1 : wrap64 (((d + 1 : Nat) : Int) - 1) = (d : Int) := by rw [w64 (n := ((d + 1 : Nat) : Int) - 1) (by omega) (by omega)]; omega
    have hst : ∀ k, grown_formula.f (k + 1) raw props ⟨a, tp, out⟩ ((d + 1 : Nat) : Int) = (if op < 4 then (if 0 < props then (foretellkeep_picked.f r.f1 props).bind fun v => grown_put.f ⟨a + 1, tp, out⟩ 13 v else (foretellkeep_picked.f r.f1 2).bind fun v => grown_put.f ⟨a + 1, tp, out⟩ (wrap64 (11 + v)) 0)
      else if op < 6 then (grown_put.f ⟨a + 1, tp, out⟩ 10 0).bind fun s1 => grown_formula.f k raw props s1 (d : Int)
      else if op < 9 then (grown_put.f ⟨a + 1, tp, out⟩ (wrap64 (8 + Int.tmod op 2)) 0).bind fun s1 => (grown_formula.f k raw props s1 (d : Int)).bind fun s2 => grown_formula.f k raw props s2 (d : Int)
      else if op < 13 then (grown_put.f ⟨a + 1, wrap64 (tp - 1), out⟩ (if op = 9 then 14 else if op = 11 then 18 else 17) 0).bind fun s1 => grown_formula.f k raw props s1 (d : Int)
      else (grown_put.f ⟨a + 1, wrap64 (tp - 1), out⟩ (wrap64 (15 + Int.tmod op 2)) 0).bind fun s1 => (grown_formula.f k raw props s1 (d : Int)).bind fun s2 => grown_formula.f k raw props s2 (d : Int)) := by
      intro k
      simp only [grown_formula.f, hr, p16, Option.bind_some, hd1]
      rw [hop, Option.bind_some, hop2]
    have hun : ∀ (o tp' : Int) (c : Nat), (o = 10 ∧ c = 0 ∨ (o = 14 ∨ o = 17 ∨ o = 18) ∧ c = 1) → tp' = tp - c → 0 ≤ tp' → a ≤ 11 → (∀ k, grown_formula.f (k + 1) raw props ⟨a, tp, out⟩ ((d + 1 : Nat) : Int) = grown_formula.f k raw props ⟨a + 1, tp', out ++ [⟨o, 0⟩]⟩ (d : Int)) →
        ∃ t, FormT props t ∧ (a ≤ 12 → a + t.size ≤ 13 + (d + 1 : Nat)) ∧ (12 ≤ a → t.size = 1) ∧ (t.tempo : Int) ≤ tp ∧ t.size ≤ 2 ^ (d + 1 + 1) - 1 ∧ Ev (fun k => grown_formula.f k raw props ⟨a, tp, out⟩ ((d + 1 : Nat) : Int)) ⟨a + t.size, tp - t.tempo, out ++ t.flat⟩ := by
      intro o tp' c hoc htp ht0 ha hk
      obtain ⟨x, hx, s1, s2, s3, s4, ex⟩ := ih (a + 1) tp' (out ++ [⟨o, 0⟩]) (by omega) (by omega) (by omega) (by rw [List.length_append, List.length_singleton]; omega) ht0 (by omega)
      have htm : (Tm.un ⟨o, 0⟩ x).tempo = c + x.tempo := by
        rcases hoc with ⟨rfl, rfl⟩ | ⟨rfl | rfl | rfl, rfl⟩ <;> rfl
      refine ⟨.un ⟨o, 0⟩ x, ?_, by simp only [Tm.size]; omega, by omega, by rw [htm]; omega, (by simp only [Tm.size]; omega), Ev.step hk ?_⟩
      · rcases hoc with ⟨rfl, _⟩ | ⟨h, _⟩
        · exact .not _ hx
        · exact .look _ _ h hx
      · have e : (⟨a + (Tm.un ⟨o, 0⟩ x).size, tp - (Tm.un ⟨o, 0⟩ x).tempo, out ++ (Tm.un ⟨o, 0⟩ x).flat⟩ : GrSt) = ⟨a + 1 + x.size, tp' - x.tempo, out ++ [⟨o, 0⟩] ++ x.flat⟩ := by
          rw [htm]
          simp [Tm.size, Tm.flat]
          omega
        rw [e]
        exact ex
    have hbin : ∀ (o tp' : Int) (c : Nat), ((o = 8 ∨ o = 9) ∧ c = 0 ∨ (o = 15 ∨ o = 16) ∧ c = 1) → tp' = tp - c → 0 ≤ tp' → a ≤ 11 → (∀ k, grown_formula.f (k + 1) raw props ⟨a, tp, out⟩ ((d + 1 : Nat) : Int) = (grown_formula.f k raw props ⟨a + 1, tp', out ++ [⟨o, 0⟩]⟩ (d : Int)).bind fun s2 => grown_formula.f k raw props s2 (d : Int)) →
        ∃ t, FormT props t ∧ (a ≤ 12 → a + t.size ≤ 13 + (d + 1 : Nat)) ∧ (12 ≤ a → t.size = 1) ∧ (t.tempo : Int) ≤ tp ∧ t.size ≤ 2 ^ (d + 1 + 1) - 1 ∧ Ev (fun k => grown_formula.f k raw props ⟨a, tp, out⟩ ((d + 1 : Nat) : Int)) ⟨a + t.size, tp - t.tempo, out ++ t.flat⟩ := by
      intro o tp' c hoc htp ht0 ha hk
      obtain ⟨x, hx, s1, s2, s3, s4, ex⟩ := ih (a + 1) tp' (out ++ [⟨o, 0⟩]) (by omega) (by omega) (by omega) (by rw [List.length_append, List.length_singleton]; omega) ht0 (by omega)
      obtain ⟨y, hy, z1, z2, z3, z4, ey⟩ := ih (a + 1 + x.size) (tp' - x.tempo) (out ++ [⟨o, 0⟩] ++ x.flat) (by omega) (by omega) (by omega) (by rw [List.length_append, List.length_append, List.length_singleton, Tm.flat_len]; omega) (by omega) (by omega)
      have htm : (Tm.bin ⟨o, 0⟩ x y).tempo = c + x.tempo + y.tempo := by
        rcases hoc with ⟨rfl | rfl, rfl⟩ | ⟨rfl | rfl, rfl⟩ <;> rfl
      refine ⟨.bin ⟨o, 0⟩ x y, ?_, by simp only [Tm.size]; omega, by omega, by rw [htm]; omega, (by simp only [Tm.size]; omega), Ev.step hk (Ev.bind ex ?_)⟩
      · rcases hoc with ⟨h, _⟩ | ⟨h, _⟩
        · exact .log _ _ _ h hx hy
        · exact .unto _ _ _ h hx hy
      · have e : (⟨a + (Tm.bin ⟨o, 0⟩ x y).size, tp - (Tm.bin ⟨o, 0⟩ x y).tempo, out ++ (Tm.bin ⟨o, 0⟩ x y).flat⟩ : GrSt) = ⟨a + 1 + x.size + y.size, tp' - x.tempo - y.tempo, out ++ [⟨o, 0⟩] ++ x.flat ++ y.flat⟩ := by
          rw [htm]
          simp [Tm.size, Tm.flat]
          omega
        rw [e]
        exact ey
    have hm2 := Int.tmod_eq_emod_of_nonneg (a := op) (b := 2) q0
    by_cases c4 : op < 4
    · have pv := picked_is w1 (m := props) hp0
      have lv := pk_lo r.f1 (m := props) hp0
      have uv := pk_hi r.f1 (m := props) hp0
      generalize pk r.f1 props = v at *
      refine ⟨.leaf ⟨13, v⟩, .prop v lv uv, by simp only [Tm.size]; omega, fun _ => rfl, by simp only [Tm.tempo]; omega, (by show 1 ≤ 2 ^ (d + 1 + 1) - 1; omega), Ev.step (f := fun _ => some ⟨a + 1, tp, out ++ [⟨13, v⟩]⟩) (fun k => ?_) (ev_some (by simp [Tm.size, Tm.tempo, Tm.flat]))⟩
      rw [hst, if_pos c4, if_pos hp0, pv, Option.bind_some, put_ok _ _ _ _ _ (by omega)]
    by_cases c6 : op < 6
    · refine hun 10 tp 0 (.inl ⟨rfl, rfl⟩) (by omega) t0 (by omega) (fun k => ?_)
      rw [hst, if_neg c4, if_pos c6, put_ok _ _ _ _ _ (by omega), Option.bind_some]
    by_cases c9 : op < 9
    · obtain ⟨o, ho89, hko⟩ : ∃ o : Int, (o = 8 ∨ o = 9) ∧ 8 + Int.tmod op 2 = o := ⟨_, by omega, rfl⟩
      refine hbin o tp 0 (.inl ⟨ho89, rfl⟩) (by omega) t0 (by omega) (fun k => ?_)
      rw [hst, if_neg c4, if_neg c6, if_pos c9, hko, w64 (n := o) (by omega) (by omega), put_ok _ _ _ _ _ (by omega), Option.bind_some]
    have htp1 := q3 (by omega)
    have e3 : wrap64 (tp - 1) = tp - 1 := w64 (by omega) (by omega)
    by_cases c13 : op < 13
    · obtain ⟨o, ho, hko⟩ : ∃ o : Int, (o = 14 ∨ o = 17 ∨ o = 18) ∧ (if op = 9 then 14 else if op = 11 then 18 else 17) = o := by
        by_cases k9 : op = 9
        · rw [if_pos k9]; exact ⟨_, .inl rfl, rfl⟩
        · rw [if_neg k9]
          by_cases k11 : op = 11
          · rw [if_pos k11]; exact ⟨_, .inr (.inr rfl), rfl⟩
          · rw [if_neg k11]; exact ⟨_, .inr (.inl rfl), rfl⟩
      refine hun o (tp - 1) 1 (.inr ⟨ho, rfl⟩) (by omega) (by omega) (by omega) (fun k => ?_)
      rw [hst, if_neg c4, if_neg c6, if_neg c9, if_pos c13, hko, e3, put_ok _ _ _ _ _ (by omega), Option.bind_some]
    · obtain ⟨o, ho, hko⟩ : ∃ o : Int, (o = 15 ∨ o = 16) ∧ 15 + Int.tmod op 2 = o := ⟨_, by omega, rfl⟩
      refine hbin o (tp - 1) 1 (.inr ⟨ho, rfl⟩) (by omega) (by omega) (by omega) (fun k => ?_)
      rw [hst, if_neg c4, if_neg c6, if_neg c9, if_neg c13, hko, e3, w64 (n := o) (by omega) (by omega), put_ok _ _ _ _ _ (by omega), Option.bind_some]
theorem form_is {raw : List Raw} (hw : rawWf raw) (tp : Int) (h0 : 0 ≤ tp) (h1 : tp ≤ 1000) : ∃ t, FormT 3 t ∧ t.size ≤ 17 ∧ (t.tempo : Int) ≤ tp ∧ Ev (fun k => foretellkeep_Formula.f k raw 3 tp) t.flat := by
  obtain ⟨t, ht, hs, _, htm, _, he⟩ := form_gen hw 3 (by decide) (by decide) 4 0 tp [] (by decide) (by decide) (by decide) (by decide) h0 h1
  refine ⟨t, ht, by omega, htm, ?_⟩
  unfold foretellkeep_Formula.f
  exact Ev.bind he (Ev.now _)
end Go.Proofs.YtbokbbcoekeoaaaDoor.Q
end
