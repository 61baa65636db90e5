-- PACKED by pack.py of this repo: FForetellkeepBehindNext
import Derived.Test.YtbokbbcoekeoaaaDoorJ1
import Derived.Test.YtbokbbcoekeoaaaDoorJ2
import Derived.Test.YtbokbbcoekeoaaaDoorJ7
import Derived.Test.YtbokbbcoekeoaaaDoorJ11
import Derived.Test.YtbokbbcoekeoaaaDoorJ18
import Derived.Test.YtbokbbcoekeoaaaDoorJ25
import Derived.Test.YtbokbbcoekeoaaaDoorJ4
section
namespace Go.Proofs.YtbokbbcoekeoaaaDoor.P
open Go.RowKit Go.Proofs.YtbokbbcoekeoaaaDoorW.PrintWords Go.Proofs.YtbokbbcoekeoaaaDoorW.PrintLast Go.Proofs.YtbokbbcoekeoaaaDoorW.PrintMore Go.Proofs.YtbokbbcoekeoaaaDoor.G
attribute [local go_sem] max2_int min2_int max_two min_two max_three min_three max_four min_four
set_option linter.unusedVariables false
set_option linter.unusedSimpArgs false

mutual
def foretellkeep_BehindNext.j0 : Nat → Int → Int → Bool → List (S77) → List (S118) → List (List (S72)) → List (S72) → Option (Bool)
 | 0, _, _, _, _, _, _, _ => none
 | k + 1, x2, x8, x33, x516000, x516001, x516002, x516003 => if x33 = true then (some false) else ((foretellkeep_picked.f x2 x8).bind fun t518 => ((step_Next.f k x516000 x516001 t518).bind fun bt519 => (foretellkeep_BehindNext.l0 k t518 bt519.1 bt519.2 ([] : List Int) 0 x516000 x516001 x516002 x516003)))
def foretellkeep_BehindNext.l0 : Nat → Int → List Int → Int → List Int → Int → List (S77) → List (S118) → List (List (S72)) → List (S72) → Option (Bool)
 | 0, _, _, _, _, _, _, _, _, _ => none
 | k + 1, x10, x11, x12, x13, x14, x516000, x516001, x516002, x516003 => if x14 < 4 then ((product_Behind.f k x516000 x516001 x516002 x516003 x10 x14).bind fun bt523 => (if bt523.2 = 9 then (foretellkeep_BehindNext.l0 k x10 x11 x12 x13 (wrap64 (x14 + 1)) x516000 x516001 x516002 x516003) else (if bt523.2 = 0 then (foretellkeep_BehindNext.l1 k x10 x11 x12 x13 x14 bt523.1 0 x516000 x516001 x516002 x516003) else (none)))) else (foretellkeep_BehindNext.l2 k x11 x12 x13 0)
def foretellkeep_BehindNext.l1 : Nat → Int → List Int → Int → List Int → Int → List (S45) → Int → List (S77) → List (S118) → List (List (S72)) → List (S72) → Option (Bool)
 | 0, _, _, _, _, _, _, _, _, _, _, _ => none
 | k + 1, x10, x11, x12, x13, x14, x15, x17, x516000, x516001, x516002, x516003 => if x17 < (x15.length : Int) then (if 0 ≤ x17 then ((foretellkeep_has.f k x11 ((rd_T45 x15 x17).f0)).bind fun t528 => (if t528 = true then (if x13.length < 17592186044416 then (foretellkeep_BehindNext.l1 k x10 x11 x12 (x13 ++ [(rd_T45 x15 x17).f0]) x14 x15 (wrap64 (x17 + 1)) x516000 x516001 x516002 x516003) else (none)) else (some false))) else (none)) else (foretellkeep_BehindNext.l0 k x10 x11 x12 x13 (wrap64 (x14 + 1)) x516000 x516001 x516002 x516003)
def foretellkeep_BehindNext.l2 : Nat → List Int → Int → List Int → Int → Option (Bool)
 | 0, _, _, _, _ => none
 | k + 1, x11, x12, x13, x18 => if x18 < (x11.length : Int) then (if 0 ≤ x18 then ((foretellkeep_has.f k x13 (rd x11 x18)).bind fun t534 => (if t534 = true then (foretellkeep_BehindNext.l2 k x11 x12 x13 (wrap64 (x18 + 1))) else (some false))) else (none)) else (if x12 = 0 then (some (decide ((x11.length : Int) > 0))) else (some false))
end
def foretellkeep_BehindNext.f (k : Nat) (a0_0 : Int) (a0_1 : Int) (a0_2 : Int) (a0_3 : Int) (a0_4 : Int) (a0_5 : Int) (l0_6 : List (S124)) (l1 : List (S152)) (a2 : Int) : Option (Bool) := (foretellkeep_Task.f k a0_0 a0_1 a0_2 a0_3 a0_4 a0_5 l0_6 l1 2).bind fun bt503 => ((model_Count.f k bt503.1 bt503.2.1).bind fun bt516 => (if bt516.2 = 0 then (foretellkeep_BehindNext.j0 k a2 bt516.1 (decide (bt516.1 < 1)) bt503.1 bt503.2.1 bt503.2.2.1 bt503.2.2.2) else (none)))
theorem foretellkeep_BehindNext.mono_l : ∀ k, (∀ y0 y1 y2 y3 y4 y5 y6, LeO (foretellkeep_BehindNext.j0 k y0 y1 y2 y3 y4 y5 y6) (foretellkeep_BehindNext.j0 (k + 1) y0 y1 y2 y3 y4 y5 y6)) ∧ (∀ y0 y1 y2 y3 y4 y5 y6 y7 y8, LeO (foretellkeep_BehindNext.l0 k y0 y1 y2 y3 y4 y5 y6 y7 y8) (foretellkeep_BehindNext.l0 (k + 1) y0 y1 y2 y3 y4 y5 y6 y7 y8)) ∧ (∀ y0 y1 y2 y3 y4 y5 y6 y7 y8 y9 y10, LeO (foretellkeep_BehindNext.l1 k y0 y1 y2 y3 y4 y5 y6 y7 y8 y9 y10) (foretellkeep_BehindNext.l1 (k + 1) y0 y1 y2 y3 y4 y5 y6 y7 y8 y9 y10)) ∧ (∀ y0 y1 y2 y3, LeO (foretellkeep_BehindNext.l2 k y0 y1 y2 y3) (foretellkeep_BehindNext.l2 (k + 1) y0 y1 y2 y3))
 | 0 => ⟨fun _ _ _ _ _ _ _ r h => by simp [foretellkeep_BehindNext.j0] at h, fun _ _ _ _ _ _ _ _ _ r h => by simp [foretellkeep_BehindNext.l0] at h, fun _ _ _ _ _ _ _ _ _ _ _ r h => by simp [foretellkeep_BehindNext.l1] at h, fun _ _ _ _ r h => by simp [foretellkeep_BehindNext.l2] at h⟩
 | k + 1 => by
  obtain ⟨ih0, ih1, ih2, ih3⟩ := foretellkeep_BehindNext.mono_l k
  refine ⟨?_, ?_, ?_, ?_⟩
  ·
   intro y0 y1 y2 y3 y4 y5 y6
   unfold foretellkeep_BehindNext.j0
   repeat' first
   | (with_reducible exact ih1 _ _ _ _ _ _ _ _ _)
   | (with_reducible exact step_Next.mono _ _ _ _)
   | (with_reducible exact LeO.refl _)
   | (with_reducible exact LeO.none _)
   | (with_reducible refine LeO.ite ?_ ?_)
   | (with_reducible refine LeO.bind ?_ (fun _ => ?_))
   | exact ih1 _ _ _ _ _ _ _ _ _
   | exact step_Next.mono _ _ _ _
   | exact LeO.none _
   | refine LeO.ite ?_ ?_
   | refine LeO.bind ?_ (fun _ => ?_)
  ·
   intro y0 y1 y2 y3 y4 y5 y6 y7 y8
   unfold foretellkeep_BehindNext.l0
   repeat' first
   | (with_reducible exact ih1 _ _ _ _ _ _ _ _ _)
   | (with_reducible exact ih2 _ _ _ _ _ _ _ _ _ _ _)
   | (with_reducible exact ih3 _ _ _ _)
   | (with_reducible exact product_Behind.mono _ _ _ _ _ _ _)
   | (with_reducible exact LeO.refl _)
   | (with_reducible exact LeO.none _)
   | (with_reducible refine LeO.ite ?_ ?_)
   | (with_reducible refine LeO.bind ?_ (fun _ => ?_))
   | exact ih1 _ _ _ _ _ _ _ _ _
   | exact ih2 _ _ _ _ _ _ _ _ _ _ _
   | exact ih3 _ _ _ _
   | exact product_Behind.mono _ _ _ _ _ _ _
   | exact LeO.none _
   | refine LeO.ite ?_ ?_
   | refine LeO.bind ?_ (fun _ => ?_)
  ·
   intro y0 y1 y2 y3 y4 y5 y6 y7 y8 y9 y10
   unfold foretellkeep_BehindNext.l1
   repeat' first
   | (with_reducible exact ih1 _ _ _ _ _ _ _ _ _)
   | (with_reducible exact ih2 _ _ _ _ _ _ _ _ _ _ _)
   | (with_reducible exact foretellkeep_has.mono _ _ _)
   | (with_reducible exact LeO.refl _)
   | (with_reducible exact LeO.none _)
   | (with_reducible refine LeO.ite ?_ ?_)
   | (with_reducible refine LeO.bind ?_ (fun _ => ?_))
   | exact ih1 _ _ _ _ _ _ _ _ _
   | exact ih2 _ _ _ _ _ _ _ _ _ _ _
   | exact foretellkeep_has.mono _ _ _
   | exact LeO.none _
   | refine LeO.ite ?_ ?_
   | refine LeO.bind ?_ (fun _ => ?_)
  ·
   intro y0 y1 y2 y3
   unfold foretellkeep_BehindNext.l2
   repeat' first
   | (with_reducible exact ih3 _ _ _ _)
   | (with_reducible exact foretellkeep_has.mono _ _ _)
   | (with_reducible exact LeO.refl _)
   | (with_reducible exact LeO.none _)
   | (with_reducible refine LeO.ite ?_ ?_)
   | (with_reducible refine LeO.bind ?_ (fun _ => ?_))
   | exact ih3 _ _ _ _
   | exact foretellkeep_has.mono _ _ _
   | exact LeO.none _
   | refine LeO.ite ?_ ?_
   | refine LeO.bind ?_ (fun _ => ?_)
theorem foretellkeep_BehindNext.mono : ∀ a0 a1 a2 a3 a4 a5 a6 a7 a8 k, LeO (foretellkeep_BehindNext.f k a0 a1 a2 a3 a4 a5 a6 a7 a8) (foretellkeep_BehindNext.f (k + 1) a0 a1 a2 a3 a4 a5 a6 a7 a8) := by
 intro a0 a1 a2 a3 a4 a5 a6 a7 a8 k
 obtain ⟨ih0, ih1, ih2, ih3⟩ := foretellkeep_BehindNext.mono_l k
 unfold foretellkeep_BehindNext.f
 repeat' first
   | (with_reducible exact ih0 _ _ _ _ _ _ _)
   | (with_reducible exact foretellkeep_Task.mono _ _ _ _ _ _ _ _ _ _)
   | (with_reducible exact model_Count.mono _ _ _)
   | (with_reducible exact LeO.refl _)
   | (with_reducible exact LeO.none _)
   | (with_reducible refine LeO.ite ?_ ?_)
   | (with_reducible refine LeO.bind ?_ (fun _ => ?_))
   | exact ih0 _ _ _ _ _ _ _
   | exact foretellkeep_Task.mono _ _ _ _ _ _ _ _ _ _
   | exact model_Count.mono _ _ _
   | exact LeO.none _
   | refine LeO.ite ?_ ?_
   | refine LeO.bind ?_ (fun _ => ?_)
set_option maxHeartbeats 8000000 in
set_option maxRecDepth 100000 in
theorem foretellkeep_BehindNext.calls (k : Nat) (a0_0 : Int) (a0_1 : Int) (a0_2 : Int) (a0_3 : Int) (a0_4 : Int) (a0_5 : Int) (A0_6 : Option Addr) (c0_6 : Nat) (l0_6 : List (S124)) (A1 : Option Addr) (c1 : Nat) (l1 : List (S152)) (a2 : Int) (r : Bool) (w : World) (hr0_6 : Kd.C k124 w A0_6 l0_6.length l0_6) (hc0_6 : l0_6.length ≤ c0_6) (hr1 : Kd.C k152 w A1 l1.length l1) (hc1 : l1.length ≤ c1) (hG_ : Glob w) (hr_ : Aside0 (r = true)) (h : foretellkeep_BehindNext.f k a0_0 a0_1 a0_2 a0_3 a0_4 a0_5 l0_6 l1 a2 = some r) :
  Calls Tryd.prog 4 #[.agg #[.int .i64 a0_0, .int .i64 a0_1, .int .i64 a0_2, .int .i64 a0_3, .int .i64 a0_4, .int .i64 a0_5, .slice A0_6 l0_6.length c0_6], .slice A1 l1.length c1, .int .i64 a2] w fun e w' => e = .returned (.bool r) ∧ Below w.heap.size w w' := by
 have hu25 := Tryd.underlying25
 have hu34 := Tryd.underlying34
 have hu30 := Tryd.underlying30
 have hu45 := Tryd.underlying45
 have HR0_6 := Aside0.mk hr0_6
 have HC0_6 := Aside0.mk hc0_6
 clear hr0_6 hc0_6
 have HR1 := Aside0.mk hr1
 have HC1 := Aside0.mk hc1
 clear hr1 hc1
 have HB := Aside0.mk (Below.refl w.heap.size w)
 have H : ((foretellkeep_Task.f k a0_0 a0_1 a0_2 a0_3 a0_4 a0_5 l0_6 l1 2).bind fun bt503 => ((model_Count.f k bt503.1 bt503.2.1).bind fun bt516 => (if bt516.2 = 0 then (foretellkeep_BehindNext.j0 k a2 bt516.1 (decide (bt516.1 < 1)) bt503.1 bt503.2.1 bt503.2.2.1 bt503.2.2.2) else (none)))) = some r := h
 clear h
 replace H := Option.bind_eq_some_iff.mp H
 obtain ⟨⟨t503, t506, t509, t512⟩, A40, H⟩ := H
 replace H : ((model_Count.f k t503 t506).bind fun bt516 => (if bt516.2 = 0 then (foretellkeep_BehindNext.j0 k a2 bt516.1 (decide (bt516.1 < 1)) t503 t506 t509 t512) else (none))) = some r := H
 have A4 := Aside0.mk A40
 clear A40
 replace H := Option.bind_eq_some_iff.mp H
 obtain ⟨⟨t516, t517⟩, A50, H⟩ := H
 replace H : (if t517 = 0 then (foretellkeep_BehindNext.j0 k a2 t516 (decide (t516 < 1)) t503 t506 t509 t512) else (none)) = some r := H
 have A5 := Aside0.mk A50
 clear A50
 have HC6 := Aside0.mk H
 clear H
 go_enter Tryd.func4, Tryd.ntmps4
 go_upto_region 3 with (first | ((with_reducible refine gate_dst (N := 3) rfl ?_); (try (refine gate_guard (by rfl) ?_; dsimp only)); refine box_event ?hg (N := 3) ?hd (cs := #[.int .i64 a0_0, .int .i64 a0_1, .int .i64 a0_2, .int .i64 a0_3, .int .i64 a0_4, .int .i64 a0_5, .slice A0_6 l0_6.length c0_6]) (t := 25) ?hr ?_; (case hd => rfl); (case hg => rfl); (case hr => first | (go_simp; done) | (go_simp; rfl)); intro gb502 hg w7 hbox hb; have n0_ := Aside0.mk (below_step (bQ) hb); have n1_ := Aside0.mk (hbox); have n2_ := Aside0.mk ((by rw [hg]; exact (below_size (bQ)) : w.heap.size ≤ gb502)); have n3_ := n2_; clear HB; have HB := n0_; have BK502 := n1_; have GW502 := n2_; have GE502 := n3_; clear n0_ n1_ n2_ n3_; clear hb hbox hg; have hcz8_0 : w7.cell? ⟨gb502, 0, none⟩ = some (.int .i64 a0_0) := (blk_cell BK502.out 0).trans rfl; have hcz8_1 : w7.cell? ⟨gb502, 1, none⟩ = some (.int .i64 a0_1) := (blk_cell BK502.out 1).trans rfl; have hcz8_2 : w7.cell? ⟨gb502, 2, none⟩ = some (.int .i64 a0_2) := (blk_cell BK502.out 2).trans rfl; have hcz8_3 : w7.cell? ⟨gb502, 3, none⟩ = some (.int .i64 a0_3) := (blk_cell BK502.out 3).trans rfl; have hcz8_4 : w7.cell? ⟨gb502, 4, none⟩ = some (.int .i64 a0_4) := (blk_cell BK502.out 4).trans rfl; have hcz8_5 : w7.cell? ⟨gb502, 5, none⟩ = some (.int .i64 a0_5) := (blk_cell BK502.out 5).trans rfl; have hcz8_6 : w7.cell? ⟨gb502, 6, none⟩ = some (.slice A0_6 l0_6.length c0_6) := (blk_cell BK502.out 6).trans rfl; have hfz8_0 := blk_frozen BK502.out 0; have hfz8_1 := blk_frozen BK502.out 1; have hfz8_2 := blk_frozen BK502.out 2; have hfz8_3 := blk_frozen BK502.out 3; have hfz8_4 := blk_frozen BK502.out 4; have hfz8_5 := blk_frozen BK502.out 5; have hfz8_6 := blk_frozen BK502.out 6) | ((with_reducible refine gate_callee (f := 9) rfl ?_); refine goesL_ (some 21) rfl rfl Tryd.func9 (by kernel_rfl) rfl #[.agg #[.int .i64 a0_0, .int .i64 a0_1, .int .i64 a0_2, .int .i64 a0_3, .int .i64 a0_4, .int .i64 a0_5, .slice A0_6 l0_6.length c0_6], .slice A1 l1.length c1, .int .i64 2] rfl mQ ?_; (with_reducible refine (foretellkeep_Task.calls k a0_0 a0_1 a0_2 a0_3 a0_4 a0_5 _ _ l0_6 _ _ l1 2 t503 t506 t509 t512 _ ?side1 ?side2 ?side3 ?side4 A4.out).mono ?_); (case side1 => exact cQ HR0_6.out); (case side2 => exact HC0_6.out); (case side3 => exact cQ HR1.out); (case side4 => exact HC1.out); rintro e w9 ⟨v504, v507, v510, v513, rfl, ho0, ho1, ho2, ho3, hb⟩; refine ⟨_, rfl, ?_⟩; have n0_ := Aside0.mk (Kd.R_lower ho0 (below_size (bQ1 GE502.out))); have n1_ := Aside0.mk (Kd.R_lower ho1 (below_size (bQ1 GE502.out))); have n2_ := Aside0.mk (Kd.S_lower ho2 (below_size (bQ1 GE502.out))); have n3_ := Aside0.mk (Kd.R_lower ho3 (below_size (bQ1 GE502.out))); have n4_ := Aside0.mk (blk_below (kQ BK502.out) hb); have n5_ := Aside0.mk (below_step (bQ1 GE502.out) hb); clear BK502; clear HB; have HO505 := n0_; have HO508 := n1_; have HO511 := n2_; have HO514 := n3_; have BK502 := n4_; have HB := n5_; clear n0_ n1_ n2_ n3_ n4_ n5_; (try clear hb); (try clear hb2); (try clear hk); (try clear hi); (try clear ho0); (try clear ho1); (try clear ho2); (try clear ho3)) | ((with_reducible refine gate_dst (N := 7) rfl ?_); (try (refine gate_guard (by rfl) ?_; dsimp only)); refine box_event ?hg (N := 7) ?hd (cs := #[.slice none 0 0, .slice none 0 0, .slice none 0 0, .slice none 0 0]) (t := 34) ?hr ?_; (case hd => rfl); (case hg => rfl); (case hr => first | (go_simp; done) | (go_simp; rfl)); intro gb515 hg w10 hbox hb; have n0_ := Aside0.mk (Kd.R_below (rQR HO505.out) hb); have n1_ := Aside0.mk (Kd.R_below (rQR HO508.out) hb); have n2_ := Aside0.mk (Kd.S_below (rQS HO511.out) hb); have n3_ := Aside0.mk (Kd.R_below (rQR HO514.out) hb); have n4_ := Aside0.mk (blk_below (kQ BK502.out) hb); have n5_ := Aside0.mk (below_step (bQ1 GE502.out) hb); have n6_ := Aside0.mk (hbox); have n7_ := Aside0.mk ((by rw [hg]; exact (below_size (bQ1 GE502.out)) : w.heap.size ≤ gb515)); have n8_ := n7_; have n9_ := Aside0.mk ((by rw [hg]; exact Nat.ne_of_lt (blk_lt (kQ BK502.out)) : gb502 ≠ gb515)); have n10_ := Aside0.mk ((by rw [hg]; exact Nat.ne_of_gt (blk_lt (kQ BK502.out)) : gb515 ≠ gb502)); clear HO505; clear HO508; clear HO511; clear HO514; clear BK502; clear HB; have HO505 := n0_; have HO508 := n1_; have HO511 := n2_; have HO514 := n3_; have BK502 := n4_; have HB := n5_; have BK515 := n6_; have GW515 := n7_; have GE515 := n8_; have NB502_515 := n9_; have NB515_502 := n10_; clear n0_ n1_ n2_ n3_ n4_ n5_ n6_ n7_ n8_ n9_ n10_; clear hb hbox hg; obtain ⟨Ao11, co11, eo11⟩ := Kd.R_slice HO505.out; subst eo11; have hnb12 := NB515_502.out; have hnc12 := NB502_515.out; have hcz13_0 : w10.cell? ⟨gb515, 0, none⟩ = some (.slice none 0 0) := (blk_cell BK515.out 0).trans rfl; have hcz13_1 : w10.cell? ⟨gb515, 1, none⟩ = some (.slice none 0 0) := (blk_cell BK515.out 1).trans rfl; have hcz13_2 : w10.cell? ⟨gb515, 2, none⟩ = some (.slice none 0 0) := (blk_cell BK515.out 2).trans rfl; have hcz13_3 : w10.cell? ⟨gb515, 3, none⟩ = some (.slice none 0 0) := (blk_cell BK515.out 3).trans rfl; have hfz13_0 := blk_frozen BK515.out 0; have hfz13_1 := blk_frozen BK515.out 1; have hfz13_2 := blk_frozen BK515.out 2; have hfz13_3 := blk_frozen BK515.out 3; obtain ⟨Ao14, co14, eo14⟩ := Kd.R_slice HO508.out; subst eo14; obtain ⟨Ao15, co15, eo15⟩ := Kd.S_slice HO511.out; subst eo15; obtain ⟨Ao16, co16, eo16⟩ := Kd.R_slice HO514.out; subst eo16) | ((with_reducible refine gate_callee (f := 13) rfl ?_); refine goesL_ (some 25) rfl rfl Tryd.func13 (by kernel_rfl) rfl #[.agg #[.slice Ao11 t503.length co11, .slice Ao14 t506.length co14]] rfl mQ ?_; (with_reducible refine (model_Count.calls k _ _ t503 _ _ t506 t516 t517 _ ?side1 ?side2 ?side3 ?side4 ?side5 A5.out).mono ?_); (case side1 => refine (Kd.R_reads' (e := 77) (base := w.heap.size) (ok := fun k_ => True) (n := t503.length) (c := co11) ?_).2.2; exact (by (with_reducible repeat (first | apply Kd.R_alloc | apply Kd.R_drewN | apply Kd.R_drew)); exact (Kd.R_mono (Kd.R_far (p := ⟨gb515, 3, none⟩) (Kd.R_far (p := ⟨gb515, 2, none⟩) (Kd.R_far (p := ⟨gb515, 1, none⟩) (Kd.R_far (p := ⟨gb515, 0, none⟩) (Kd.R_types HO505.out BK515.out (by decide)) (fun _ hk => hk.2) (.slice Ao11 t503.length co11)) (fun _ hk => hk.2) (.slice Ao14 t506.length co14)) (fun _ hk => hk.2) (.slice Ao15 t509.length co15)) (fun _ hk => hk.2) (.slice Ao16 t512.length co16)) (fun _ h_ => h_.1)))); (case side2 => exact (Kd.R_reads' HO505.out).2.1); (case side3 => refine (Kd.R_reads' (e := 118) (base := w.heap.size) (ok := fun k_ => some k_ ≠ (.slice Ao16 t512.length co16 : Value).ownBlock) (n := t506.length) (c := co14) ?_).2.2; exact (by (with_reducible repeat (first | apply Kd.R_alloc | apply Kd.R_drewN | apply Kd.R_drew)); exact (Kd.R_mono (Kd.R_far (p := ⟨gb515, 3, none⟩) (Kd.R_far (p := ⟨gb515, 2, none⟩) (Kd.R_far (p := ⟨gb515, 1, none⟩) (Kd.R_far (p := ⟨gb515, 0, none⟩) (Kd.R_types HO508.out BK515.out (by decide)) (fun _ hk => hk.2) (.slice Ao11 t503.length co11)) (fun _ hk => hk.2) (.slice Ao14 t506.length co14)) (fun _ hk => hk.2) (.slice Ao15 t509.length co15)) (fun _ hk => hk.2) (.slice Ao16 t512.length co16)) (fun _ h_ => h_.1)))); (case side4 => exact (Kd.R_reads' HO508.out).2.1); (case side5 => first | exact hG_ | exact Glob.drewN hG_ _ | exact Glob.below hG_ (bQ2 GE502.out GE515.out)); rintro e w17 ⟨rfl, hb⟩; refine ⟨_, rfl, ?_⟩; have n0_ := Aside0.mk (Kd.R_below (by (with_reducible repeat (first | apply Kd.R_alloc | apply Kd.R_drewN | apply Kd.R_drew)); exact (Kd.R_mono (Kd.R_far (p := ⟨gb515, 3, none⟩) (Kd.R_far (p := ⟨gb515, 2, none⟩) (Kd.R_far (p := ⟨gb515, 1, none⟩) (Kd.R_far (p := ⟨gb515, 0, none⟩) (Kd.R_types HO505.out BK515.out (by decide)) (fun _ hk => hk.2) (.slice Ao11 t503.length co11)) (fun _ hk => hk.2) (.slice Ao14 t506.length co14)) (fun _ hk => hk.2) (.slice Ao15 t509.length co15)) (fun _ hk => hk.2) (.slice Ao16 t512.length co16)) (fun _ h_ => h_.1))) hb); have n1_ := Aside0.mk (Kd.R_below (by (with_reducible repeat (first | apply Kd.R_alloc | apply Kd.R_drewN | apply Kd.R_drew)); exact (Kd.R_mono (Kd.R_far (p := ⟨gb515, 3, none⟩) (Kd.R_far (p := ⟨gb515, 2, none⟩) (Kd.R_far (p := ⟨gb515, 1, none⟩) (Kd.R_far (p := ⟨gb515, 0, none⟩) (Kd.R_types HO508.out BK515.out (by decide)) (fun _ hk => hk.2) (.slice Ao11 t503.length co11)) (fun _ hk => hk.2) (.slice Ao14 t506.length co14)) (fun _ hk => hk.2) (.slice Ao15 t509.length co15)) (fun _ hk => hk.2) (.slice Ao16 t512.length co16)) (fun _ h_ => h_.1))) hb); have n2_ := Aside0.mk (Kd.S_below (by (with_reducible repeat (first | apply Kd.S_alloc | apply Kd.S_drewN | apply Kd.S_drew)); exact (Kd.S_mono (Kd.S_far (p := ⟨gb515, 3, none⟩) (Kd.S_far (p := ⟨gb515, 2, none⟩) (Kd.S_far (p := ⟨gb515, 1, none⟩) (Kd.S_far (p := ⟨gb515, 0, none⟩) (Kd.S_types HO511.out BK515.out (by decide)) (fun _ hk => hk.2) (.slice Ao11 t503.length co11)) (fun _ hk => hk.2) (.slice Ao14 t506.length co14)) (fun _ hk => hk.2) (.slice Ao15 t509.length co15)) (fun _ hk => hk.2) (.slice Ao16 t512.length co16)) (fun _ h_ => h_.1))) hb); have n3_ := Aside0.mk (Kd.R_below (by (with_reducible repeat (first | apply Kd.R_alloc | apply Kd.R_drewN | apply Kd.R_drew)); exact (Kd.R_mono (Kd.R_far (p := ⟨gb515, 3, none⟩) (Kd.R_far (p := ⟨gb515, 2, none⟩) (Kd.R_far (p := ⟨gb515, 1, none⟩) (Kd.R_far (p := ⟨gb515, 0, none⟩) (Kd.R_types HO514.out BK515.out (by decide)) (fun _ hk => hk.2) (.slice Ao11 t503.length co11)) (fun _ hk => hk.2) (.slice Ao14 t506.length co14)) (fun _ hk => hk.2) (.slice Ao15 t509.length co15)) (fun _ hk => hk.2) (.slice Ao16 t512.length co16)) (fun _ h_ => h_.1))) hb); have n4_ := Aside0.mk (blk_below (g := gb502) (o := .cells #[.int .i64 a0_0, .int .i64 a0_1, .int .i64 a0_2, .int .i64 a0_3, .int .i64 a0_4, .int .i64 a0_5, .slice A0_6 l0_6.length c0_6] 25 (0, 0)) (by (with_reducible repeat (first | refine blk_drewN ?_ _ | refine blk_drew ?_ | refine blk_alloc ?_ _)); refine blk_far ?_ NB502_515.out _; (with_reducible repeat (first | refine blk_drewN ?_ _ | refine blk_drew ?_ | refine blk_alloc ?_ _)); refine blk_far ?_ NB502_515.out _; (with_reducible repeat (first | refine blk_drewN ?_ _ | refine blk_drew ?_ | refine blk_alloc ?_ _)); refine blk_far ?_ NB502_515.out _; (with_reducible repeat (first | refine blk_drewN ?_ _ | refine blk_drew ?_ | refine blk_alloc ?_ _)); refine blk_far ?_ NB502_515.out _; (with_reducible repeat (first | refine blk_drewN ?_ _ | refine blk_drew ?_ | refine blk_alloc ?_ _)); exact BK502.out) hb); have n5_ := Aside0.mk (blk_below (g := gb515) (o := .cells #[.slice Ao11 t503.length co11, .slice Ao14 t506.length co14, .slice Ao15 t509.length co15, .slice Ao16 t512.length co16] 34 (0, 0)) (by (with_reducible repeat (first | refine blk_drewN ?_ _ | refine blk_drew ?_ | refine blk_alloc ?_ _)); refine blk_put (cs := #[.slice Ao11 t503.length co11, .slice Ao14 t506.length co14, .slice Ao15 t509.length co15, .slice none 0 0]) ?_ 3 _ rfl; (with_reducible repeat (first | refine blk_drewN ?_ _ | refine blk_drew ?_ | refine blk_alloc ?_ _)); refine blk_put (cs := #[.slice Ao11 t503.length co11, .slice Ao14 t506.length co14, .slice none 0 0, .slice none 0 0]) ?_ 2 _ rfl; (with_reducible repeat (first | refine blk_drewN ?_ _ | refine blk_drew ?_ | refine blk_alloc ?_ _)); refine blk_put (cs := #[.slice Ao11 t503.length co11, .slice none 0 0, .slice none 0 0, .slice none 0 0]) ?_ 1 _ rfl; (with_reducible repeat (first | refine blk_drewN ?_ _ | refine blk_drew ?_ | refine blk_alloc ?_ _)); refine blk_put (cs := #[.slice none 0 0, .slice none 0 0, .slice none 0 0, .slice none 0 0]) ?_ 0 _ rfl; (with_reducible repeat (first | refine blk_drewN ?_ _ | refine blk_drew ?_ | refine blk_alloc ?_ _)); exact BK515.out) hb); have n6_ := Aside0.mk (below_step (bQ2 GE502.out GE515.out) hb); clear HO505; clear HO508; clear HO511; clear HO514; clear BK502; clear BK515; clear HB; have HO505 := n0_; have HO508 := n1_; have HO511 := n2_; have HO514 := n3_; have BK502 := n4_; have BK515 := n5_; have HB := n6_; clear n0_ n1_ n2_ n3_ n4_ n5_ n6_; (try clear hb); (try clear hb2); (try clear hk); (try clear hi)))
 (try simp only [Act.put, List.setIfInBounds_toArray, List.set_cons_zero, List.set_cons_succ])
 go_cut [33] (fun v33 wc => ∃ (kq : Nat) (x33_5 : Bool), v33 = .bool x33_5 ∧ Aside0 (foretellkeep_BehindNext.j0 kq a2 t516 x33_5 t503 t506 t509 t512 = some r) ∧ Aside0 (kq ≤ k) ∧ Aside0 (Kd.R k77 77 wc w.heap.size (fun _ => True) (.slice Ao11 t503.length co11) t503) ∧ Aside0 (Kd.R k118 118 wc w.heap.size (fun k_ => some k_ ≠ ((.slice Ao16 t512.length co16) : Value).ownBlock) (.slice Ao14 t506.length co14) t506) ∧ Aside0 (Kd.S (Kd.slice 72 k72) 32 wc w.heap.size (fun k_ => some k_ ≠ ((.slice Ao16 t512.length co16) : Value).ownBlock) (.slice Ao15 t509.length co15) t509) ∧ Aside0 (Kd.R k72 72 wc w.heap.size (fun _ => True) (.slice Ao16 t512.length co16) t512) ∧ Aside0 (wc.heap[gb502]? = some (.cells #[.int .i64 a0_0, .int .i64 a0_1, .int .i64 a0_2, .int .i64 a0_3, .int .i64 a0_4, .int .i64 a0_5, (.slice A0_6 l0_6.length c0_6)] 25 (0, 0))) ∧ Aside0 (wc.heap[gb515]? = some (.cells #[(.slice Ao11 t503.length co11), (.slice Ao14 t506.length co14), (.slice Ao15 t509.length co15), (.slice Ao16 t512.length co16)] 34 (0, 0))) ∧ Aside0 (Below w.heap.size w wc))
 case first =>
  have H := HC6.out
  clear HC6
  by_cases c18 : t517 = 0
  rotate_left
  ·
   rw [if_neg c18] at H
   exact absurd H (by simp)
  rw [if_pos c18] at H
  have c18b0 : (t517 == 0) = true := beq_iff_eq.mpr c18
  have c18b1 : (t517 != 0) = false := bne_eq_false_iff_eq.mpr c18
  clear c18
  (first | rw [c18b0] | (simp only [i64_w, i32_w]; rw [c18b0]) | skip)
  have H' := Aside0.mk H
  clear H
  go_wp2
  go_meet
  case rel => exact ⟨_, (decide (t516 < 1)), (by first | rfl | (simp; done) | (simp [*]; done)), H', ⟨by first | omega | exact Nat.le_refl _⟩, ⟨by (with_reducible repeat (first | apply Kd.R_alloc | apply Kd.R_drewN | apply Kd.R_drew)); exact HO505.out⟩, ⟨by (with_reducible repeat (first | apply Kd.R_alloc | apply Kd.R_drewN | apply Kd.R_drew)); exact HO508.out⟩, ⟨by (with_reducible repeat (first | apply Kd.S_alloc | apply Kd.S_drewN | apply Kd.S_drew)); exact HO511.out⟩, ⟨by (with_reducible repeat (first | apply Kd.R_alloc | apply Kd.R_drewN | apply Kd.R_drew)); exact HO514.out⟩, ⟨by (with_reducible repeat (first | refine blk_drewN ?_ _ | refine blk_drew ?_ | refine blk_alloc ?_ _)); exact BK502.out⟩, ⟨by (with_reducible repeat (first | refine blk_drewN ?_ _ | refine blk_drew ?_ | refine blk_alloc ?_ _)); exact BK515.out⟩, ⟨bQ2 GE502.out GE515.out⟩⟩
 case rest =>
  clear HC6
  try clear c1
  try clear p2
  try clear c4
  try clear c9
  try clear c12
  try clear c13
  try clear c18
  try clear c18b0
  try clear c18b1
  try clear hcz13_0
  try clear hcz13_1
  try clear hcz13_2
  try clear hcz13_3
  try clear hcz8_0
  try clear hcz8_1
  try clear hcz8_2
  try clear hcz8_3
  try clear hcz8_4
  try clear hcz8_5
  try clear hcz8_6
  try clear hfz13_0
  try clear hfz13_1
  try clear hfz13_2
  try clear hfz13_3
  try clear hfz8_0
  try clear hfz8_1
  try clear hfz8_2
  try clear hfz8_3
  try clear hfz8_4
  try clear hfz8_5
  try clear hfz8_6
  obtain ⟨kq, x33_5, rfl, HA, HJ5, HO_516000, HO_516001, HO_516002, HO_516003, BK502, BK515, HB⟩ := hcut
  cases kq with
  | zero => exact absurd HA.out (by simp [foretellkeep_BehindNext.j0])
  | succ kj5 =>
   have H := HA.out
   clear HA
   simp only [foretellkeep_BehindNext.j0] at H
   by_cases c19 : x33_5 = true
   ·
    subst c19
    have H1 : (some false) = some r := by rw [if_pos rfl] at H; exact H
    clear H
    have H := H1
    clear H1
    exact absurd ((Option.some.inj H).trans hr_.out) (by decide)
   replace c19 := Bool.eq_false_iff.mpr c19
   subst c19
   have H1 : ((foretellkeep_picked.f a2 t516).bind fun t518 => ((step_Next.f kj5 t503 t506 t518).bind fun bt519 => (foretellkeep_BehindNext.l0 kj5 t518 bt519.1 bt519.2 ([] : List Int) 0 t503 t506 t509 t512))) = some r := by rw [if_neg (show ¬ (false = true) by decide)] at H; exact H
   clear H
   have H := H1
   clear H1
   replace H := Option.bind_eq_some_iff.mp H
   obtain ⟨t518, A200, H⟩ := H
   replace H : ((step_Next.f kj5 t503 t506 t518).bind fun bt519 => (foretellkeep_BehindNext.l0 kj5 t518 bt519.1 bt519.2 ([] : List Int) 0 t503 t506 t509 t512)) = some r := H
   have A20 := Aside0.mk A200
   clear A200
   replace H := Option.bind_eq_some_iff.mp H
   obtain ⟨⟨t519, t522⟩, A210, H⟩ := H
   replace H : (foretellkeep_BehindNext.l0 kj5 t518 t519 t522 ([] : List Int) 0 t503 t506 t509 t512) = some r := H
   have A21 := Aside0.mk A210
   clear A210
   have H' := Aside0.mk H
   clear H
   go_wp2_with (first | ((with_reducible refine gate_callee (f := 14) rfl ?_); refine goesL_ (some 36) rfl rfl Tryd.func14 (by kernel_rfl) rfl #[.int .i64 a2, .int .i64 t516] rfl mQ ?_; (with_reducible refine (foretellkeep_picked.calls a2 t516 t518 _ A20.out).mono ?_); rintro e w' ⟨rfl, ⟨nd, rfl⟩⟩; refine ⟨_, rfl, ?_⟩; have hnb22 := NB515_502.out; have hnc22 := NB502_515.out; have hcz23_0 : wc.cell? ⟨gb515, 0, none⟩ = some (.slice Ao11 t503.length co11) := (blk_cell BK515.out 0).trans rfl; have hcz23_1 : wc.cell? ⟨gb515, 1, none⟩ = some (.slice Ao14 t506.length co14) := (blk_cell BK515.out 1).trans rfl; have hcz23_2 : wc.cell? ⟨gb515, 2, none⟩ = some (.slice Ao15 t509.length co15) := (blk_cell BK515.out 2).trans rfl; have hcz23_3 : wc.cell? ⟨gb515, 3, none⟩ = some (.slice Ao16 t512.length co16) := (blk_cell BK515.out 3).trans rfl; have hfz23_0 := blk_frozen BK515.out 0; have hfz23_1 := blk_frozen BK515.out 1; have hfz23_2 := blk_frozen BK515.out 2; have hfz23_3 := blk_frozen BK515.out 3) | ((with_reducible refine gate_callee (f := 15) rfl ?_); refine goesL_ (some 41) rfl rfl Tryd.func15 (by kernel_rfl) rfl #[.agg #[.slice Ao11 t503.length co11, .slice Ao14 t506.length co14], .int .i64 t518] rfl mQ ?_; (with_reducible refine (step_Next.calls kj5 _ _ t503 _ _ t506 t518 t519 t522 _ ?side1 ?side2 ?side3 ?side4 ?side5 A21.out).mono ?_); (case side1 => repeat (first | exact (Kd.R_reads' HO_516000.out).2.2 | (with_reducible refine Kd.C_alloc ?_ _) | (with_reducible refine Kd.C_drewN ?_ _) | (with_reducible refine Kd.C_drew ?_))); (case side2 => exact (Kd.R_reads' HO_516000.out).2.1); (case side3 => repeat (first | exact (Kd.R_reads' HO_516001.out).2.2 | (with_reducible refine Kd.C_alloc ?_ _) | (with_reducible refine Kd.C_drewN ?_ _) | (with_reducible refine Kd.C_drew ?_))); (case side4 => exact (Kd.R_reads' HO_516001.out).2.1); (case side5 => first | exact hG_ | exact Glob.drewN hG_ _ | exact Glob.below hG_ (bQ2 GE502.out GE515.out)); rintro e w24 ⟨v520, rfl, ho0, hb⟩; refine ⟨_, rfl, ?_⟩; have n0_ := Aside0.mk (Kd.R_below (rQR HO_516000.out) hb); have n1_ := Aside0.mk (Kd.R_below (rQR HO_516001.out) hb); have n2_ := Aside0.mk (Kd.S_below (rQS HO_516002.out) hb); have n3_ := Aside0.mk (Kd.R_below (rQR HO_516003.out) hb); have n4_ := Aside0.mk (Kd.R_lower ho0 (below_size (bQ2 GE502.out GE515.out))); have n5_ := Aside0.mk (blk_below (kQ BK502.out) hb); have n6_ := Aside0.mk (blk_below (kQ BK515.out) hb); have n7_ := Aside0.mk (below_step (bQ2 GE502.out GE515.out) hb); clear HO_516000; clear HO_516001; clear HO_516002; clear HO_516003; clear BK502; clear BK515; clear HB; have HO_516000 := n0_; have HO_516001 := n1_; have HO_516002 := n2_; have HO_516003 := n3_; have HO521 := n4_; have BK502 := n5_; have BK515 := n6_; have HB := n7_; clear n0_ n1_ n2_ n3_ n4_ n5_ n6_ n7_; (try clear hb); (try clear hb2); (try clear hk); (try clear hi); (try clear ho0)))
   go_loopg [13, 14] kj5 (fun kq v13 v14 w' => ∃ (x13_2 : List Int) (x14_2 : Int), v14 = .int .i64 x14_2 ∧ Aside0 (foretellkeep_BehindNext.l0 kq t518 t519 t522 x13_2 x14_2 t503 t506 t509 t512 = some r) ∧ Aside0 (kq ≤ kj5) ∧ Aside0 (Kd.R (Kd.int .i64) 3 w' w.heap.size (fun k_ => some k_ ≠ (v13 : Value).ownBlock) v520 t519) ∧ Aside0 (Kd.R (Kd.int .i64) 3 w' w.heap.size (fun k_ => some k_ ≠ (v520 : Value).ownBlock) v13 x13_2) ∧ Aside0 (Kd.R k77 77 w' w.heap.size (fun _ => True) (.slice Ao11 t503.length co11) t503) ∧ Aside0 (Kd.R k118 118 w' w.heap.size (fun k_ => some k_ ≠ ((.slice Ao16 t512.length co16) : Value).ownBlock) (.slice Ao14 t506.length co14) t506) ∧ Aside0 (Kd.S (Kd.slice 72 k72) 32 w' w.heap.size (fun k_ => some k_ ≠ ((.slice Ao16 t512.length co16) : Value).ownBlock) (.slice Ao15 t509.length co15) t509) ∧ Aside0 (Kd.R k72 72 w' w.heap.size (fun _ => True) (.slice Ao16 t512.length co16) t512) ∧ Aside0 (w'.heap[gb502]? = some (.cells #[.int .i64 a0_0, .int .i64 a0_1, .int .i64 a0_2, .int .i64 a0_3, .int .i64 a0_4, .int .i64 a0_5, (.slice A0_6 l0_6.length c0_6)] 25 (0, 0))) ∧ Aside0 (w'.heap[gb515]? = some (.cells #[(.slice Ao11 t503.length co11), (.slice Ao14 t506.length co14), (.slice Ao15 t509.length co15), (.slice Ao16 t512.length co16)] 34 (0, 0))) ∧ Aside0 (Below w.heap.size w w'))
   case atStart => exact ⟨(([] : List Int)), (0), (by first | rfl | (simp; done) | (simp [*]; done)), H', ⟨Nat.le_refl _⟩, ⟨by (with_reducible repeat (first | apply Kd.R_alloc | apply Kd.R_drewN | apply Kd.R_drew)); exact Kd.R_mono HO521.out (fun _ hk => (by simp [Value.ownBlock]))⟩, ⟨by first | exact Kd.R_nil _ _ _ _ _ | exact Kd.N_nil _ _ _ _ _ | exact Kd.V_nil _ _ _ _ _ | exact Kd.Q_nil _ _ _ _ _ | exact Kd.S_nil _ _ _ _ _⟩, ⟨by (with_reducible repeat (first | apply Kd.R_alloc | apply Kd.R_drewN | apply Kd.R_drew)); exact HO_516000.out⟩, ⟨by (with_reducible repeat (first | apply Kd.R_alloc | apply Kd.R_drewN | apply Kd.R_drew)); exact HO_516001.out⟩, ⟨by (with_reducible repeat (first | apply Kd.S_alloc | apply Kd.S_drewN | apply Kd.S_drew)); exact HO_516002.out⟩, ⟨by (with_reducible repeat (first | apply Kd.R_alloc | apply Kd.R_drewN | apply Kd.R_drew)); exact HO_516003.out⟩, ⟨by (with_reducible repeat (first | refine blk_drewN ?_ _ | refine blk_drew ?_ | refine blk_alloc ?_ _)); exact BK502.out⟩, ⟨by (with_reducible repeat (first | refine blk_drewN ?_ _ | refine blk_drew ?_ | refine blk_alloc ?_ _)); exact BK515.out⟩, ⟨bQ2 GE502.out GE515.out⟩⟩
   case round =>
    clear H'
    try clear c1
    try clear c2
    try clear p2
    try clear c4
    try clear c9
    try clear c12
    try clear c13
    try clear c14
    try clear c15
    try clear c18
    try clear c18b0
    try clear c18b1
    try clear c19
    try clear c22
    try clear hcz13_0
    try clear hcz13_1
    try clear hcz13_2
    try clear hcz13_3
    try clear hcz23_0
    try clear hcz23_1
    try clear hcz23_2
    try clear hcz23_3
    try clear hcz8_0
    try clear hcz8_1
    try clear hcz8_2
    try clear hcz8_3
    try clear hcz8_4
    try clear hcz8_5
    try clear hcz8_6
    try clear hfz13_0
    try clear hfz13_1
    try clear hfz13_2
    try clear hfz13_3
    try clear hfz23_0
    try clear hfz23_1
    try clear hfz23_2
    try clear hfz23_3
    try clear hfz8_0
    try clear hfz8_1
    try clear hfz8_2
    try clear hfz8_3
    try clear hfz8_4
    try clear hfz8_5
    try clear hfz8_6
    try clear p2
    obtain ⟨x13_2, x14_2, rfl, HA, HK2, HO_11, HO_13, HO_516000, HO_516001, HO_516002, HO_516003, BK502, BK515, HB⟩ := hrel
    cases gk with
    | zero => exact absurd HA.out (by simp [foretellkeep_BehindNext.l0])
    | succ k2 =>
     have H := HA.out
     clear HA
     simp only [foretellkeep_BehindNext.l0] at H
     by_cases c25 : x14_2 < 4
     rotate_left
     ·
      rw [if_neg c25] at H
      have c25b0 : decide (x14_2 < 4) = false := decide_eq_false c25
      clear c25
      have H' := Aside0.mk H
      clear H
      go_wp2
      go_loopg [18] k2 (fun kq v18 w' => ∃ (x18_3 : Int), v18 = .int .i64 x18_3 ∧ Aside0 (foretellkeep_BehindNext.l2 kq t519 t522 x13_2 x18_3 = some r) ∧ Aside0 (kq ≤ k2) ∧ Aside0 (Kd.R (Kd.int .i64) 3 w' w.heap.size (fun k_ => some k_ ≠ (u13 : Value).ownBlock) v520 t519) ∧ Aside0 (Kd.R (Kd.int .i64) 3 w' w.heap.size (fun k_ => some k_ ≠ (v520 : Value).ownBlock) u13 x13_2) ∧ Aside0 (Kd.R k77 77 w' w.heap.size (fun _ => True) (.slice Ao11 t503.length co11) t503) ∧ Aside0 (Kd.R k118 118 w' w.heap.size (fun k_ => some k_ ≠ ((.slice Ao16 t512.length co16) : Value).ownBlock) (.slice Ao14 t506.length co14) t506) ∧ Aside0 (Kd.S (Kd.slice 72 k72) 32 w' w.heap.size (fun k_ => some k_ ≠ ((.slice Ao16 t512.length co16) : Value).ownBlock) (.slice Ao15 t509.length co15) t509) ∧ Aside0 (Kd.R k72 72 w' w.heap.size (fun _ => True) (.slice Ao16 t512.length co16) t512) ∧ Aside0 (w'.heap[gb502]? = some (.cells #[.int .i64 a0_0, .int .i64 a0_1, .int .i64 a0_2, .int .i64 a0_3, .int .i64 a0_4, .int .i64 a0_5, (.slice A0_6 l0_6.length c0_6)] 25 (0, 0))) ∧ Aside0 (w'.heap[gb515]? = some (.cells #[(.slice Ao11 t503.length co11), (.slice Ao14 t506.length co14), (.slice Ao15 t509.length co15), (.slice Ao16 t512.length co16)] 34 (0, 0))) ∧ Aside0 (Below w.heap.size w w'))
      case atStart => exact ⟨(0), (by first | rfl | (simp; done) | (simp [*]; done)), H', ⟨Nat.le_refl _⟩, ⟨by (with_reducible repeat (first | apply Kd.R_alloc | apply Kd.R_drewN | apply Kd.R_drew)); exact HO_11.out⟩, ⟨by (with_reducible repeat (first | apply Kd.R_alloc | apply Kd.R_drewN | apply Kd.R_drew)); exact HO_13.out⟩, ⟨by (with_reducible repeat (first | apply Kd.R_alloc | apply Kd.R_drewN | apply Kd.R_drew)); exact HO_516000.out⟩, ⟨by (with_reducible repeat (first | apply Kd.R_alloc | apply Kd.R_drewN | apply Kd.R_drew)); exact HO_516001.out⟩, ⟨by (with_reducible repeat (first | apply Kd.S_alloc | apply Kd.S_drewN | apply Kd.S_drew)); exact HO_516002.out⟩, ⟨by (with_reducible repeat (first | apply Kd.R_alloc | apply Kd.R_drewN | apply Kd.R_drew)); exact HO_516003.out⟩, ⟨by (with_reducible repeat (first | refine blk_drewN ?_ _ | refine blk_drew ?_ | refine blk_alloc ?_ _)); exact BK502.out⟩, ⟨by (with_reducible repeat (first | refine blk_drewN ?_ _ | refine blk_drew ?_ | refine blk_alloc ?_ _)); exact BK515.out⟩, ⟨bQ2 GE502.out GE515.out⟩⟩
      case round =>
       clear H'
       try clear c1
       try clear c2
       try clear p2
       try clear c3
       try clear c4
       try clear p5
       try clear q5
       try clear hx5
       try clear p6
       try clear c9
       try clear c12
       try clear c13
       try clear c14
       try clear c15
       try clear c16
       try clear c17
       try clear c18
       try clear c18b0
       try clear c18b1
       try clear c19
       try clear c22
       try clear c25
       try clear c25b0
       try clear c27
       try clear c27b0
       try clear c27b1
       try clear c28
       try clear c31
       try clear c31b0
       try clear c31b1
       try clear c32
       try clear c35
       try clear c35b0
       try clear c36
       try clear c36b0
       try clear c38
       try clear c39
       try clear hcz13_0
       try clear hcz13_1
       try clear hcz13_2
       try clear hcz13_3
       try clear hcz23_0
       try clear hcz23_1
       try clear hcz23_2
       try clear hcz23_3
       try clear hcz29_0
       try clear hcz29_1
       try clear hcz29_2
       try clear hcz29_3
       try clear hcz33_0
       try clear hcz33_1
       try clear hcz33_2
       try clear hcz33_3
       try clear hcz8_0
       try clear hcz8_1
       try clear hcz8_2
       try clear hcz8_3
       try clear hcz8_4
       try clear hcz8_5
       try clear hcz8_6
       try clear hfz13_0
       try clear hfz13_1
       try clear hfz13_2
       try clear hfz13_3
       try clear hfz23_0
       try clear hfz23_1
       try clear hfz23_2
       try clear hfz23_3
       try clear hfz29_0
       try clear hfz29_1
       try clear hfz29_2
       try clear hfz29_3
       try clear hfz33_0
       try clear hfz33_1
       try clear hfz33_2
       try clear hfz33_3
       try clear hfz8_0
       try clear hfz8_1
       try clear hfz8_2
       try clear hfz8_3
       try clear hfz8_4
       try clear hfz8_5
       try clear hfz8_6
       try clear hx527_0
       try clear hx527_1
       try clear hx529_0
       try clear hx529_1
       try clear p2
       try clear p527
       try clear p529
       try clear p6
       try clear q527
       try clear q529
       obtain ⟨x18_3, rfl, HA, HK3, HO_11, HO_13, HO_516000, HO_516001, HO_516002, HO_516003, BK502, BK515, HB⟩ := hrel
       cases gk with
       | zero => exact absurd HA.out (by simp [foretellkeep_BehindNext.l2])
       | succ k3 =>
        have H := HA.out
        clear HA
        simp only [foretellkeep_BehindNext.l2] at H
        by_cases c44 : x18_3 < (t519.length : Int)
        rotate_left
        ·
         rw [if_neg c44] at H
         have c44b0 : decide (x18_3 < (t519.length : Int)) = false := decide_eq_false c44
         clear c44
         by_cases c50 : t522 = 0
         rotate_left
         ·
          rw [if_neg c50] at H
          exact absurd ((Option.some.inj H).trans hr_.out) (by decide)
         rw [if_pos c50] at H
         have c50b0 : (t522 == 0) = true := beq_iff_eq.mpr c50
         have c50b1 : (t522 != 0) = false := bne_eq_false_iff_eq.mpr c50
         clear c50
         obtain rfl := Option.some.inj H
         obtain ⟨Ao51, co51, eo51⟩ := Kd.R_slice HO_11.out
         subst eo51
         go_wp2
         go_ret
         exact ⟨by first | rfl | (simp [errW_none, errW_some] <;> rfl) | (simp [*, errW_none, errW_some] <;> rfl), bQ2 GE502.out GE515.out⟩
        rw [if_pos c44] at H
        have c44b0 : decide (x18_3 < (t519.length : Int)) = true := decide_eq_true c44
        clear c44
        by_cases c45 : 0 ≤ x18_3
        rotate_left
        ·
         rw [if_neg c45] at H
         exact absurd H (by simp)
        rw [if_pos c45] at H
        have c45b0 : decide (0 ≤ x18_3) = true := decide_eq_true c45
        clear c45
        replace H := Option.bind_eq_some_iff.mp H
        obtain ⟨t534, A460, H⟩ := H
        replace H : (if t534 = true then (foretellkeep_BehindNext.l2 k3 t519 t522 x13_2 (wrap64 (x18_3 + 1))) else (some false)) = some r := H
        have A46 := Aside0.mk A460
        clear A460
        by_cases c47 : t534 = true
        rotate_left
        ·
         replace c47 := Bool.eq_false_iff.mpr c47
         subst c47
         have H1 : (some false) = some r := by rw [if_neg (show ¬ (false = true) by decide)] at H; exact H
         clear H
         have H := H1
         clear H1
         exact absurd ((Option.some.inj H).trans hr_.out) (by decide)
        subst c47
        have H1 : (foretellkeep_BehindNext.l2 k3 t519 t522 x13_2 (wrap64 (x18_3 + 1))) = some r := by rw [if_pos rfl] at H; exact H
        clear H
        have H := H1
        clear H1
        have H' := Aside0.mk H
        clear H
        obtain ⟨Ao48, co48, eo48⟩ := Kd.R_slice HO_11.out
        subst eo48
        have p533 : 0 ≤ (x18_3 : Int) := of_decide_eq_true (by first | (with_reducible assumption) | assumption)
        have q533 : x18_3 < (t519.length : Int) := of_decide_eq_true (by first | (with_reducible assumption) | assumption)
        obtain ⟨ad533, e533, hx533_0⟩ := Kd.at_int (Kd.R_reads' HO_11.out).2.2 x18_3 p533 q533
        cases e533
        replace p533 := eq_true p533
        replace q533 := eq_true q533
        obtain ⟨Ao49, co49, eo49⟩ := Kd.R_slice HO_13.out
        subst eo49
        go_wp2_with (first | ((with_reducible refine gate_callee (f := 17) rfl ?_); refine goesL_ (some 93) rfl rfl Tryd.func17 (by kernel_rfl) rfl #[.slice Ao49 x13_2.length co49, .int .i64 (rd t519 x18_3)] rfl mQ ?_; (with_reducible refine (foretellkeep_has.calls k3 _ _ x13_2 (rd t519 x18_3) true _ ?side1 ?side2 A46.out).mono ?_); (case side1 => repeat (first | exact (Kd.R_reads' HO_13.out).2.2 | (with_reducible refine Kd.C_alloc ?_ _) | (with_reducible refine Kd.C_drewN ?_ _) | (with_reducible refine Kd.C_drew ?_))); (case side2 => exact (Kd.R_reads' HO_13.out).2.1); rintro e w' ⟨rfl, ⟨nd, rfl⟩⟩; refine ⟨_, rfl, ?_⟩))
        go_roundg k3
        case measure => have := HJ5.out; have := HK2.out; have := HK3.out; omega
        case rel => exact ⟨(wrap64 (x18_3 + 1)), (by first | rfl | (simp; done) | (simp [*]; done)), H', ⟨by have := HJ5.out; have := HK2.out; have := HK3.out; omega⟩, ⟨by (with_reducible repeat (first | apply Kd.R_alloc | apply Kd.R_drewN | apply Kd.R_drew)); exact HO_11.out⟩, ⟨by (with_reducible repeat (first | apply Kd.R_alloc | apply Kd.R_drewN | apply Kd.R_drew)); exact HO_13.out⟩, ⟨by (with_reducible repeat (first | apply Kd.R_alloc | apply Kd.R_drewN | apply Kd.R_drew)); exact HO_516000.out⟩, ⟨by (with_reducible repeat (first | apply Kd.R_alloc | apply Kd.R_drewN | apply Kd.R_drew)); exact HO_516001.out⟩, ⟨by (with_reducible repeat (first | apply Kd.S_alloc | apply Kd.S_drewN | apply Kd.S_drew)); exact HO_516002.out⟩, ⟨by (with_reducible repeat (first | apply Kd.R_alloc | apply Kd.R_drewN | apply Kd.R_drew)); exact HO_516003.out⟩, ⟨by (with_reducible repeat (first | refine blk_drewN ?_ _ | refine blk_drew ?_ | refine blk_alloc ?_ _)); exact BK502.out⟩, ⟨by (with_reducible repeat (first | refine blk_drewN ?_ _ | refine blk_drew ?_ | refine blk_alloc ?_ _)); exact BK515.out⟩, ⟨bQ2 GE502.out GE515.out⟩⟩
     rw [if_pos c25] at H
     have c25b0 : decide (x14_2 < 4) = true := decide_eq_true c25
     clear c25
     replace H := Option.bind_eq_some_iff.mp H
     obtain ⟨⟨t523, t526⟩, A260, H⟩ := H
     replace H : (if t526 = 9 then (foretellkeep_BehindNext.l0 k2 t518 t519 t522 x13_2 (wrap64 (x14_2 + 1)) t503 t506 t509 t512) else (if t526 = 0 then (foretellkeep_BehindNext.l1 k2 t518 t519 t522 x13_2 x14_2 t523 0 t503 t506 t509 t512) else (none))) = some r := H
     have A26 := Aside0.mk A260
     clear A260
     by_cases c27 : t526 = 9
     ·
      rw [if_pos c27] at H
      have c27b0 : (t526 == 9) = true := beq_iff_eq.mpr c27
      have c27b1 : (t526 != 9) = false := bne_eq_false_iff_eq.mpr c27
      clear c27
      have H' := Aside0.mk H
      clear H
      have hnb28 := NB515_502.out
      have hnc28 := NB502_515.out
      have hcz29_0 : wr.cell? ⟨gb515, 0, none⟩ = some (.slice Ao11 t503.length co11) := (blk_cell BK515.out 0).trans rfl
      have hcz29_1 : wr.cell? ⟨gb515, 1, none⟩ = some (.slice Ao14 t506.length co14) := (blk_cell BK515.out 1).trans rfl
      have hcz29_2 : wr.cell? ⟨gb515, 2, none⟩ = some (.slice Ao15 t509.length co15) := (blk_cell BK515.out 2).trans rfl
      have hcz29_3 : wr.cell? ⟨gb515, 3, none⟩ = some (.slice Ao16 t512.length co16) := (blk_cell BK515.out 3).trans rfl
      have hfz29_0 := blk_frozen BK515.out 0
      have hfz29_1 := blk_frozen BK515.out 1
      have hfz29_2 := blk_frozen BK515.out 2
      have hfz29_3 := blk_frozen BK515.out 3
      go_wp2_with (first | ((with_reducible refine gate_callee (f := 16) rfl ?_); refine goesL_ (some 53) rfl rfl Tryd.func16 (by kernel_rfl) rfl #[.agg #[.slice Ao11 t503.length co11, .slice Ao14 t506.length co14, .slice Ao15 t509.length co15, .slice Ao16 t512.length co16], .agg #[.int .i64 t518, .int .i64 x14_2]] rfl mQ ?_; (with_reducible refine (product_Behind.calls k2 _ _ t503 _ _ t506 _ _ t509 _ _ t512 t518 x14_2 t523 t526 _ ?side1 ?side2 ?side3 ?side4 ?side5 ?side6 ?side7 ?side8 ?side9 A26.out).mono ?_); (case side1 => repeat (first | exact (Kd.R_reads' HO_516000.out).2.2 | (with_reducible refine Kd.C_alloc ?_ _) | (with_reducible refine Kd.C_drewN ?_ _) | (with_reducible refine Kd.C_drew ?_))); (case side2 => exact (Kd.R_reads' HO_516000.out).2.1); (case side3 => repeat (first | exact (Kd.R_reads' HO_516001.out).2.2 | (with_reducible refine Kd.C_alloc ?_ _) | (with_reducible refine Kd.C_drewN ?_ _) | (with_reducible refine Kd.C_drew ?_))); (case side4 => exact (Kd.R_reads' HO_516001.out).2.1); (case side5 => repeat (first | exact (Kd.S_reads' HO_516002.out).2.2 | (with_reducible refine Kd.C_alloc ?_ _) | (with_reducible refine Kd.C_drewN ?_ _) | (with_reducible refine Kd.C_drew ?_))); (case side6 => exact (Kd.S_reads' HO_516002.out).2.1); (case side7 => repeat (first | exact (Kd.R_reads' HO_516003.out).2.2 | (with_reducible refine Kd.C_alloc ?_ _) | (with_reducible refine Kd.C_drewN ?_ _) | (with_reducible refine Kd.C_drew ?_))); (case side8 => exact (Kd.R_reads' HO_516003.out).2.1); (case side9 => first | exact hG_ | exact Glob.drewN hG_ _ | exact Glob.below hG_ (bQ2 GE502.out GE515.out)); rintro e w30 ⟨v524, rfl, ho0, hb⟩; refine ⟨_, rfl, ?_⟩; have n0_ := Aside0.mk (Kd.R_below (rQR HO_11.out) hb); have n1_ := Aside0.mk (Kd.R_below (rQR HO_13.out) hb); have n2_ := Aside0.mk (Kd.R_below (rQR HO_516000.out) hb); have n3_ := Aside0.mk (Kd.R_below (rQR HO_516001.out) hb); have n4_ := Aside0.mk (Kd.S_below (rQS HO_516002.out) hb); have n5_ := Aside0.mk (Kd.R_below (rQR HO_516003.out) hb); have n6_ := Aside0.mk (Kd.R_lower ho0 (below_size (bQ2 GE502.out GE515.out))); have n7_ := Aside0.mk (blk_below (kQ BK502.out) hb); have n8_ := Aside0.mk (blk_below (kQ BK515.out) hb); have n9_ := Aside0.mk (below_step (bQ2 GE502.out GE515.out) hb); clear HO_11; clear HO_13; clear HO_516000; clear HO_516001; clear HO_516002; clear HO_516003; clear BK502; clear BK515; clear HB; have HO_11 := n0_; have HO_13 := n1_; have HO_516000 := n2_; have HO_516001 := n3_; have HO_516002 := n4_; have HO_516003 := n5_; have HO525 := n6_; have BK502 := n7_; have BK515 := n8_; have HB := n9_; clear n0_ n1_ n2_ n3_ n4_ n5_ n6_ n7_ n8_ n9_; (try clear hb); (try clear hb2); (try clear hk); (try clear hi); (try clear ho0)))
      go_roundg k2
      case measure => have := HJ5.out; have := HK2.out; omega
      case rel => exact ⟨(x13_2), (wrap64 (x14_2 + 1)), (by first | rfl | (simp; done) | (simp [*]; done)), H', ⟨by have := HJ5.out; have := HK2.out; omega⟩, ⟨by (with_reducible repeat (first | apply Kd.R_alloc | apply Kd.R_drewN | apply Kd.R_drew)); exact HO_11.out⟩, ⟨by (with_reducible repeat (first | apply Kd.R_alloc | apply Kd.R_drewN | apply Kd.R_drew)); exact HO_13.out⟩, ⟨by (with_reducible repeat (first | apply Kd.R_alloc | apply Kd.R_drewN | apply Kd.R_drew)); exact HO_516000.out⟩, ⟨by (with_reducible repeat (first | apply Kd.R_alloc | apply Kd.R_drewN | apply Kd.R_drew)); exact HO_516001.out⟩, ⟨by (with_reducible repeat (first | apply Kd.S_alloc | apply Kd.S_drewN | apply Kd.S_drew)); exact HO_516002.out⟩, ⟨by (with_reducible repeat (first | apply Kd.R_alloc | apply Kd.R_drewN | apply Kd.R_drew)); exact HO_516003.out⟩, ⟨by (with_reducible repeat (first | refine blk_drewN ?_ _ | refine blk_drew ?_ | refine blk_alloc ?_ _)); exact BK502.out⟩, ⟨by (with_reducible repeat (first | refine blk_drewN ?_ _ | refine blk_drew ?_ | refine blk_alloc ?_ _)); exact BK515.out⟩, ⟨bQ2 GE502.out GE515.out⟩⟩
     rw [if_neg c27] at H
     have c27b0 : (t526 == 9) = false := beq_eq_false_iff_ne.mpr c27
     have c27b1 : (t526 != 9) = true := bne_iff_ne.mpr c27
     by_cases c31 : t526 = 0
     rotate_left
     ·
      rw [if_neg c31] at H
      exact absurd H (by simp)
     rw [if_pos c31] at H
     have c31b0 : (t526 == 0) = true := beq_iff_eq.mpr c31
     have c31b1 : (t526 != 0) = false := bne_eq_false_iff_eq.mpr c31
     clear c31
     have H' := Aside0.mk H
     clear H
     have hnb32 := NB515_502.out
     have hnc32 := NB502_515.out
     have hcz33_0 : wr.cell? ⟨gb515, 0, none⟩ = some (.slice Ao11 t503.length co11) := (blk_cell BK515.out 0).trans rfl
     have hcz33_1 : wr.cell? ⟨gb515, 1, none⟩ = some (.slice Ao14 t506.length co14) := (blk_cell BK515.out 1).trans rfl
     have hcz33_2 : wr.cell? ⟨gb515, 2, none⟩ = some (.slice Ao15 t509.length co15) := (blk_cell BK515.out 2).trans rfl
     have hcz33_3 : wr.cell? ⟨gb515, 3, none⟩ = some (.slice Ao16 t512.length co16) := (blk_cell BK515.out 3).trans rfl
     have hfz33_0 := blk_frozen BK515.out 0
     have hfz33_1 := blk_frozen BK515.out 1
     have hfz33_2 := blk_frozen BK515.out 2
     have hfz33_3 := blk_frozen BK515.out 3
     go_wp2_with (first | ((with_reducible refine gate_callee (f := 16) rfl ?_); refine goesL_ (some 53) rfl rfl Tryd.func16 (by kernel_rfl) rfl #[.agg #[.slice Ao11 t503.length co11, .slice Ao14 t506.length co14, .slice Ao15 t509.length co15, .slice Ao16 t512.length co16], .agg #[.int .i64 t518, .int .i64 x14_2]] rfl mQ ?_; (with_reducible refine (product_Behind.calls k2 _ _ t503 _ _ t506 _ _ t509 _ _ t512 t518 x14_2 t523 t526 _ ?side1 ?side2 ?side3 ?side4 ?side5 ?side6 ?side7 ?side8 ?side9 A26.out).mono ?_); (case side1 => repeat (first | exact (Kd.R_reads' HO_516000.out).2.2 | (with_reducible refine Kd.C_alloc ?_ _) | (with_reducible refine Kd.C_drewN ?_ _) | (with_reducible refine Kd.C_drew ?_))); (case side2 => exact (Kd.R_reads' HO_516000.out).2.1); (case side3 => repeat (first | exact (Kd.R_reads' HO_516001.out).2.2 | (with_reducible refine Kd.C_alloc ?_ _) | (with_reducible refine Kd.C_drewN ?_ _) | (with_reducible refine Kd.C_drew ?_))); (case side4 => exact (Kd.R_reads' HO_516001.out).2.1); (case side5 => repeat (first | exact (Kd.S_reads' HO_516002.out).2.2 | (with_reducible refine Kd.C_alloc ?_ _) | (with_reducible refine Kd.C_drewN ?_ _) | (with_reducible refine Kd.C_drew ?_))); (case side6 => exact (Kd.S_reads' HO_516002.out).2.1); (case side7 => repeat (first | exact (Kd.R_reads' HO_516003.out).2.2 | (with_reducible refine Kd.C_alloc ?_ _) | (with_reducible refine Kd.C_drewN ?_ _) | (with_reducible refine Kd.C_drew ?_))); (case side8 => exact (Kd.R_reads' HO_516003.out).2.1); (case side9 => first | exact hG_ | exact Glob.drewN hG_ _ | exact Glob.below hG_ (bQ2 GE502.out GE515.out)); rintro e w34 ⟨v524, rfl, ho0, hb⟩; refine ⟨_, rfl, ?_⟩; have n0_ := Aside0.mk (Kd.R_below (rQR HO_11.out) hb); have n1_ := Aside0.mk (Kd.R_below (rQR HO_13.out) hb); have n2_ := Aside0.mk (Kd.R_below (rQR HO_516000.out) hb); have n3_ := Aside0.mk (Kd.R_below (rQR HO_516001.out) hb); have n4_ := Aside0.mk (Kd.S_below (rQS HO_516002.out) hb); have n5_ := Aside0.mk (Kd.R_below (rQR HO_516003.out) hb); have n6_ := Aside0.mk (Kd.R_lower ho0 (below_size (bQ2 GE502.out GE515.out))); have n7_ := Aside0.mk (blk_below (kQ BK502.out) hb); have n8_ := Aside0.mk (blk_below (kQ BK515.out) hb); have n9_ := Aside0.mk (below_step (bQ2 GE502.out GE515.out) hb); clear HO_11; clear HO_13; clear HO_516000; clear HO_516001; clear HO_516002; clear HO_516003; clear BK502; clear BK515; clear HB; have HO_11 := n0_; have HO_13 := n1_; have HO_516000 := n2_; have HO_516001 := n3_; have HO_516002 := n4_; have HO_516003 := n5_; have HO525 := n6_; have BK502 := n7_; have BK515 := n8_; have HB := n9_; clear n0_ n1_ n2_ n3_ n4_ n5_ n6_ n7_ n8_ n9_; (try clear hb); (try clear hb2); (try clear hk); (try clear hi); (try clear ho0)))
     go_loopg [13, 17] k2 (fun kq v13 v17 w' => ∃ (x13_3 : List Int) (x17_3 : Int), v17 = .int .i64 x17_3 ∧ Aside0 (foretellkeep_BehindNext.l1 kq t518 t519 t522 x13_3 x14_2 t523 x17_3 t503 t506 t509 t512 = some r) ∧ Aside0 (kq ≤ k2) ∧ Aside0 (Kd.R (Kd.int .i64) 3 w' w.heap.size (fun k_ => some k_ ≠ (v13 : Value).ownBlock) v520 t519) ∧ Aside0 (Kd.R (Kd.int .i64) 3 w' w.heap.size (fun k_ => some k_ ≠ (v520 : Value).ownBlock) v13 x13_3) ∧ Aside0 (Kd.R k45 45 w' w.heap.size (fun _ => True) v524 t523) ∧ Aside0 (Kd.R k77 77 w' w.heap.size (fun _ => True) (.slice Ao11 t503.length co11) t503) ∧ Aside0 (Kd.R k118 118 w' w.heap.size (fun k_ => some k_ ≠ ((.slice Ao16 t512.length co16) : Value).ownBlock) (.slice Ao14 t506.length co14) t506) ∧ Aside0 (Kd.S (Kd.slice 72 k72) 32 w' w.heap.size (fun k_ => some k_ ≠ ((.slice Ao16 t512.length co16) : Value).ownBlock) (.slice Ao15 t509.length co15) t509) ∧ Aside0 (Kd.R k72 72 w' w.heap.size (fun _ => True) (.slice Ao16 t512.length co16) t512) ∧ Aside0 (w'.heap[gb502]? = some (.cells #[.int .i64 a0_0, .int .i64 a0_1, .int .i64 a0_2, .int .i64 a0_3, .int .i64 a0_4, .int .i64 a0_5, (.slice A0_6 l0_6.length c0_6)] 25 (0, 0))) ∧ Aside0 (w'.heap[gb515]? = some (.cells #[(.slice Ao11 t503.length co11), (.slice Ao14 t506.length co14), (.slice Ao15 t509.length co15), (.slice Ao16 t512.length co16)] 34 (0, 0))) ∧ Aside0 (Below w.heap.size w w'))
     case atStart => exact ⟨(x13_2), (0), (by first | rfl | (simp; done) | (simp [*]; done)), H', ⟨Nat.le_refl _⟩, ⟨by (with_reducible repeat (first | apply Kd.R_alloc | apply Kd.R_drewN | apply Kd.R_drew)); exact HO_11.out⟩, ⟨by (with_reducible repeat (first | apply Kd.R_alloc | apply Kd.R_drewN | apply Kd.R_drew)); exact HO_13.out⟩, ⟨by (with_reducible repeat (first | apply Kd.R_alloc | apply Kd.R_drewN | apply Kd.R_drew)); exact HO525.out⟩, ⟨by (with_reducible repeat (first | apply Kd.R_alloc | apply Kd.R_drewN | apply Kd.R_drew)); exact HO_516000.out⟩, ⟨by (with_reducible repeat (first | apply Kd.R_alloc | apply Kd.R_drewN | apply Kd.R_drew)); exact HO_516001.out⟩, ⟨by (with_reducible repeat (first | apply Kd.S_alloc | apply Kd.S_drewN | apply Kd.S_drew)); exact HO_516002.out⟩, ⟨by (with_reducible repeat (first | apply Kd.R_alloc | apply Kd.R_drewN | apply Kd.R_drew)); exact HO_516003.out⟩, ⟨by (with_reducible repeat (first | refine blk_drewN ?_ _ | refine blk_drew ?_ | refine blk_alloc ?_ _)); exact BK502.out⟩, ⟨by (with_reducible repeat (first | refine blk_drewN ?_ _ | refine blk_drew ?_ | refine blk_alloc ?_ _)); exact BK515.out⟩, ⟨bQ2 GE502.out GE515.out⟩⟩
     case round =>
      clear H'
      try clear c1
      try clear c2
      try clear p2
      try clear c3
      try clear c4
      try clear p6
      try clear c9
      try clear c12
      try clear c13
      try clear c14
      try clear c15
      try clear c16
      try clear c18
      try clear c18b0
      try clear c18b1
      try clear c19
      try clear c22
      try clear c25
      try clear c25b0
      try clear c27
      try clear c27b0
      try clear c27b1
      try clear c28
      try clear c31
      try clear c31b0
      try clear c31b1
      try clear c32
      try clear hcz13_0
      try clear hcz13_1
      try clear hcz13_2
      try clear hcz13_3
      try clear hcz23_0
      try clear hcz23_1
      try clear hcz23_2
      try clear hcz23_3
      try clear hcz29_0
      try clear hcz29_1
      try clear hcz29_2
      try clear hcz29_3
      try clear hcz33_0
      try clear hcz33_1
      try clear hcz33_2
      try clear hcz33_3
      try clear hcz8_0
      try clear hcz8_1
      try clear hcz8_2
      try clear hcz8_3
      try clear hcz8_4
      try clear hcz8_5
      try clear hcz8_6
      try clear hfz13_0
      try clear hfz13_1
      try clear hfz13_2
      try clear hfz13_3
      try clear hfz23_0
      try clear hfz23_1
      try clear hfz23_2
      try clear hfz23_3
      try clear hfz29_0
      try clear hfz29_1
      try clear hfz29_2
      try clear hfz29_3
      try clear hfz33_0
      try clear hfz33_1
      try clear hfz33_2
      try clear hfz33_3
      try clear hfz8_0
      try clear hfz8_1
      try clear hfz8_2
      try clear hfz8_3
      try clear hfz8_4
      try clear hfz8_5
      try clear hfz8_6
      try clear p2
      obtain ⟨x13_3, x17_3, rfl, HA, HK3, HO_11, HO_13, HO_15, HO_516000, HO_516001, HO_516002, HO_516003, BK502, BK515, HB⟩ := hrel
      cases gk with
      | zero => exact absurd HA.out (by simp [foretellkeep_BehindNext.l1])
      | succ k3 =>
       have H := HA.out
       clear HA
       simp only [foretellkeep_BehindNext.l1] at H
       by_cases c35 : x17_3 < (t523.length : Int)
       rotate_left
       ·
        rw [if_neg c35] at H
        have c35b0 : decide (x17_3 < (t523.length : Int)) = false := decide_eq_false c35
        clear c35
        have H' := Aside0.mk H
        clear H
        obtain ⟨Ao43, co43, eo43⟩ := Kd.R_slice HO_15.out
        subst eo43
        go_wp2
        go_roundg k3
        case measure => have := HJ5.out; have := HK2.out; have := HK3.out; omega
        case rel => exact ⟨(x13_3), (wrap64 (x14_2 + 1)), (by first | rfl | (simp; done) | (simp [*]; done)), H', ⟨by have := HJ5.out; have := HK2.out; have := HK3.out; omega⟩, ⟨by (with_reducible repeat (first | apply Kd.R_alloc | apply Kd.R_drewN | apply Kd.R_drew)); exact HO_11.out⟩, ⟨by (with_reducible repeat (first | apply Kd.R_alloc | apply Kd.R_drewN | apply Kd.R_drew)); exact HO_13.out⟩, ⟨by (with_reducible repeat (first | apply Kd.R_alloc | apply Kd.R_drewN | apply Kd.R_drew)); exact HO_516000.out⟩, ⟨by (with_reducible repeat (first | apply Kd.R_alloc | apply Kd.R_drewN | apply Kd.R_drew)); exact HO_516001.out⟩, ⟨by (with_reducible repeat (first | apply Kd.S_alloc | apply Kd.S_drewN | apply Kd.S_drew)); exact HO_516002.out⟩, ⟨by (with_reducible repeat (first | apply Kd.R_alloc | apply Kd.R_drewN | apply Kd.R_drew)); exact HO_516003.out⟩, ⟨by (with_reducible repeat (first | refine blk_drewN ?_ _ | refine blk_drew ?_ | refine blk_alloc ?_ _)); exact BK502.out⟩, ⟨by (with_reducible repeat (first | refine blk_drewN ?_ _ | refine blk_drew ?_ | refine blk_alloc ?_ _)); exact BK515.out⟩, ⟨bQ2 GE502.out GE515.out⟩⟩
       rw [if_pos c35] at H
       have c35b0 : decide (x17_3 < (t523.length : Int)) = true := decide_eq_true c35
       clear c35
       by_cases c36 : 0 ≤ x17_3
       rotate_left
       ·
        rw [if_neg c36] at H
        exact absurd H (by simp)
       rw [if_pos c36] at H
       have c36b0 : decide (0 ≤ x17_3) = true := decide_eq_true c36
       clear c36
       replace H := Option.bind_eq_some_iff.mp H
       obtain ⟨t528, A370, H⟩ := H
       replace H : (if t528 = true then (if x13_3.length < 17592186044416 then (foretellkeep_BehindNext.l1 k3 t518 t519 t522 (x13_3 ++ [(rd_T45 t523 x17_3).f0]) x14_2 t523 (wrap64 (x17_3 + 1)) t503 t506 t509 t512) else (none)) else (some false)) = some r := H
       have A37 := Aside0.mk A370
       clear A370
       by_cases c38 : t528 = true
       rotate_left
       ·
        replace c38 := Bool.eq_false_iff.mpr c38
        subst c38
        have H1 : (some false) = some r := by rw [if_neg (show ¬ (false = true) by decide)] at H; exact H
        clear H
        have H := H1
        clear H1
        exact absurd ((Option.some.inj H).trans hr_.out) (by decide)
       subst c38
       have H1 : (if x13_3.length < 17592186044416 then (foretellkeep_BehindNext.l1 k3 t518 t519 t522 (x13_3 ++ [(rd_T45 t523 x17_3).f0]) x14_2 t523 (wrap64 (x17_3 + 1)) t503 t506 t509 t512) else (none)) = some r := by rw [if_pos rfl] at H; exact H
       clear H
       have H := H1
       clear H1
       by_cases c39 : x13_3.length < 17592186044416
       rotate_left
       ·
        rw [if_neg c39] at H
        exact absurd H (by simp)
       rw [if_pos c39] at H
       have LMc39 := Aside0.mk c39
       clear c39
       obtain ⟨y530, hy530⟩ : ∃ y_ : List Int, y_ = (x13_3 ++ [(rd_T45 t523 x17_3).f0]) := ⟨_, rfl⟩
       replace H : (foretellkeep_BehindNext.l1 k3 t518 t519 t522 y530 x14_2 t523 (wrap64 (x17_3 + 1)) t503 t506 t509 t512) = some r := by first | (rw [hy530]; with_reducible exact H) | (have H2_ := (Option.bind_some _ _).symm.trans H; rw [hy530]; with_reducible exact H2_) | (have H2_ := (Option.bind_some _ _).symm.trans H; with_reducible exact H2_) | with_reducible exact H | (rw [hy530]; exact H) | exact H
       have Ny530 := Aside0.mk hy530
       clear hy530
       have H' := Aside0.mk H
       clear H
       obtain ⟨Ao40, co40, eo40⟩ := Kd.R_slice HO_15.out
       subst eo40
       have p527 : 0 ≤ (x17_3 : Int) := of_decide_eq_true (by first | (with_reducible assumption) | assumption)
       have q527 : x17_3 < (t523.length : Int) := of_decide_eq_true (by first | (with_reducible assumption) | assumption)
       obtain ⟨ad527, e527, hx527_0, hx527_1⟩ := at_T45 (Kd.R_reads' HO_15.out).2.2 x17_3 p527 q527
       cases e527
       replace p527 := eq_true p527
       replace q527 := eq_true q527
       obtain ⟨Ao41, co41, eo41⟩ := Kd.R_slice HO_11.out
       subst eo41
       go_wp2_with (first | ((with_reducible refine gate_callee (f := 17) rfl ?_); refine goesL_ (some 72) rfl rfl Tryd.func17 (by kernel_rfl) rfl #[.slice Ao41 t519.length co41, .int .i64 ((rd_T45 t523 x17_3).f0)] rfl mQ ?_; (with_reducible refine (foretellkeep_has.calls k3 _ _ t519 ((rd_T45 t523 x17_3).f0) true _ ?side1 ?side2 A37.out).mono ?_); (case side1 => repeat (first | exact (Kd.R_reads' HO_11.out).2.2 | (with_reducible refine Kd.C_alloc ?_ _) | (with_reducible refine Kd.C_drewN ?_ _) | (with_reducible refine Kd.C_drew ?_))); (case side2 => exact (Kd.R_reads' HO_11.out).2.1); rintro e w' ⟨rfl, ⟨nd, rfl⟩⟩; refine ⟨_, rfl, ?_⟩; have p529 : 0 ≤ (x17_3 : Int) := of_decide_eq_true (by first | (with_reducible assumption) | assumption); have q529 : x17_3 < (t523.length : Int) := of_decide_eq_true (by first | (with_reducible assumption) | assumption); obtain ⟨ad529, e529, hx529_0, hx529_1⟩ := at_T45 (Kd.R_reads' HO_15.out).2.2 x17_3 p529 q529; obtain rfl : ad527 = ad529 := (by injection e529); replace p529 := eq_true p529; replace q529 := eq_true q529) | ((with_reducible refine gate_builtin (b := .append) (xs := #[.tmp 74, .tmp 80]) rfl ?_); (try (refine gate_guard (by rfl) ?_; dsimp only)); at_builtin; refine Kd.R_append (Kd.int .i64) (w0 := w) w.heap.size rfl (.tmp 74) (.tmp 80) 43 3 (.int .i64 0) 8 rfl Tryd.underlying43 info3 rfl (by decide) (by omega) u13 x13_3 ((rd_T45 t523 x17_3).f0) [.int .i64 ((rd_T45 t523 x17_3).f0)] (fun k_ => some k_ ≠ (.slice Ao41 t519.length co41 : Value).ownBlock) (fun _ => False) rfl rfl ?aP (fun _ hk => hk.elim) ?aF ?aO ?aB ?aS ?aL ?_; (case aP => exact rfl); (case aB => exact (bQ2 GE502.out GE515.out)); (case aF => exact (fun k_ hk => Kd.fresh' (Kd.R_lt (rQR HO_11.out)) k_ hk)); (case aO => exact (rQR HO_13.out)); (case aS => exact (below_size (bQ2 GE502.out GE515.out))); (case aL => have := LMc39.out; omega); intro v531 w42 ho hb hg hat; rw [← Ny530.out] at ho; have n0_ := Aside0.mk (Kd.R_after (ok := (fun _ => True)) (by (with_reducible repeat (first | apply Kd.R_alloc | apply Kd.R_drewN | apply Kd.R_drew)); exact Kd.R_mono HO_11.out (fun _ hk => ⟨trivial, hk⟩)) hg hat); have n1_ := Aside0.mk (Kd.R_over' (rQR HO_15.out) (Kd.R_typed (rQR HO_13.out)) (by decide) hg); have n2_ := Aside0.mk (Kd.R_over' (rQR HO_516000.out) (Kd.R_typed (rQR HO_13.out)) (by decide) hg); have n3_ := Aside0.mk (Kd.R_over' (rQR HO_516001.out) (Kd.R_typed (rQR HO_13.out)) (by decide) hg); have n4_ := Aside0.mk (Kd.S_over' (rQS HO_516002.out) (Kd.R_typed (rQR HO_13.out)) (by decide) hg); have n5_ := Aside0.mk (Kd.R_over' (rQR HO_516003.out) (Kd.R_typed (rQR HO_13.out)) (by decide) hg); have n6_ := Aside0.mk (blk_grown (g := gb502) (o := .cells #[.int .i64 a0_0, .int .i64 a0_1, .int .i64 a0_2, .int .i64 a0_3, .int .i64 a0_4, .int .i64 a0_5, .slice A0_6 l0_6.length c0_6] 25 (0, 0)) (kQ BK502.out) hg (Kd.R_ne HO_13.out BK502.out (by decide))); have n7_ := Aside0.mk (blk_grown (g := gb515) (o := .cells #[.slice Ao11 t503.length co11, .slice Ao14 t506.length co14, .slice Ao15 t509.length co15, .slice Ao16 t512.length co16] 34 (0, 0)) (kQ BK515.out) hg (Kd.R_ne HO_13.out BK515.out (by decide))); have n8_ := Aside0.mk (hb); have n9_ := Aside0.mk (ho); clear HO_11; clear HO_15; clear HO_516000; clear HO_516001; clear HO_516002; clear HO_516003; clear BK502; clear BK515; clear HB; clear HO_13; have HO_11 := n0_; have HO_15 := n1_; have HO_516000 := n2_; have HO_516001 := n3_; have HO_516002 := n4_; have HO_516003 := n5_; have BK502 := n6_; have BK515 := n7_; have HB := n8_; have HO532 := n9_; clear n0_ n1_ n2_ n3_ n4_ n5_ n6_ n7_ n8_ n9_; clear ho hb hg hat))
       go_roundg k3
       case measure => have := HJ5.out; have := HK2.out; have := HK3.out; omega
       case rel => exact ⟨(y530), (wrap64 (x17_3 + 1)), (by first | rfl | (simp; done) | (simp [*]; done)), H', ⟨by have := HJ5.out; have := HK2.out; have := HK3.out; omega⟩, ⟨by (with_reducible repeat (first | apply Kd.R_alloc | apply Kd.R_drewN | apply Kd.R_drew)); exact Kd.R_mono HO_11.out (fun _ hk => hk.2)⟩, ⟨by (with_reducible repeat (first | apply Kd.R_alloc | apply Kd.R_drewN | apply Kd.R_drew)); exact HO532.out⟩, ⟨by (with_reducible repeat (first | apply Kd.R_alloc | apply Kd.R_drewN | apply Kd.R_drew)); exact HO_15.out⟩, ⟨by (with_reducible repeat (first | apply Kd.R_alloc | apply Kd.R_drewN | apply Kd.R_drew)); exact HO_516000.out⟩, ⟨by (with_reducible repeat (first | apply Kd.R_alloc | apply Kd.R_drewN | apply Kd.R_drew)); exact HO_516001.out⟩, ⟨by (with_reducible repeat (first | apply Kd.S_alloc | apply Kd.S_drewN | apply Kd.S_drew)); exact HO_516002.out⟩, ⟨by (with_reducible repeat (first | apply Kd.R_alloc | apply Kd.R_drewN | apply Kd.R_drew)); exact HO_516003.out⟩, ⟨by (with_reducible repeat (first | refine blk_drewN ?_ _ | refine blk_drew ?_ | refine blk_alloc ?_ _)); exact BK502.out⟩, ⟨by (with_reducible repeat (first | refine blk_drewN ?_ _ | refine blk_drew ?_ | refine blk_alloc ?_ _)); exact BK515.out⟩, ⟨bQ2 GE502.out GE515.out⟩⟩

end Go.Proofs.YtbokbbcoekeoaaaDoor.P
end
