-- PACKED by pack.py of this repo: FProductBehind
import Derived.Test.YtbokbbcoekeoaaaDoorJ1
import Derived.Test.YtbokbbcoekeoaaaDoorJ20
import Derived.Test.YtbokbbcoekeoaaaDoorJ21
import Derived.Test.YtbokbbcoekeoaaaDoorJ18
import Derived.Test.YtbokbbcoekeoaaaDoorJ22
import Derived.Test.YtbokbbcoekeoaaaDoorJ24
section
namespace Go.Proofs.YtbokbbcoekeoaaaDoor.P
open Go.RowKit Go.Proofs.YtbokbbcoekeoaaaDoorW.PrintWords Go.Proofs.YtbokbbcoekeoaaaDoorW.PrintLast Go.Proofs.YtbokbbcoekeoaaaDoorW.PrintMore Go.Proofs.YtbokbbcoekeoaaaDoor.G
attribute [local go_sem] max2_int min2_int max_two min_two max_three min_three max_four min_four
set_option linter.unusedVariables false
set_option linter.unusedSimpArgs false

mutual
def product_Behind.l0 : Nat → List Bool → List (S45) → List Int → Int → Int → List (S77) → List (S118) → List (List (S72)) → List (S72) → Int → Int → Option ((List (S45)) × Int)
 | 0, _, _, _, _, _, _, _, _, _, _, _ => none
 | k + 1, x7, x11, x46, x47, x48, x479000, x479001, x479002, x479003, x480000, x480001 => if x48 < x47 then (if 0 ≤ x48 then (if x48 < (x46.length : Int) then ((step_Letter.f k x479000 x479001 x479002 (rd x46 x48)).bind fun bt491 => ((product_claims.f k x479000 x479001 x479002 x479003).bind fun t495 => (product_Behind.l1 k x7 x11 (rd x46 x48) bt491.1 x46 x47 x48 t495 0 x479000 x479001 x479002 x479003 x480000 x480001))) else (none)) else (none)) else (some (x11, 0))
def product_Behind.l1 : Nat → List Bool → List (S45) → Int → List Bool → List Int → Int → Int → Int → Int → List (S77) → List (S118) → List (List (S72)) → List (S72) → Int → Int → Option ((List (S45)) × Int)
 | 0, _, _, _, _, _, _, _, _, _, _, _, _, _, _, _ => none
 | k + 1, x7, x11, x13, x14, x46, x47, x48, x62, x63, x479000, x479001, x479002, x479003, x480000, x480001 => if x63 < x62 then ((logic_Follows.f k x479003 x7 x480001 x14 x63).bind fun bt496 => (if bt496.1 = true then (if x11.length < 8796093022208 then (product_Behind.l1 k x7 (x11 ++ [(⟨x13, x63⟩ : S45)]) x13 x14 x46 x47 x48 x62 (wrap64 (x63 + 1)) x479000 x479001 x479002 x479003 x480000 x480001) else (none)) else (product_Behind.l1 k x7 x11 x13 x14 x46 x47 x48 x62 (wrap64 (x63 + 1)) x479000 x479001 x479002 x479003 x480000 x480001))) else (product_Behind.l0 k x7 x11 x46 x47 (wrap64 (x48 + 1)) x479000 x479001 x479002 x479003 x480000 x480001)
end
def product_Behind.f (k : Nat) (l0_0 : List (S77)) (l0_1 : List (S118)) (l0_2 : List (List (S72))) (l0_3 : List (S72)) (a1_0 : Int) (a1_1 : Int) : Option ((List (S45)) × Int) := (product_Check.f k l0_0 l0_1 l0_2 l0_3).bind fun t480 => (if t480 = 0 then ((product_spot.f k l0_0 l0_1 l0_2 l0_3 a1_0 a1_1).bind fun t481 => (if t481 = true then ((step_Letter.f k l0_0 l0_1 l0_2 a1_0).bind fun bt482 => ((step_Next.f k l0_0 l0_1 a1_0).bind fun bt486 => (product_Behind.l0 k bt482.1 ([] : List (S45)) bt486.1 (bt486.1.length : Int) 0 l0_0 l0_1 l0_2 l0_3 a1_0 a1_1))) else (some (([] : List (S45)), 9)))) else (none))
theorem product_Behind.mono_l : ∀ k, (∀ y0 y1 y2 y3 y4 y5 y6 y7 y8 y9 y10, LeO (product_Behind.l0 k y0 y1 y2 y3 y4 y5 y6 y7 y8 y9 y10) (product_Behind.l0 (k + 1) y0 y1 y2 y3 y4 y5 y6 y7 y8 y9 y10)) ∧ (∀ y0 y1 y2 y3 y4 y5 y6 y7 y8 y9 y10 y11 y12 y13 y14, LeO (product_Behind.l1 k y0 y1 y2 y3 y4 y5 y6 y7 y8 y9 y10 y11 y12 y13 y14) (product_Behind.l1 (k + 1) y0 y1 y2 y3 y4 y5 y6 y7 y8 y9 y10 y11 y12 y13 y14))
 | 0 => ⟨fun _ _ _ _ _ _ _ _ _ _ _ r h => by simp [product_Behind.l0] at h, fun _ _ _ _ _ _ _ _ _ _ _ _ _ _ _ r h => by simp [product_Behind.l1] at h⟩
 | k + 1 => by
  obtain ⟨ih0, ih1⟩ := product_Behind.mono_l k
  refine ⟨?_, ?_⟩
  ·
   intro y0 y1 y2 y3 y4 y5 y6 y7 y8 y9 y10
   unfold product_Behind.l0
   repeat' first
   | (with_reducible exact ih1 _ _ _ _ _ _ _ _ _ _ _ _ _ _ _)
   | (with_reducible exact product_claims.mono _ _ _ _ _)
   | (with_reducible exact step_Letter.mono _ _ _ _ _)
   | (with_reducible exact LeO.refl _)
   | (with_reducible exact LeO.none _)
   | (with_reducible refine LeO.ite ?_ ?_)
   | (with_reducible refine LeO.bind ?_ (fun _ => ?_))
   | exact ih1 _ _ _ _ _ _ _ _ _ _ _ _ _ _ _
   | exact product_claims.mono _ _ _ _ _
   | exact step_Letter.mono _ _ _ _ _
   | exact LeO.none _
   | refine LeO.ite ?_ ?_
   | refine LeO.bind ?_ (fun _ => ?_)
  ·
   intro y0 y1 y2 y3 y4 y5 y6 y7 y8 y9 y10 y11 y12 y13 y14
   unfold product_Behind.l1
   repeat' first
   | (with_reducible exact ih0 _ _ _ _ _ _ _ _ _ _ _)
   | (with_reducible exact ih1 _ _ _ _ _ _ _ _ _ _ _ _ _ _ _)
   | (with_reducible exact logic_Follows.mono _ _ _ _ _ _)
   | (with_reducible exact LeO.refl _)
   | (with_reducible exact LeO.none _)
   | (with_reducible refine LeO.ite ?_ ?_)
   | (with_reducible refine LeO.bind ?_ (fun _ => ?_))
   | exact ih0 _ _ _ _ _ _ _ _ _ _ _
   | exact ih1 _ _ _ _ _ _ _ _ _ _ _ _ _ _ _
   | exact logic_Follows.mono _ _ _ _ _ _
   | exact LeO.none _
   | refine LeO.ite ?_ ?_
   | refine LeO.bind ?_ (fun _ => ?_)
theorem product_Behind.mono : ∀ a0 a1 a2 a3 a4 a5 k, LeO (product_Behind.f k a0 a1 a2 a3 a4 a5) (product_Behind.f (k + 1) a0 a1 a2 a3 a4 a5) := by
 intro a0 a1 a2 a3 a4 a5 k
 obtain ⟨ih0, ih1⟩ := product_Behind.mono_l k
 unfold product_Behind.f
 repeat' first
   | (with_reducible exact ih0 _ _ _ _ _ _ _ _ _ _ _)
   | (with_reducible exact product_Check.mono _ _ _ _ _)
   | (with_reducible exact product_spot.mono _ _ _ _ _ _ _)
   | (with_reducible exact step_Letter.mono _ _ _ _ _)
   | (with_reducible exact step_Next.mono _ _ _ _)
   | (with_reducible exact LeO.refl _)
   | (with_reducible exact LeO.none _)
   | (with_reducible refine LeO.ite ?_ ?_)
   | (with_reducible refine LeO.bind ?_ (fun _ => ?_))
   | exact ih0 _ _ _ _ _ _ _ _ _ _ _
   | exact product_Check.mono _ _ _ _ _
   | exact product_spot.mono _ _ _ _ _ _ _
   | exact step_Letter.mono _ _ _ _ _
   | exact step_Next.mono _ _ _ _
   | exact LeO.none _
   | refine LeO.ite ?_ ?_
   | refine LeO.bind ?_ (fun _ => ?_)
set_option maxHeartbeats 8000000 in
set_option maxRecDepth 100000 in
theorem product_Behind.calls (k : Nat) (A0_0 : Option Addr) (c0_0 : Nat) (l0_0 : List (S77)) (A0_1 : Option Addr) (c0_1 : Nat) (l0_1 : List (S118)) (A0_2 : Option Addr) (c0_2 : Nat) (l0_2 : List (List (S72))) (A0_3 : Option Addr) (c0_3 : Nat) (l0_3 : List (S72)) (a1_0 : Int) (a1_1 : Int) (r1 : List (S45)) (r2 : Int) (w : World) (hr0_0 : Kd.C k77 w A0_0 l0_0.length l0_0) (hc0_0 : l0_0.length ≤ c0_0) (hr0_1 : Kd.C k118 w A0_1 l0_1.length l0_1) (hc0_1 : l0_1.length ≤ c0_1) (hr0_2 : Kd.C (Kd.slice 72 k72) w A0_2 l0_2.length l0_2) (hc0_2 : l0_2.length ≤ c0_2) (hr0_3 : Kd.C k72 w A0_3 l0_3.length l0_3) (hc0_3 : l0_3.length ≤ c0_3) (hG_ : Glob w) (h : product_Behind.f k l0_0 l0_1 l0_2 l0_3 a1_0 a1_1 = some (r1, r2)) :
  Calls Tryd.prog 16 #[.agg #[.slice A0_0 l0_0.length c0_0, .slice A0_1 l0_1.length c0_1, .slice A0_2 l0_2.length c0_2, .slice A0_3 l0_3.length c0_3], .agg #[.int .i64 a1_0, .int .i64 a1_1]] w fun e w' => ∃ v0_ : Value, e = .returned (.tuple #[v0_, .int .i64 r2]) ∧ Kd.R k45 45 w' w.heap.size (fun _ => True) v0_ r1 ∧ Below w.heap.size w w' := by
 have hu34 := Tryd.underlying34
 have hu45 := Tryd.underlying45
 have hu30 := Tryd.underlying30
 have HR0_0 := Aside0.mk hr0_0
 have HC0_0 := Aside0.mk hc0_0
 clear hr0_0 hc0_0
 have HR0_1 := Aside0.mk hr0_1
 have HC0_1 := Aside0.mk hc0_1
 clear hr0_1 hc0_1
 have HR0_2 := Aside0.mk hr0_2
 have HC0_2 := Aside0.mk hc0_2
 clear hr0_2 hc0_2
 have HR0_3 := Aside0.mk hr0_3
 have HC0_3 := Aside0.mk hc0_3
 clear hr0_3 hc0_3
 have HB := Aside0.mk (Below.refl w.heap.size w)
 have H : ((product_Check.f k l0_0 l0_1 l0_2 l0_3).bind fun t480 => (if t480 = 0 then ((product_spot.f k l0_0 l0_1 l0_2 l0_3 a1_0 a1_1).bind fun t481 => (if t481 = true then ((step_Letter.f k l0_0 l0_1 l0_2 a1_0).bind fun bt482 => ((step_Next.f k l0_0 l0_1 a1_0).bind fun bt486 => (product_Behind.l0 k bt482.1 ([] : List (S45)) bt486.1 (bt486.1.length : Int) 0 l0_0 l0_1 l0_2 l0_3 a1_0 a1_1))) else (some (([] : List (S45)), 9)))) else (none))) = some (r1, r2) := h
 clear h
 replace H := Option.bind_eq_some_iff.mp H
 obtain ⟨t480, A30, H⟩ := H
 replace H : (if t480 = 0 then ((product_spot.f k l0_0 l0_1 l0_2 l0_3 a1_0 a1_1).bind fun t481 => (if t481 = true then ((step_Letter.f k l0_0 l0_1 l0_2 a1_0).bind fun bt482 => ((step_Next.f k l0_0 l0_1 a1_0).bind fun bt486 => (product_Behind.l0 k bt482.1 ([] : List (S45)) bt486.1 (bt486.1.length : Int) 0 l0_0 l0_1 l0_2 l0_3 a1_0 a1_1))) else (some (([] : List (S45)), 9)))) else (none)) = some (r1, r2) := H
 have A3 := Aside0.mk A30
 clear A30
 by_cases c4 : t480 = 0
 rotate_left
 ·
  rw [if_neg c4] at H
  exact absurd H (by simp)
 rw [if_pos c4] at H
 have c4b0 : (t480 == 0) = true := beq_iff_eq.mpr c4
 have c4b1 : (t480 != 0) = false := bne_eq_false_iff_eq.mpr c4
 clear c4
 replace H := Option.bind_eq_some_iff.mp H
 obtain ⟨t481, A50, H⟩ := H
 replace H : (if t481 = true then ((step_Letter.f k l0_0 l0_1 l0_2 a1_0).bind fun bt482 => ((step_Next.f k l0_0 l0_1 a1_0).bind fun bt486 => (product_Behind.l0 k bt482.1 ([] : List (S45)) bt486.1 (bt486.1.length : Int) 0 l0_0 l0_1 l0_2 l0_3 a1_0 a1_1))) else (some (([] : List (S45)), 9))) = some (r1, r2) := H
 have A5 := Aside0.mk A50
 clear A50
 by_cases c6 : t481 = true
 rotate_left
 ·
  replace c6 := Bool.eq_false_iff.mpr c6
  subst c6
  have H1 : (some (([] : List (S45)), 9)) = some (r1, r2) := by rw [if_neg (show ¬ (false = true) by decide)] at H; exact H
  clear H
  have H := H1
  clear H1
  simp only [Option.some.injEq, Prod.mk.injEq] at H
  obtain ⟨rfl, rfl⟩ := H
  go_enter Tryd.func16, Tryd.ntmps16
  go_wp2_with (first | ((with_reducible refine gate_dst (N := 2) rfl ?_); refine box_event ?hg (N := 2) ?hd (cs := #[.slice A0_0 l0_0.length c0_0, .slice A0_1 l0_1.length c0_1, .slice A0_2 l0_2.length c0_2, .slice A0_3 l0_3.length c0_3]) (t := 34) ?hr ?_; (case hd => rfl); (case hg => rfl); (case hr => first | (go_simp; done) | (go_simp; rfl)); intro gb478 hg w51 hbox hb; have n0_ := Aside0.mk (below_step (bQ) hb); have n1_ := Aside0.mk (hbox); have n2_ := Aside0.mk ((by rw [hg]; exact (below_size (bQ)) : w.heap.size ≤ gb478)); have n3_ := n2_; clear HB; have HB := n0_; have BK478 := n1_; have GW478 := n2_; have GE478 := n3_; clear n0_ n1_ n2_ n3_; clear hb hbox hg) | ((with_reducible refine gate_dst (N := 3) rfl ?_); refine box_event ?hg (N := 3) ?hd (cs := #[.int .i64 a1_0, .int .i64 a1_1]) (t := 45) ?hr ?_; (case hd => rfl); (case hg => rfl); (case hr => first | (go_simp; done) | (go_simp; rfl)); intro gb479 hg w52 hbox hb; have n0_ := Aside0.mk (blk_below (kQ BK478.out) hb); have n1_ := Aside0.mk (below_step (bQ1 GE478.out) hb); have n2_ := Aside0.mk (hbox); have n3_ := Aside0.mk ((by rw [hg]; exact (below_size (bQ1 GE478.out)) : w.heap.size ≤ gb479)); have n4_ := n3_; have n5_ := Aside0.mk ((by rw [hg]; exact Nat.ne_of_lt (blk_lt (kQ BK478.out)) : gb478 ≠ gb479)); have n6_ := Aside0.mk ((by rw [hg]; exact Nat.ne_of_gt (blk_lt (kQ BK478.out)) : gb479 ≠ gb478)); clear BK478; clear HB; have BK478 := n0_; have HB := n1_; have BK479 := n2_; have GW479 := n3_; have GE479 := n4_; have NB478_479 := n5_; have NB479_478 := n6_; clear n0_ n1_ n2_ n3_ n4_ n5_ n6_; clear hb hbox hg; have hnb53 := NB478_479.out; have hnc53 := NB479_478.out; have hcz54_0 : w52.cell? ⟨gb478, 0, none⟩ = some (.slice A0_0 l0_0.length c0_0) := (blk_cell BK478.out 0).trans rfl; have hcz54_1 : w52.cell? ⟨gb478, 1, none⟩ = some (.slice A0_1 l0_1.length c0_1) := (blk_cell BK478.out 1).trans rfl; have hcz54_2 : w52.cell? ⟨gb478, 2, none⟩ = some (.slice A0_2 l0_2.length c0_2) := (blk_cell BK478.out 2).trans rfl; have hcz54_3 : w52.cell? ⟨gb478, 3, none⟩ = some (.slice A0_3 l0_3.length c0_3) := (blk_cell BK478.out 3).trans rfl; have hfz54_0 := blk_frozen BK478.out 0; have hfz54_1 := blk_frozen BK478.out 1; have hfz54_2 := blk_frozen BK478.out 2; have hfz54_3 := blk_frozen BK478.out 3) | ((with_reducible refine gate_callee (f := 21) rfl ?_); refine goesL_ (some 20) rfl rfl Tryd.func21 (by kernel_rfl) rfl #[.agg #[.slice A0_0 l0_0.length c0_0, .slice A0_1 l0_1.length c0_1, .slice A0_2 l0_2.length c0_2, .slice A0_3 l0_3.length c0_3]] rfl mQ ?_; (with_reducible refine (product_Check.calls k _ _ l0_0 _ _ l0_1 _ _ l0_2 _ _ l0_3 t480 _ ?side1 ?side2 ?side3 ?side4 ?side5 ?side6 ?side7 ?side8 ?side9 A3.out).mono ?_); (case side1 => exact cQ HR0_0.out); (case side2 => exact HC0_0.out); (case side3 => exact cQ HR0_1.out); (case side4 => exact HC0_1.out); (case side5 => exact cQ HR0_2.out); (case side6 => exact HC0_2.out); (case side7 => exact cQ HR0_3.out); (case side8 => exact HC0_3.out); (case side9 => first | exact hG_ | exact Glob.drewN hG_ _ | exact Glob.below hG_ (bQ2 GE478.out GE479.out)); rintro e w55 ⟨rfl, hb⟩; refine ⟨_, rfl, ?_⟩; have n0_ := Aside0.mk (blk_below (kQ BK478.out) hb); have n1_ := Aside0.mk (blk_below (kQ BK479.out) hb); have n2_ := Aside0.mk (below_step (bQ2 GE478.out GE479.out) hb); clear BK478; clear BK479; clear HB; have BK478 := n0_; have BK479 := n1_; have HB := n2_; clear n0_ n1_ n2_; (try clear hb); (try clear hb2); (try clear hk); (try clear hi); have hcz56_0 : w55.cell? ⟨gb478, 0, none⟩ = some (.slice A0_0 l0_0.length c0_0) := (blk_cell BK478.out 0).trans rfl; have hcz56_1 : w55.cell? ⟨gb478, 1, none⟩ = some (.slice A0_1 l0_1.length c0_1) := (blk_cell BK478.out 1).trans rfl; have hcz56_2 : w55.cell? ⟨gb478, 2, none⟩ = some (.slice A0_2 l0_2.length c0_2) := (blk_cell BK478.out 2).trans rfl; have hcz56_3 : w55.cell? ⟨gb478, 3, none⟩ = some (.slice A0_3 l0_3.length c0_3) := (blk_cell BK478.out 3).trans rfl; have hfz56_0 := blk_frozen BK478.out 0; have hfz56_1 := blk_frozen BK478.out 1; have hfz56_2 := blk_frozen BK478.out 2; have hfz56_3 := blk_frozen BK478.out 3; have hcz57_0 : w55.cell? ⟨gb479, 0, none⟩ = some (.int .i64 a1_0) := (blk_cell BK479.out 0).trans rfl; have hcz57_1 : w55.cell? ⟨gb479, 1, none⟩ = some (.int .i64 a1_1) := (blk_cell BK479.out 1).trans rfl; have hfz57_0 := blk_frozen BK479.out 0; have hfz57_1 := blk_frozen BK479.out 1) | ((with_reducible refine gate_callee (f := 34) rfl ?_); refine goesL_ (some 26) rfl rfl Tryd.func34 (by kernel_rfl) rfl #[.agg #[.slice A0_0 l0_0.length c0_0, .slice A0_1 l0_1.length c0_1, .slice A0_2 l0_2.length c0_2, .slice A0_3 l0_3.length c0_3], .agg #[.int .i64 a1_0, .int .i64 a1_1]] rfl mQ ?_; (with_reducible refine (product_spot.calls k _ _ l0_0 _ _ l0_1 _ _ l0_2 _ _ l0_3 a1_0 a1_1 false _ ?side1 ?side2 ?side3 ?side4 ?side5 ?side6 ?side7 ?side8 ?side9 A5.out).mono ?_); (case side1 => exact cQ HR0_0.out); (case side2 => exact HC0_0.out); (case side3 => exact cQ HR0_1.out); (case side4 => exact HC0_1.out); (case side5 => exact cQ HR0_2.out); (case side6 => exact HC0_2.out); (case side7 => exact cQ HR0_3.out); (case side8 => exact HC0_3.out); (case side9 => first | exact hG_ | exact Glob.drewN hG_ _ | exact Glob.below hG_ (bQ2 GE478.out GE479.out)); rintro e w58 ⟨rfl, hb⟩; refine ⟨_, rfl, ?_⟩; have n0_ := Aside0.mk (blk_below (kQ BK478.out) hb); have n1_ := Aside0.mk (blk_below (kQ BK479.out) hb); have n2_ := Aside0.mk (below_step (bQ2 GE478.out GE479.out) hb); clear BK478; clear BK479; clear HB; have BK478 := n0_; have BK479 := n1_; have HB := n2_; clear n0_ n1_ n2_; (try clear hb); (try clear hb2); (try clear hk); (try clear hi)))
  go_ret2
  exact ⟨_, by first | rfl | (simp [errW_none, errW_some] <;> rfl) | (simp [*, errW_none, errW_some] <;> rfl), by first | exact Kd.R_nil _ _ _ _ _ | exact Kd.N_nil _ _ _ _ _ | exact Kd.V_nil _ _ _ _ _ | exact Kd.Q_nil _ _ _ _ _ | exact Kd.S_nil _ _ _ _ _, bQ2 GE478.out GE479.out⟩
 subst c6
 have H1 : ((step_Letter.f k l0_0 l0_1 l0_2 a1_0).bind fun bt482 => ((step_Next.f k l0_0 l0_1 a1_0).bind fun bt486 => (product_Behind.l0 k bt482.1 ([] : List (S45)) bt486.1 (bt486.1.length : Int) 0 l0_0 l0_1 l0_2 l0_3 a1_0 a1_1))) = some (r1, r2) := by rw [if_pos rfl] at H; exact H
 clear H
 have H := H1
 clear H1
 replace H := Option.bind_eq_some_iff.mp H
 obtain ⟨⟨t482, t485⟩, A70, H⟩ := H
 replace H : ((step_Next.f k l0_0 l0_1 a1_0).bind fun bt486 => (product_Behind.l0 k t482 ([] : List (S45)) bt486.1 (bt486.1.length : Int) 0 l0_0 l0_1 l0_2 l0_3 a1_0 a1_1)) = some (r1, r2) := H
 have A7 := Aside0.mk A70
 clear A70
 replace H := Option.bind_eq_some_iff.mp H
 obtain ⟨⟨t486, t489⟩, A80, H⟩ := H
 replace H : (product_Behind.l0 k t482 ([] : List (S45)) t486 (t486.length : Int) 0 l0_0 l0_1 l0_2 l0_3 a1_0 a1_1) = some (r1, r2) := H
 have A8 := Aside0.mk A80
 clear A80
 have H' := Aside0.mk H
 clear H
 go_enter Tryd.func16, Tryd.ntmps16
 go_wp2_with (first | ((with_reducible refine gate_dst (N := 2) rfl ?_); refine box_event ?hg (N := 2) ?hd (cs := #[.slice A0_0 l0_0.length c0_0, .slice A0_1 l0_1.length c0_1, .slice A0_2 l0_2.length c0_2, .slice A0_3 l0_3.length c0_3]) (t := 34) ?hr ?_; (case hd => rfl); (case hg => rfl); (case hr => first | (go_simp; done) | (go_simp; rfl)); intro gb478 hg w9 hbox hb; have n0_ := Aside0.mk (below_step (bQ) hb); have n1_ := Aside0.mk (hbox); have n2_ := Aside0.mk ((by rw [hg]; exact (below_size (bQ)) : w.heap.size ≤ gb478)); have n3_ := n2_; clear HB; have HB := n0_; have BK478 := n1_; have GW478 := n2_; have GE478 := n3_; clear n0_ n1_ n2_ n3_; clear hb hbox hg) | ((with_reducible refine gate_dst (N := 3) rfl ?_); refine box_event ?hg (N := 3) ?hd (cs := #[.int .i64 a1_0, .int .i64 a1_1]) (t := 45) ?hr ?_; (case hd => rfl); (case hg => rfl); (case hr => first | (go_simp; done) | (go_simp; rfl)); intro gb479 hg w10 hbox hb; have n0_ := Aside0.mk (blk_below (kQ BK478.out) hb); have n1_ := Aside0.mk (below_step (bQ1 GE478.out) hb); have n2_ := Aside0.mk (hbox); have n3_ := Aside0.mk ((by rw [hg]; exact (below_size (bQ1 GE478.out)) : w.heap.size ≤ gb479)); have n4_ := n3_; have n5_ := Aside0.mk ((by rw [hg]; exact Nat.ne_of_lt (blk_lt (kQ BK478.out)) : gb478 ≠ gb479)); have n6_ := Aside0.mk ((by rw [hg]; exact Nat.ne_of_gt (blk_lt (kQ BK478.out)) : gb479 ≠ gb478)); clear BK478; clear HB; have BK478 := n0_; have HB := n1_; have BK479 := n2_; have GW479 := n3_; have GE479 := n4_; have NB478_479 := n5_; have NB479_478 := n6_; clear n0_ n1_ n2_ n3_ n4_ n5_ n6_; clear hb hbox hg; have hnb11 := NB478_479.out; have hnc11 := NB479_478.out; have hcz12_0 : w10.cell? ⟨gb478, 0, none⟩ = some (.slice A0_0 l0_0.length c0_0) := (blk_cell BK478.out 0).trans rfl; have hcz12_1 : w10.cell? ⟨gb478, 1, none⟩ = some (.slice A0_1 l0_1.length c0_1) := (blk_cell BK478.out 1).trans rfl; have hcz12_2 : w10.cell? ⟨gb478, 2, none⟩ = some (.slice A0_2 l0_2.length c0_2) := (blk_cell BK478.out 2).trans rfl; have hcz12_3 : w10.cell? ⟨gb478, 3, none⟩ = some (.slice A0_3 l0_3.length c0_3) := (blk_cell BK478.out 3).trans rfl; have hfz12_0 := blk_frozen BK478.out 0; have hfz12_1 := blk_frozen BK478.out 1; have hfz12_2 := blk_frozen BK478.out 2; have hfz12_3 := blk_frozen BK478.out 3) | ((with_reducible refine gate_callee (f := 21) rfl ?_); refine goesL_ (some 20) rfl rfl Tryd.func21 (by kernel_rfl) rfl #[.agg #[.slice A0_0 l0_0.length c0_0, .slice A0_1 l0_1.length c0_1, .slice A0_2 l0_2.length c0_2, .slice A0_3 l0_3.length c0_3]] rfl mQ ?_; (with_reducible refine (product_Check.calls k _ _ l0_0 _ _ l0_1 _ _ l0_2 _ _ l0_3 t480 _ ?side1 ?side2 ?side3 ?side4 ?side5 ?side6 ?side7 ?side8 ?side9 A3.out).mono ?_); (case side1 => exact cQ HR0_0.out); (case side2 => exact HC0_0.out); (case side3 => exact cQ HR0_1.out); (case side4 => exact HC0_1.out); (case side5 => exact cQ HR0_2.out); (case side6 => exact HC0_2.out); (case side7 => exact cQ HR0_3.out); (case side8 => exact HC0_3.out); (case side9 => first | exact hG_ | exact Glob.drewN hG_ _ | exact Glob.below hG_ (bQ2 GE478.out GE479.out)); rintro e w13 ⟨rfl, hb⟩; refine ⟨_, rfl, ?_⟩; have n0_ := Aside0.mk (blk_below (kQ BK478.out) hb); have n1_ := Aside0.mk (blk_below (kQ BK479.out) hb); have n2_ := Aside0.mk (below_step (bQ2 GE478.out GE479.out) hb); clear BK478; clear BK479; clear HB; have BK478 := n0_; have BK479 := n1_; have HB := n2_; clear n0_ n1_ n2_; (try clear hb); (try clear hb2); (try clear hk); (try clear hi); have hcz14_0 : w13.cell? ⟨gb478, 0, none⟩ = some (.slice A0_0 l0_0.length c0_0) := (blk_cell BK478.out 0).trans rfl; have hcz14_1 : w13.cell? ⟨gb478, 1, none⟩ = some (.slice A0_1 l0_1.length c0_1) := (blk_cell BK478.out 1).trans rfl; have hcz14_2 : w13.cell? ⟨gb478, 2, none⟩ = some (.slice A0_2 l0_2.length c0_2) := (blk_cell BK478.out 2).trans rfl; have hcz14_3 : w13.cell? ⟨gb478, 3, none⟩ = some (.slice A0_3 l0_3.length c0_3) := (blk_cell BK478.out 3).trans rfl; have hfz14_0 := blk_frozen BK478.out 0; have hfz14_1 := blk_frozen BK478.out 1; have hfz14_2 := blk_frozen BK478.out 2; have hfz14_3 := blk_frozen BK478.out 3; have hcz15_0 : w13.cell? ⟨gb479, 0, none⟩ = some (.int .i64 a1_0) := (blk_cell BK479.out 0).trans rfl; have hcz15_1 : w13.cell? ⟨gb479, 1, none⟩ = some (.int .i64 a1_1) := (blk_cell BK479.out 1).trans rfl; have hfz15_0 := blk_frozen BK479.out 0; have hfz15_1 := blk_frozen BK479.out 1) | ((with_reducible refine gate_callee (f := 34) rfl ?_); refine goesL_ (some 26) rfl rfl Tryd.func34 (by kernel_rfl) rfl #[.agg #[.slice A0_0 l0_0.length c0_0, .slice A0_1 l0_1.length c0_1, .slice A0_2 l0_2.length c0_2, .slice A0_3 l0_3.length c0_3], .agg #[.int .i64 a1_0, .int .i64 a1_1]] rfl mQ ?_; (with_reducible refine (product_spot.calls k _ _ l0_0 _ _ l0_1 _ _ l0_2 _ _ l0_3 a1_0 a1_1 true _ ?side1 ?side2 ?side3 ?side4 ?side5 ?side6 ?side7 ?side8 ?side9 A5.out).mono ?_); (case side1 => exact cQ HR0_0.out); (case side2 => exact HC0_0.out); (case side3 => exact cQ HR0_1.out); (case side4 => exact HC0_1.out); (case side5 => exact cQ HR0_2.out); (case side6 => exact HC0_2.out); (case side7 => exact cQ HR0_3.out); (case side8 => exact HC0_3.out); (case side9 => first | exact hG_ | exact Glob.drewN hG_ _ | exact Glob.below hG_ (bQ2 GE478.out GE479.out)); rintro e w16 ⟨rfl, hb⟩; refine ⟨_, rfl, ?_⟩; have n0_ := Aside0.mk (blk_below (kQ BK478.out) hb); have n1_ := Aside0.mk (blk_below (kQ BK479.out) hb); have n2_ := Aside0.mk (below_step (bQ2 GE478.out GE479.out) hb); clear BK478; clear BK479; clear HB; have BK478 := n0_; have BK479 := n1_; have HB := n2_; clear n0_ n1_ n2_; (try clear hb); (try clear hb2); (try clear hk); (try clear hi); have hcz17_0 : w16.cell? ⟨gb478, 0, none⟩ = some (.slice A0_0 l0_0.length c0_0) := (blk_cell BK478.out 0).trans rfl; have hcz17_1 : w16.cell? ⟨gb478, 1, none⟩ = some (.slice A0_1 l0_1.length c0_1) := (blk_cell BK478.out 1).trans rfl; have hcz17_2 : w16.cell? ⟨gb478, 2, none⟩ = some (.slice A0_2 l0_2.length c0_2) := (blk_cell BK478.out 2).trans rfl; have hcz17_3 : w16.cell? ⟨gb478, 3, none⟩ = some (.slice A0_3 l0_3.length c0_3) := (blk_cell BK478.out 3).trans rfl; have hfz17_0 := blk_frozen BK478.out 0; have hfz17_1 := blk_frozen BK478.out 1; have hfz17_2 := blk_frozen BK478.out 2; have hfz17_3 := blk_frozen BK478.out 3; have hcz18_0 : w16.cell? ⟨gb479, 0, none⟩ = some (.int .i64 a1_0) := (blk_cell BK479.out 0).trans rfl; have hcz18_1 : w16.cell? ⟨gb479, 1, none⟩ = some (.int .i64 a1_1) := (blk_cell BK479.out 1).trans rfl; have hfz18_0 := blk_frozen BK479.out 0; have hfz18_1 := blk_frozen BK479.out 1) | ((with_reducible refine gate_callee (f := 27) rfl ?_); refine goesL_ (some 35) rfl rfl Tryd.func27 (by kernel_rfl) rfl #[.agg #[.slice A0_0 l0_0.length c0_0, .slice A0_1 l0_1.length c0_1], .slice A0_2 l0_2.length c0_2, .int .i64 a1_0] rfl mQ ?_; (with_reducible refine (step_Letter.calls k _ _ l0_0 _ _ l0_1 _ _ l0_2 a1_0 t482 t485 _ ?side1 ?side2 ?side3 ?side4 ?side5 ?side6 ?side7 A7.out).mono ?_); (case side1 => exact cQ HR0_0.out); (case side2 => exact HC0_0.out); (case side3 => exact cQ HR0_1.out); (case side4 => exact HC0_1.out); (case side5 => exact cQ HR0_2.out); (case side6 => exact HC0_2.out); (case side7 => first | exact hG_ | exact Glob.drewN hG_ _ | exact Glob.below hG_ (bQ2 GE478.out GE479.out)); rintro e w19 ⟨v483, rfl, ho0, hb⟩; refine ⟨_, rfl, ?_⟩; have n0_ := Aside0.mk (Kd.R_lower ho0 (below_size (bQ2 GE478.out GE479.out))); have n1_ := Aside0.mk (blk_below (kQ BK478.out) hb); have n2_ := Aside0.mk (blk_below (kQ BK479.out) hb); have n3_ := Aside0.mk (below_step (bQ2 GE478.out GE479.out) hb); clear BK478; clear BK479; clear HB; have HO484 := n0_; have BK478 := n1_; have BK479 := n2_; have HB := n3_; clear n0_ n1_ n2_ n3_; (try clear hb); (try clear hb2); (try clear hk); (try clear hi); (try clear ho0); have hcz20_0 : w19.cell? ⟨gb478, 0, none⟩ = some (.slice A0_0 l0_0.length c0_0) := (blk_cell BK478.out 0).trans rfl; have hcz20_1 : w19.cell? ⟨gb478, 1, none⟩ = some (.slice A0_1 l0_1.length c0_1) := (blk_cell BK478.out 1).trans rfl; have hcz20_2 : w19.cell? ⟨gb478, 2, none⟩ = some (.slice A0_2 l0_2.length c0_2) := (blk_cell BK478.out 2).trans rfl; have hcz20_3 : w19.cell? ⟨gb478, 3, none⟩ = some (.slice A0_3 l0_3.length c0_3) := (blk_cell BK478.out 3).trans rfl; have hfz20_0 := blk_frozen BK478.out 0; have hfz20_1 := blk_frozen BK478.out 1; have hfz20_2 := blk_frozen BK478.out 2; have hfz20_3 := blk_frozen BK478.out 3; have hcz21_0 : w19.cell? ⟨gb479, 0, none⟩ = some (.int .i64 a1_0) := (blk_cell BK479.out 0).trans rfl; have hcz21_1 : w19.cell? ⟨gb479, 1, none⟩ = some (.int .i64 a1_1) := (blk_cell BK479.out 1).trans rfl; have hfz21_0 := blk_frozen BK479.out 0; have hfz21_1 := blk_frozen BK479.out 1) | ((with_reducible refine gate_callee (f := 15) rfl ?_); refine goesL_ (some 43) rfl rfl Tryd.func15 (by kernel_rfl) rfl #[.agg #[.slice A0_0 l0_0.length c0_0, .slice A0_1 l0_1.length c0_1], .int .i64 a1_0] rfl mQ ?_; (with_reducible refine (step_Next.calls k _ _ l0_0 _ _ l0_1 a1_0 t486 t489 _ ?side1 ?side2 ?side3 ?side4 ?side5 A8.out).mono ?_); (case side1 => exact cQ HR0_0.out); (case side2 => exact HC0_0.out); (case side3 => exact cQ HR0_1.out); (case side4 => exact HC0_1.out); (case side5 => first | exact hG_ | exact Glob.drewN hG_ _ | exact Glob.below hG_ (bQ2 GE478.out GE479.out)); rintro e w22 ⟨v487, rfl, ho0, hb⟩; refine ⟨_, rfl, ?_⟩; have n0_ := Aside0.mk (Kd.R_below (rQR HO484.out) hb); have n1_ := Aside0.mk (Kd.R_lower ho0 (below_size (bQ2 GE478.out GE479.out))); have n2_ := Aside0.mk (blk_below (kQ BK478.out) hb); have n3_ := Aside0.mk (blk_below (kQ BK479.out) hb); have n4_ := Aside0.mk (below_step (bQ2 GE478.out GE479.out) hb); clear HO484; clear BK478; clear BK479; clear HB; have HO484 := n0_; have HO488 := n1_; have BK478 := n2_; have BK479 := n3_; have HB := n4_; clear n0_ n1_ n2_ n3_ n4_; (try clear hb); (try clear hb2); (try clear hk); (try clear hi); (try clear ho0); obtain ⟨Ao23, co23, eo23⟩ := Kd.R_slice HO488.out; subst eo23))
 go_loopg [11, 48] k (fun kq v11 v48 w' => ∃ (x11_1 : List (S45)) (x48_1 : Int), v48 = .int .i64 x48_1 ∧ Aside0 (product_Behind.l0 kq t482 x11_1 t486 (t486.length : Int) x48_1 l0_0 l0_1 l0_2 l0_3 a1_0 a1_1 = some (r1, r2)) ∧ Aside0 (kq ≤ k) ∧ Aside0 (Kd.R Kd.bool 4 w' w.heap.size (fun _ => True) v483 t482) ∧ Aside0 (Kd.R k45 45 w' w.heap.size (fun k_ => k_ ≠ gb479) v11 x11_1) ∧ Aside0 (Kd.R (Kd.int .i64) 3 w' w.heap.size (fun _ => True) (.slice Ao23 t486.length co23) t486) ∧ Aside0 (w'.heap[gb478]? = some (.cells #[(.slice A0_0 l0_0.length c0_0), (.slice A0_1 l0_1.length c0_1), (.slice A0_2 l0_2.length c0_2), (.slice A0_3 l0_3.length c0_3)] 34 (0, 0))) ∧ Aside0 (w'.heap[gb479]? = some (.cells #[.int .i64 a1_0, .int .i64 a1_1] 45 (0, 0))) ∧ Aside0 (Below w.heap.size w w'))
 case atStart => exact ⟨(([] : List (S45))), (0), (by first | rfl | (simp; done) | (simp [*]; done)), H', ⟨Nat.le_refl _⟩, ⟨by (with_reducible repeat (first | apply Kd.R_alloc | apply Kd.R_drewN | apply Kd.R_drew)); exact HO484.out⟩, ⟨by first | exact Kd.R_nil _ _ _ _ _ | exact Kd.N_nil _ _ _ _ _ | exact Kd.V_nil _ _ _ _ _ | exact Kd.Q_nil _ _ _ _ _ | exact Kd.S_nil _ _ _ _ _⟩, ⟨by (with_reducible repeat (first | apply Kd.R_alloc | apply Kd.R_drewN | apply Kd.R_drew)); exact HO488.out⟩, ⟨by (with_reducible repeat (first | refine blk_drewN ?_ _ | refine blk_drew ?_ | refine blk_alloc ?_ _)); exact BK478.out⟩, ⟨by (with_reducible repeat (first | refine blk_drewN ?_ _ | refine blk_drew ?_ | refine blk_alloc ?_ _)); exact BK479.out⟩, ⟨bQ2 GE478.out GE479.out⟩⟩
 case round =>
  clear H'
  try clear c1
  try clear c2
  try clear p2
  try clear c3
  try clear c4
  try clear c4b0
  try clear c4b1
  try clear c6
  try clear c11
  try clear c15
  try clear c16
  try clear c21
  try clear hcz12_0
  try clear hcz12_1
  try clear hcz12_2
  try clear hcz12_3
  try clear hcz14_0
  try clear hcz14_1
  try clear hcz14_2
  try clear hcz14_3
  try clear hcz15_0
  try clear hcz15_1
  try clear hcz17_0
  try clear hcz17_1
  try clear hcz17_2
  try clear hcz17_3
  try clear hcz18_0
  try clear hcz18_1
  try clear hcz20_0
  try clear hcz20_1
  try clear hcz20_2
  try clear hcz20_3
  try clear hcz21_0
  try clear hcz21_1
  try clear hfz12_0
  try clear hfz12_1
  try clear hfz12_2
  try clear hfz12_3
  try clear hfz14_0
  try clear hfz14_1
  try clear hfz14_2
  try clear hfz14_3
  try clear hfz15_0
  try clear hfz15_1
  try clear hfz17_0
  try clear hfz17_1
  try clear hfz17_2
  try clear hfz17_3
  try clear hfz18_0
  try clear hfz18_1
  try clear hfz20_0
  try clear hfz20_1
  try clear hfz20_2
  try clear hfz20_3
  try clear hfz21_0
  try clear hfz21_1
  obtain ⟨x11_1, x48_1, rfl, HA, HK1, HO_7, HO_11, HO_46, BK478, BK479, HB⟩ := hrel
  cases gk with
  | zero => exact absurd HA.out (by simp [product_Behind.l0])
  | succ k1 =>
   have H := HA.out
   clear HA
   simp only [product_Behind.l0] at H
   by_cases c24 : x48_1 < (t486.length : Int)
   rotate_left
   ·
    rw [if_neg c24] at H
    have c24b0 : decide (x48_1 < (t486.length : Int)) = false := decide_eq_false c24
    clear c24
    simp only [Option.some.injEq, Prod.mk.injEq] at H
    obtain ⟨rfl, rfl⟩ := H
    go_wp2
    go_ret2
    exact ⟨_, by first | rfl | (simp [errW_none, errW_some] <;> rfl) | (simp [*, errW_none, errW_some] <;> rfl), by (with_reducible repeat (first | apply Kd.R_alloc | apply Kd.R_drewN | apply Kd.R_drew)); exact Kd.R_mono HO_11.out (fun _ hk => trivial), bQ2 GE478.out GE479.out⟩
   rw [if_pos c24] at H
   have c24b0 : decide (x48_1 < (t486.length : Int)) = true := decide_eq_true c24
   clear c24
   by_cases c25 : 0 ≤ x48_1
   rotate_left
   ·
    rw [if_neg c25] at H
    exact absurd H (by simp)
   rw [if_pos c25] at H
   have c25b0 : decide (0 ≤ x48_1) = true := decide_eq_true c25
   clear c25
   by_cases c26 : x48_1 < (t486.length : Int)
   rotate_left
   ·
    rw [if_neg c26] at H
    exact absurd H (by simp)
   rw [if_pos c26] at H
   have c26b0 : decide (x48_1 < (t486.length : Int)) = true := decide_eq_true c26
   clear c26
   replace H := Option.bind_eq_some_iff.mp H
   obtain ⟨⟨t491, t494⟩, A270, H⟩ := H
   replace H : ((product_claims.f k1 l0_0 l0_1 l0_2 l0_3).bind fun t495 => (product_Behind.l1 k1 t482 x11_1 (rd t486 x48_1) t491 t486 (t486.length : Int) x48_1 t495 0 l0_0 l0_1 l0_2 l0_3 a1_0 a1_1)) = some (r1, r2) := H
   have A27 := Aside0.mk A270
   clear A270
   replace H := Option.bind_eq_some_iff.mp H
   obtain ⟨t495, A280, H⟩ := H
   replace H : (product_Behind.l1 k1 t482 x11_1 (rd t486 x48_1) t491 t486 (t486.length : Int) x48_1 t495 0 l0_0 l0_1 l0_2 l0_3 a1_0 a1_1) = some (r1, r2) := H
   have A28 := Aside0.mk A280
   clear A280
   have H' := Aside0.mk H
   clear H
   have p490 : 0 ≤ (x48_1 : Int) := of_decide_eq_true (by first | (with_reducible assumption) | assumption)
   have q490 : x48_1 < (t486.length : Int) := of_decide_eq_true (by first | (with_reducible assumption) | assumption)
   obtain ⟨ad490, e490, hx490_0⟩ := Kd.at_int (Kd.R_reads' HO_46.out).2.2 x48_1 p490 q490
   cases e490
   replace p490 := eq_true p490
   replace q490 := eq_true q490
   have hnb29 := NB478_479.out
   have hnc29 := NB479_478.out
   have hcz30_0 : wr.cell? ⟨gb478, 0, none⟩ = some (.slice A0_0 l0_0.length c0_0) := (blk_cell BK478.out 0).trans rfl
   have hcz30_1 : wr.cell? ⟨gb478, 1, none⟩ = some (.slice A0_1 l0_1.length c0_1) := (blk_cell BK478.out 1).trans rfl
   have hcz30_2 : wr.cell? ⟨gb478, 2, none⟩ = some (.slice A0_2 l0_2.length c0_2) := (blk_cell BK478.out 2).trans rfl
   have hcz30_3 : wr.cell? ⟨gb478, 3, none⟩ = some (.slice A0_3 l0_3.length c0_3) := (blk_cell BK478.out 3).trans rfl
   have hfz30_0 := blk_frozen BK478.out 0
   have hfz30_1 := blk_frozen BK478.out 1
   have hfz30_2 := blk_frozen BK478.out 2
   have hfz30_3 := blk_frozen BK478.out 3
   go_wp2_with (first | ((with_reducible refine gate_callee (f := 27) rfl ?_); refine goesL_ (some 58) rfl rfl Tryd.func27 (by kernel_rfl) rfl #[.agg #[.slice A0_0 l0_0.length c0_0, .slice A0_1 l0_1.length c0_1], .slice A0_2 l0_2.length c0_2, .int .i64 (rd t486 x48_1)] rfl mQ ?_; (with_reducible refine (step_Letter.calls k1 _ _ l0_0 _ _ l0_1 _ _ l0_2 (rd t486 x48_1) t491 t494 _ ?side1 ?side2 ?side3 ?side4 ?side5 ?side6 ?side7 A27.out).mono ?_); (case side1 => exact cQ HR0_0.out); (case side2 => exact HC0_0.out); (case side3 => exact cQ HR0_1.out); (case side4 => exact HC0_1.out); (case side5 => exact cQ HR0_2.out); (case side6 => exact HC0_2.out); (case side7 => first | exact hG_ | exact Glob.drewN hG_ _ | exact Glob.below hG_ (bQ2 GE478.out GE479.out)); rintro e w31 ⟨v492, rfl, ho0, hb⟩; refine ⟨_, rfl, ?_⟩; have n0_ := Aside0.mk (Kd.R_elder' (rQR HO_7.out) (Kd.R_base ho0) hb); have n1_ := Aside0.mk (Kd.R_below (rQR HO_11.out) hb); have n2_ := Aside0.mk (Kd.R_below (rQR HO_46.out) hb); have n3_ := Aside0.mk (Kd.R_lower (Kd.R_new' ho0 (Kd.R_lt (rQR HO_7.out))) (below_size (bQ2 GE478.out GE479.out))); have n4_ := Aside0.mk (blk_below (kQ BK478.out) hb); have n5_ := Aside0.mk (blk_below (kQ BK479.out) hb); have n6_ := Aside0.mk (below_step (bQ2 GE478.out GE479.out) hb); clear HO_7; clear HO_11; clear HO_46; clear BK478; clear BK479; clear HB; have HO_7 := n0_; have HO_11 := n1_; have HO_46 := n2_; have HO493 := n3_; have BK478 := n4_; have BK479 := n5_; have HB := n6_; clear n0_ n1_ n2_ n3_ n4_ n5_ n6_; (try clear hb); (try clear hb2); (try clear hk); (try clear hi); (try clear ho0); have hcz32_0 : w31.cell? ⟨gb478, 0, none⟩ = some (.slice A0_0 l0_0.length c0_0) := (blk_cell BK478.out 0).trans rfl; have hcz32_1 : w31.cell? ⟨gb478, 1, none⟩ = some (.slice A0_1 l0_1.length c0_1) := (blk_cell BK478.out 1).trans rfl; have hcz32_2 : w31.cell? ⟨gb478, 2, none⟩ = some (.slice A0_2 l0_2.length c0_2) := (blk_cell BK478.out 2).trans rfl; have hcz32_3 : w31.cell? ⟨gb478, 3, none⟩ = some (.slice A0_3 l0_3.length c0_3) := (blk_cell BK478.out 3).trans rfl; have hfz32_0 := blk_frozen BK478.out 0; have hfz32_1 := blk_frozen BK478.out 1; have hfz32_2 := blk_frozen BK478.out 2; have hfz32_3 := blk_frozen BK478.out 3) | ((with_reducible refine gate_callee (f := 28) rfl ?_); refine goesL_ (some 62) rfl rfl Tryd.func28 (by kernel_rfl) rfl #[.agg #[.slice A0_0 l0_0.length c0_0, .slice A0_1 l0_1.length c0_1, .slice A0_2 l0_2.length c0_2, .slice A0_3 l0_3.length c0_3]] rfl mQ ?_; (with_reducible refine (product_claims.calls k1 _ _ l0_0 _ _ l0_1 _ _ l0_2 _ _ l0_3 t495 _ ?side1 ?side2 ?side3 ?side4 ?side5 ?side6 ?side7 ?side8 ?side9 A28.out).mono ?_); (case side1 => exact cQ HR0_0.out); (case side2 => exact HC0_0.out); (case side3 => exact cQ HR0_1.out); (case side4 => exact HC0_1.out); (case side5 => exact cQ HR0_2.out); (case side6 => exact HC0_2.out); (case side7 => exact cQ HR0_3.out); (case side8 => exact HC0_3.out); (case side9 => first | exact hG_ | exact Glob.drewN hG_ _ | exact Glob.below hG_ (bQ2 GE478.out GE479.out)); rintro e w33 ⟨rfl, hb⟩; refine ⟨_, rfl, ?_⟩; have n0_ := Aside0.mk (Kd.R_below (rQR HO_7.out) hb); have n1_ := Aside0.mk (Kd.R_below (rQR HO_11.out) hb); have n2_ := Aside0.mk (Kd.R_below (rQR HO_46.out) hb); have n3_ := Aside0.mk (Kd.R_below (rQR HO493.out) hb); have n4_ := Aside0.mk (blk_below (kQ BK478.out) hb); have n5_ := Aside0.mk (blk_below (kQ BK479.out) hb); have n6_ := Aside0.mk (below_step (bQ2 GE478.out GE479.out) hb); clear HO_7; clear HO_11; clear HO_46; clear HO493; clear BK478; clear BK479; clear HB; have HO_7 := n0_; have HO_11 := n1_; have HO_46 := n2_; have HO493 := n3_; have BK478 := n4_; have BK479 := n5_; have HB := n6_; clear n0_ n1_ n2_ n3_ n4_ n5_ n6_; (try clear hb); (try clear hb2); (try clear hk); (try clear hi)))
   go_loopg [11, 63] k1 (fun kq v11 v63 w' => ∃ (x11_2 : List (S45)) (x63_2 : Int), v63 = .int .i64 x63_2 ∧ Aside0 (product_Behind.l1 kq t482 x11_2 (rd t486 x48_1) t491 t486 (t486.length : Int) x48_1 t495 x63_2 l0_0 l0_1 l0_2 l0_3 a1_0 a1_1 = some (r1, r2)) ∧ Aside0 (kq ≤ k1) ∧ Aside0 (Kd.R Kd.bool 4 w' w.heap.size (fun k_ => some k_ ≠ (v492 : Value).ownBlock) v483 t482) ∧ Aside0 (Kd.R k45 45 w' w.heap.size (fun k_ => k_ ≠ gb479) v11 x11_2) ∧ Aside0 (Kd.R Kd.bool 4 w' w.heap.size (fun k_ => some k_ ≠ (v483 : Value).ownBlock) v492 t491) ∧ Aside0 (Kd.R (Kd.int .i64) 3 w' w.heap.size (fun _ => True) (.slice (some ad490) t486.length co23) t486) ∧ Aside0 (w'.heap[gb478]? = some (.cells #[(.slice A0_0 l0_0.length c0_0), (.slice A0_1 l0_1.length c0_1), (.slice A0_2 l0_2.length c0_2), (.slice A0_3 l0_3.length c0_3)] 34 (0, 0))) ∧ Aside0 (w'.heap[gb479]? = some (.cells #[.int .i64 a1_0, .int .i64 a1_1] 45 (0, 0))) ∧ Aside0 (Below w.heap.size w w'))
   case atStart => exact ⟨(x11_1), (0), (by first | rfl | (simp; done) | (simp [*]; done)), H', ⟨Nat.le_refl _⟩, ⟨by (with_reducible repeat (first | apply Kd.R_alloc | apply Kd.R_drewN | apply Kd.R_drew)); exact Kd.R_mono HO_7.out (fun _ hk => hk.2)⟩, ⟨by (with_reducible repeat (first | apply Kd.R_alloc | apply Kd.R_drewN | apply Kd.R_drew)); exact HO_11.out⟩, ⟨by (with_reducible repeat (first | apply Kd.R_alloc | apply Kd.R_drewN | apply Kd.R_drew)); exact Kd.R_mono HO493.out (fun _ hk => hk.2)⟩, ⟨by (with_reducible repeat (first | apply Kd.R_alloc | apply Kd.R_drewN | apply Kd.R_drew)); exact HO_46.out⟩, ⟨by (with_reducible repeat (first | refine blk_drewN ?_ _ | refine blk_drew ?_ | refine blk_alloc ?_ _)); exact BK478.out⟩, ⟨by (with_reducible repeat (first | refine blk_drewN ?_ _ | refine blk_drew ?_ | refine blk_alloc ?_ _)); exact BK479.out⟩, ⟨bQ2 GE478.out GE479.out⟩⟩
   case round =>
    clear H'
    try clear c1
    try clear c2
    try clear p2
    try clear c3
    try clear c4
    try clear c4b0
    try clear c4b1
    try clear p4
    try clear q4
    try clear hx4
    try clear c6
    try clear c11
    try clear c15
    try clear c16
    try clear c21
    try clear c24
    try clear c24b0
    try clear c25
    try clear c25b0
    try clear c26
    try clear c26b0
    try clear c27
    try clear c28
    try clear c29
    try clear hcz12_0
    try clear hcz12_1
    try clear hcz12_2
    try clear hcz12_3
    try clear hcz14_0
    try clear hcz14_1
    try clear hcz14_2
    try clear hcz14_3
    try clear hcz15_0
    try clear hcz15_1
    try clear hcz17_0
    try clear hcz17_1
    try clear hcz17_2
    try clear hcz17_3
    try clear hcz18_0
    try clear hcz18_1
    try clear hcz20_0
    try clear hcz20_1
    try clear hcz20_2
    try clear hcz20_3
    try clear hcz21_0
    try clear hcz21_1
    try clear hcz30_0
    try clear hcz30_1
    try clear hcz30_2
    try clear hcz30_3
    try clear hcz32_0
    try clear hcz32_1
    try clear hcz32_2
    try clear hcz32_3
    try clear hfz12_0
    try clear hfz12_1
    try clear hfz12_2
    try clear hfz12_3
    try clear hfz14_0
    try clear hfz14_1
    try clear hfz14_2
    try clear hfz14_3
    try clear hfz15_0
    try clear hfz15_1
    try clear hfz17_0
    try clear hfz17_1
    try clear hfz17_2
    try clear hfz17_3
    try clear hfz18_0
    try clear hfz18_1
    try clear hfz20_0
    try clear hfz20_1
    try clear hfz20_2
    try clear hfz20_3
    try clear hfz21_0
    try clear hfz21_1
    try clear hfz30_0
    try clear hfz30_1
    try clear hfz30_2
    try clear hfz30_3
    try clear hfz32_0
    try clear hfz32_1
    try clear hfz32_2
    try clear hfz32_3
    try clear hx490_0
    try clear p2
    try clear p490
    try clear q490
    obtain ⟨x11_2, x63_2, rfl, HA, HK2, HO_7, HO_11, HO_14, HO_46, BK478, BK479, HB⟩ := hrel
    cases gk with
    | zero => exact absurd HA.out (by simp [product_Behind.l1])
    | succ k2 =>
     have H := HA.out
     clear HA
     simp only [product_Behind.l1] at H
     by_cases c34 : x63_2 < t495
     rotate_left
     ·
      rw [if_neg c34] at H
      have c34b0 : decide (x63_2 < t495) = false := decide_eq_false c34
      clear c34
      have H' := Aside0.mk H
      clear H
      go_wp2
      go_roundg k2
      case measure => have := HK1.out; have := HK2.out; omega
      case rel => exact ⟨(x11_2), (wrap64 (x48_1 + 1)), (by first | rfl | (simp; done) | (simp [*]; done)), H', ⟨by have := HK1.out; have := HK2.out; omega⟩, ⟨by (with_reducible repeat (first | apply Kd.R_alloc | apply Kd.R_drewN | apply Kd.R_drew)); exact Kd.R_mono HO_7.out (fun _ hk => trivial)⟩, ⟨by (with_reducible repeat (first | apply Kd.R_alloc | apply Kd.R_drewN | apply Kd.R_drew)); exact HO_11.out⟩, ⟨by (with_reducible repeat (first | apply Kd.R_alloc | apply Kd.R_drewN | apply Kd.R_drew)); exact HO_46.out⟩, ⟨by (with_reducible repeat (first | refine blk_drewN ?_ _ | refine blk_drew ?_ | refine blk_alloc ?_ _)); exact BK478.out⟩, ⟨by (with_reducible repeat (first | refine blk_drewN ?_ _ | refine blk_drew ?_ | refine blk_alloc ?_ _)); exact BK479.out⟩, ⟨bQ2 GE478.out GE479.out⟩⟩
     rw [if_pos c34] at H
     have c34b0 : decide (x63_2 < t495) = true := decide_eq_true c34
     clear c34
     replace H := Option.bind_eq_some_iff.mp H
     obtain ⟨⟨t496, t497⟩, A350, H⟩ := H
     replace H : (if t496 = true then (if x11_2.length < 8796093022208 then (product_Behind.l1 k2 t482 (x11_2 ++ [(⟨(rd t486 x48_1), x63_2⟩ : S45)]) (rd t486 x48_1) t491 t486 (t486.length : Int) x48_1 t495 (wrap64 (x63_2 + 1)) l0_0 l0_1 l0_2 l0_3 a1_0 a1_1) else (none)) else (product_Behind.l1 k2 t482 x11_2 (rd t486 x48_1) t491 t486 (t486.length : Int) x48_1 t495 (wrap64 (x63_2 + 1)) l0_0 l0_1 l0_2 l0_3 a1_0 a1_1)) = some (r1, r2) := H
     have A35 := Aside0.mk A350
     clear A350
     by_cases c36 : t496 = true
     rotate_left
     ·
      replace c36 := Bool.eq_false_iff.mpr c36
      subst c36
      have H1 : (product_Behind.l1 k2 t482 x11_2 (rd t486 x48_1) t491 t486 (t486.length : Int) x48_1 t495 (wrap64 (x63_2 + 1)) l0_0 l0_1 l0_2 l0_3 a1_0 a1_1) = some (r1, r2) := by rw [if_neg (show ¬ (false = true) by decide)] at H; exact H
      clear H
      have H := H1
      clear H1
      have H' := Aside0.mk H
      clear H
      have hnb45 := NB478_479.out
      have hnc45 := NB479_478.out
      have hcz46_0 : wr.cell? ⟨gb478, 0, none⟩ = some (.slice A0_0 l0_0.length c0_0) := (blk_cell BK478.out 0).trans rfl
      have hcz46_1 : wr.cell? ⟨gb478, 1, none⟩ = some (.slice A0_1 l0_1.length c0_1) := (blk_cell BK478.out 1).trans rfl
      have hcz46_2 : wr.cell? ⟨gb478, 2, none⟩ = some (.slice A0_2 l0_2.length c0_2) := (blk_cell BK478.out 2).trans rfl
      have hcz46_3 : wr.cell? ⟨gb478, 3, none⟩ = some (.slice A0_3 l0_3.length c0_3) := (blk_cell BK478.out 3).trans rfl
      have hfz46_0 := blk_frozen BK478.out 0
      have hfz46_1 := blk_frozen BK478.out 1
      have hfz46_2 := blk_frozen BK478.out 2
      have hfz46_3 := blk_frozen BK478.out 3
      have hcz47_0 : wr.cell? ⟨gb479, 0, none⟩ = some (.int .i64 a1_0) := (blk_cell BK479.out 0).trans rfl
      have hcz47_1 : wr.cell? ⟨gb479, 1, none⟩ = some (.int .i64 a1_1) := (blk_cell BK479.out 1).trans rfl
      have hfz47_0 := blk_frozen BK479.out 0
      have hfz47_1 := blk_frozen BK479.out 1
      obtain ⟨Ao48, co48, eo48⟩ := Kd.R_slice HO_7.out
      subst eo48
      obtain ⟨Ao49, co49, eo49⟩ := Kd.R_slice HO_14.out
      subst eo49
      go_wp2_with (first | ((with_reducible refine gate_callee (f := 35) rfl ?_); refine goesL_ (some 74) rfl rfl Tryd.func35 (by kernel_rfl) rfl #[.slice A0_3 l0_3.length c0_3, .slice Ao48 t482.length co48, .int .i64 a1_1, .slice Ao49 t491.length co49, .int .i64 x63_2] rfl mQ ?_; (with_reducible refine (logic_Follows.calls k2 _ _ l0_3 _ _ t482 a1_1 _ _ t491 x63_2 false t497 _ ?side1 ?side2 ?side3 ?side4 ?side5 ?side6 ?side7 A35.out).mono ?_); (case side1 => exact cQ HR0_3.out); (case side2 => exact HC0_3.out); (case side3 => repeat (first | exact (Kd.R_reads' HO_7.out).2.2 | (with_reducible refine Kd.C_alloc ?_ _) | (with_reducible refine Kd.C_drewN ?_ _) | (with_reducible refine Kd.C_drew ?_))); (case side4 => exact (Kd.R_reads' HO_7.out).2.1); (case side5 => repeat (first | exact (Kd.R_reads' HO_14.out).2.2 | (with_reducible refine Kd.C_alloc ?_ _) | (with_reducible refine Kd.C_drewN ?_ _) | (with_reducible refine Kd.C_drew ?_))); (case side6 => exact (Kd.R_reads' HO_14.out).2.1); (case side7 => first | exact hG_ | exact Glob.drewN hG_ _ | exact Glob.below hG_ (bQ2 GE478.out GE479.out)); rintro e w50 ⟨rfl, hb⟩; refine ⟨_, rfl, ?_⟩; have n0_ := Aside0.mk (Kd.R_below (rQR HO_7.out) hb); have n1_ := Aside0.mk (Kd.R_below (rQR HO_11.out) hb); have n2_ := Aside0.mk (Kd.R_below (rQR HO_14.out) hb); have n3_ := Aside0.mk (Kd.R_below (rQR HO_46.out) hb); have n4_ := Aside0.mk (blk_below (kQ BK478.out) hb); have n5_ := Aside0.mk (blk_below (kQ BK479.out) hb); have n6_ := Aside0.mk (below_step (bQ2 GE478.out GE479.out) hb); clear HO_7; clear HO_11; clear HO_14; clear HO_46; clear BK478; clear BK479; clear HB; have HO_7 := n0_; have HO_11 := n1_; have HO_14 := n2_; have HO_46 := n3_; have BK478 := n4_; have BK479 := n5_; have HB := n6_; clear n0_ n1_ n2_ n3_ n4_ n5_ n6_; (try clear hb); (try clear hb2); (try clear hk); (try clear hi)))
      go_roundg k2
      case measure => have := HK1.out; have := HK2.out; omega
      case rel => exact ⟨(x11_2), (wrap64 (x63_2 + 1)), (by first | rfl | (simp; done) | (simp [*]; done)), H', ⟨by have := HK1.out; have := HK2.out; omega⟩, ⟨by (with_reducible repeat (first | apply Kd.R_alloc | apply Kd.R_drewN | apply Kd.R_drew)); exact HO_7.out⟩, ⟨by (with_reducible repeat (first | apply Kd.R_alloc | apply Kd.R_drewN | apply Kd.R_drew)); exact HO_11.out⟩, ⟨by (with_reducible repeat (first | apply Kd.R_alloc | apply Kd.R_drewN | apply Kd.R_drew)); exact HO_14.out⟩, ⟨by (with_reducible repeat (first | apply Kd.R_alloc | apply Kd.R_drewN | apply Kd.R_drew)); exact HO_46.out⟩, ⟨by (with_reducible repeat (first | refine blk_drewN ?_ _ | refine blk_drew ?_ | refine blk_alloc ?_ _)); exact BK478.out⟩, ⟨by (with_reducible repeat (first | refine blk_drewN ?_ _ | refine blk_drew ?_ | refine blk_alloc ?_ _)); exact BK479.out⟩, ⟨bQ2 GE478.out GE479.out⟩⟩
     subst c36
     have H1 : (if x11_2.length < 8796093022208 then (product_Behind.l1 k2 t482 (x11_2 ++ [(⟨(rd t486 x48_1), x63_2⟩ : S45)]) (rd t486 x48_1) t491 t486 (t486.length : Int) x48_1 t495 (wrap64 (x63_2 + 1)) l0_0 l0_1 l0_2 l0_3 a1_0 a1_1) else (none)) = some (r1, r2) := by rw [if_pos rfl] at H; exact H
     clear H
     have H := H1
     clear H1
     by_cases c37 : x11_2.length < 8796093022208
     rotate_left
     ·
      rw [if_neg c37] at H
      exact absurd H (by simp)
     rw [if_pos c37] at H
     have LMc37 := Aside0.mk c37
     clear c37
     obtain ⟨y498, hy498⟩ : ∃ y_ : List (S45), y_ = (x11_2 ++ [(⟨(rd t486 x48_1), x63_2⟩ : S45)]) := ⟨_, rfl⟩
     replace H : (product_Behind.l1 k2 t482 y498 (rd t486 x48_1) t491 t486 (t486.length : Int) x48_1 t495 (wrap64 (x63_2 + 1)) l0_0 l0_1 l0_2 l0_3 a1_0 a1_1) = some (r1, r2) := by first | (rw [hy498]; with_reducible exact H) | (have H2_ := (Option.bind_some _ _).symm.trans H; rw [hy498]; with_reducible exact H2_) | (have H2_ := (Option.bind_some _ _).symm.trans H; with_reducible exact H2_) | with_reducible exact H | (rw [hy498]; exact H) | exact H
     have Ny498 := Aside0.mk hy498
     clear hy498
     have H' := Aside0.mk H
     clear H
     have hnb38 := NB478_479.out
     have hnc38 := NB479_478.out
     have hcz39_0 : wr.cell? ⟨gb478, 0, none⟩ = some (.slice A0_0 l0_0.length c0_0) := (blk_cell BK478.out 0).trans rfl
     have hcz39_1 : wr.cell? ⟨gb478, 1, none⟩ = some (.slice A0_1 l0_1.length c0_1) := (blk_cell BK478.out 1).trans rfl
     have hcz39_2 : wr.cell? ⟨gb478, 2, none⟩ = some (.slice A0_2 l0_2.length c0_2) := (blk_cell BK478.out 2).trans rfl
     have hcz39_3 : wr.cell? ⟨gb478, 3, none⟩ = some (.slice A0_3 l0_3.length c0_3) := (blk_cell BK478.out 3).trans rfl
     have hfz39_0 := blk_frozen BK478.out 0
     have hfz39_1 := blk_frozen BK478.out 1
     have hfz39_2 := blk_frozen BK478.out 2
     have hfz39_3 := blk_frozen BK478.out 3
     have hcz40_0 : wr.cell? ⟨gb479, 0, none⟩ = some (.int .i64 a1_0) := (blk_cell BK479.out 0).trans rfl
     have hcz40_1 : wr.cell? ⟨gb479, 1, none⟩ = some (.int .i64 a1_1) := (blk_cell BK479.out 1).trans rfl
     have hfz40_0 := blk_frozen BK479.out 0
     have hfz40_1 := blk_frozen BK479.out 1
     obtain ⟨Ao41, co41, eo41⟩ := Kd.R_slice HO_7.out
     subst eo41
     obtain ⟨Ao42, co42, eo42⟩ := Kd.R_slice HO_14.out
     subst eo42
     go_wp2_with (first | ((with_reducible refine gate_callee (f := 35) rfl ?_); refine goesL_ (some 74) rfl rfl Tryd.func35 (by kernel_rfl) rfl #[.slice A0_3 l0_3.length c0_3, .slice Ao41 t482.length co41, .int .i64 a1_1, .slice Ao42 t491.length co42, .int .i64 x63_2] rfl mQ ?_; (with_reducible refine (logic_Follows.calls k2 _ _ l0_3 _ _ t482 a1_1 _ _ t491 x63_2 true t497 _ ?side1 ?side2 ?side3 ?side4 ?side5 ?side6 ?side7 A35.out).mono ?_); (case side1 => exact cQ HR0_3.out); (case side2 => exact HC0_3.out); (case side3 => repeat (first | exact (Kd.R_reads' HO_7.out).2.2 | (with_reducible refine Kd.C_alloc ?_ _) | (with_reducible refine Kd.C_drewN ?_ _) | (with_reducible refine Kd.C_drew ?_))); (case side4 => exact (Kd.R_reads' HO_7.out).2.1); (case side5 => repeat (first | exact (Kd.R_reads' HO_14.out).2.2 | (with_reducible refine Kd.C_alloc ?_ _) | (with_reducible refine Kd.C_drewN ?_ _) | (with_reducible refine Kd.C_drew ?_))); (case side6 => exact (Kd.R_reads' HO_14.out).2.1); (case side7 => first | exact hG_ | exact Glob.drewN hG_ _ | exact Glob.below hG_ (bQ2 GE478.out GE479.out)); rintro e w43 ⟨rfl, hb⟩; refine ⟨_, rfl, ?_⟩; have n0_ := Aside0.mk (Kd.R_below (rQR HO_7.out) hb); have n1_ := Aside0.mk (Kd.R_below (rQR HO_11.out) hb); have n2_ := Aside0.mk (Kd.R_below (rQR HO_14.out) hb); have n3_ := Aside0.mk (Kd.R_below (rQR HO_46.out) hb); have n4_ := Aside0.mk (blk_below (kQ BK478.out) hb); have n5_ := Aside0.mk (blk_below (kQ BK479.out) hb); have n6_ := Aside0.mk (below_step (bQ2 GE478.out GE479.out) hb); clear HO_7; clear HO_11; clear HO_14; clear HO_46; clear BK478; clear BK479; clear HB; have HO_7 := n0_; have HO_11 := n1_; have HO_14 := n2_; have HO_46 := n3_; have BK478 := n4_; have BK479 := n5_; have HB := n6_; clear n0_ n1_ n2_ n3_ n4_ n5_ n6_; (try clear hb); (try clear hb2); (try clear hk); (try clear hi)) | ((with_reducible refine gate_builtin (b := .append) (xs := #[.tmp 78, .tmp 82]) rfl ?_); at_builtin; refine Kd.R_append k45 (w0 := w) w.heap.size rfl (.tmp 78) (.tmp 82) 37 45 (.agg #[(.int .i64 0), (.int .i64 0)]) 16 rfl Tryd.underlying37 info45 rfl (by decide) (by omega) u11 x11_2 (⟨(rd t486 x48_1), x63_2⟩ : S45) [.int .i64 (rd t486 x48_1), .int .i64 x63_2] (fun k_ => k_ ≠ gb479) (fun _ => False) rfl rfl ?aP (fun _ hk => hk.elim) ?aF ?aO ?aB ?aS ?aL ?_; (case aP => exact k45_mkM _ _ _ (⟨(rd t486 x48_1), x63_2⟩ : S45)); (case aB => exact (bQ2 GE478.out GE479.out)); (case aF => exact (fun k_ hk => Kd.freshB (g := gb479) (o := .cells #[.int .i64 a1_0, .int .i64 a1_1] 45 (0, 0)) (kQ BK479.out) k_ hk)); (case aO => exact (rQR HO_11.out)); (case aS => exact (below_size (bQ2 GE478.out GE479.out))); (case aL => have := LMc37.out; omega); intro v499 w44 ho hb hg hat; rw [← Ny498.out] at ho; have n0_ := Aside0.mk (Kd.R_over' (rQR HO_7.out) (Kd.R_typed (rQR HO_11.out)) (by decide) hg); have n1_ := Aside0.mk (Kd.R_over' (rQR HO_14.out) (Kd.R_typed (rQR HO_11.out)) (by decide) hg); have n2_ := Aside0.mk (Kd.R_over' (rQR HO_46.out) (Kd.R_typed (rQR HO_11.out)) (by decide) hg); have n3_ := Aside0.mk (blk_grown (g := gb478) (o := .cells #[.slice A0_0 l0_0.length c0_0, .slice A0_1 l0_1.length c0_1, .slice A0_2 l0_2.length c0_2, .slice A0_3 l0_3.length c0_3] 34 (0, 0)) (kQ BK478.out) hg (Kd.R_ne HO_11.out BK478.out (by decide))); have n4_ := Aside0.mk (blk_grown (g := gb479) (o := .cells #[.int .i64 a1_0, .int .i64 a1_1] 45 (0, 0)) (kQ BK479.out) hg (Kd.R_away HO_11.out (fun _ hk => hk))); have n5_ := Aside0.mk (hb); have n6_ := Aside0.mk (ho); clear HO_7; clear HO_14; clear HO_46; clear BK478; clear BK479; clear HB; clear HO_11; have HO_7 := n0_; have HO_14 := n1_; have HO_46 := n2_; have BK478 := n3_; have BK479 := n4_; have HB := n5_; have HO500 := n6_; clear n0_ n1_ n2_ n3_ n4_ n5_ n6_; clear ho hb hg hat))
     go_roundg k2
     case measure => have := HK1.out; have := HK2.out; omega
     case rel => exact ⟨(y498), (wrap64 (x63_2 + 1)), (by first | rfl | (simp; done) | (simp [*]; done)), H', ⟨by have := HK1.out; have := HK2.out; omega⟩, ⟨by (with_reducible repeat (first | apply Kd.R_alloc | apply Kd.R_drewN | apply Kd.R_drew)); exact HO_7.out⟩, ⟨by (with_reducible repeat (first | apply Kd.R_alloc | apply Kd.R_drewN | apply Kd.R_drew)); exact HO500.out⟩, ⟨by (with_reducible repeat (first | apply Kd.R_alloc | apply Kd.R_drewN | apply Kd.R_drew)); exact HO_14.out⟩, ⟨by (with_reducible repeat (first | apply Kd.R_alloc | apply Kd.R_drewN | apply Kd.R_drew)); exact HO_46.out⟩, ⟨by (with_reducible repeat (first | refine blk_drewN ?_ _ | refine blk_drew ?_ | refine blk_alloc ?_ _)); exact BK478.out⟩, ⟨by (with_reducible repeat (first | refine blk_drewN ?_ _ | refine blk_drew ?_ | refine blk_alloc ?_ _)); exact BK479.out⟩, ⟨bQ2 GE478.out GE479.out⟩⟩
end Go.Proofs.YtbokbbcoekeoaaaDoor.P
end
