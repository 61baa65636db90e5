-- PACKED by pack.py of this repo: FStepAfter
import Derived.Test.YtbokbbcoekeoaaaDoorJ1
import Derived.Test.YtbokbbcoekeoaaaDoorJ15
import Derived.Test.YtbokbbcoekeoaaaDoorJ2
section
namespace Go.Proofs.YtbokbbcoekeoaaaDoor.P
open Go.RowKit Go.Proofs.YtbokbbcoekeoaaaDoorW.PrintWords Go.Proofs.YtbokbbcoekeoaaaDoorW.PrintLast Go.Proofs.YtbokbbcoekeoaaaDoorW.PrintMore Go.Proofs.YtbokbbcoekeoaaaDoor.G
attribute [local go_sem] max2_int min2_int max_two min_two max_three min_three max_four min_four
set_option linter.unusedVariables false
set_option linter.unusedSimpArgs false

mutual
def step_after.j0 : Nat → List Int → Bool → List (S77) → List (S118) → List (S72) → List (S121) → Option (List Int × Bool)
 | 0, _, _, _, _, _, _ => none
 | k + 1, x2, x28, x297000, x297001, x298000, x298001 => if x28 = true then (some (([] : List Int), false)) else ((slices_Clone_int_int.f x2).bind fun t300 => (step_after.l0 k x2 t300 x298001 (x298001.length : Int) 0 x297000 x297001))
def step_after.l0 : Nat → List Int → List Int → List (S121) → Int → Int → List (S77) → List (S118) → Option (List Int × Bool)
 | 0, _, _, _, _, _, _, _ => none
 | k + 1, x2, x10, x32, x33, x34, x297000, x297001 => if x34 < x33 then (if 0 ≤ x34 then (if x34 < (x32.length : Int) then ((expr_Eval.f k ((rd_T121 x32 x34).f1) x2).bind fun bt305 => (if 0 ≤ ((rd_T121 x32 x34).f0) then (if ((rd_T121 x32 x34).f0) < (x297000.length : Int) then (if bt305.2 = 0 then (if bt305.1 < ((rd_T77 x297000 ((rd_T121 x32 x34).f0)).f1) then (some (([] : List Int), false)) else (if bt305.1 > ((rd_T77 x297000 ((rd_T121 x32 x34).f0)).f2) then (some (([] : List Int), false)) else (if ((rd_T121 x32 x34).f0) < (x10.length : Int) then (step_after.l0 k x2 (x10.set (((rd_T121 x32 x34).f0) : Int).toNat bt305.1) x32 x33 (wrap64 (x34 + 1)) x297000 x297001) else (none)))) else (some (([] : List Int), false))) else (none)) else (none))) else (none)) else (none)) else (some (x10, true))
end
def step_after.f (k : Nat) (l0_0 : List (S77)) (l0_1 : List (S118)) (l1_0 : List (S72)) (l1_1 : List (S121)) (l2 : List Int) : Option (List Int × Bool) := (expr_Eval.f k l1_0 l2).bind fun bt298 => (if bt298.2 = 0 then (step_after.j0 k l2 (bt298.1 == 0) l0_0 l0_1 l1_0 l1_1) else (step_after.j0 k l2 true l0_0 l0_1 l1_0 l1_1))
theorem step_after.mono_l : ∀ k, (∀ y0 y1 y2 y3 y4 y5, LeO (step_after.j0 k y0 y1 y2 y3 y4 y5) (step_after.j0 (k + 1) y0 y1 y2 y3 y4 y5)) ∧ (∀ y0 y1 y2 y3 y4 y5 y6, LeO (step_after.l0 k y0 y1 y2 y3 y4 y5 y6) (step_after.l0 (k + 1) y0 y1 y2 y3 y4 y5 y6))
 | 0 => ⟨fun _ _ _ _ _ _ r h => by simp [step_after.j0] at h, fun _ _ _ _ _ _ _ r h => by simp [step_after.l0] at h⟩
 | k + 1 => by
  obtain ⟨ih0, ih1⟩ := step_after.mono_l k
  refine ⟨?_, ?_⟩
  ·
   intro y0 y1 y2 y3 y4 y5
   unfold step_after.j0
   repeat' first
   | (with_reducible exact ih1 _ _ _ _ _ _ _)
   | (with_reducible exact LeO.refl _)
   | (with_reducible exact LeO.none _)
   | (with_reducible refine LeO.ite ?_ ?_)
   | (with_reducible refine LeO.bind ?_ (fun _ => ?_))
   | exact ih1 _ _ _ _ _ _ _
   | exact LeO.none _
   | refine LeO.ite ?_ ?_
   | refine LeO.bind ?_ (fun _ => ?_)
  ·
   intro y0 y1 y2 y3 y4 y5 y6
   unfold step_after.l0
   repeat' first
   | (with_reducible exact ih1 _ _ _ _ _ _ _)
   | (with_reducible exact expr_Eval.mono _ _ _)
   | (with_reducible exact LeO.refl _)
   | (with_reducible exact LeO.none _)
   | (with_reducible refine LeO.ite ?_ ?_)
   | (with_reducible refine LeO.bind ?_ (fun _ => ?_))
   | exact ih1 _ _ _ _ _ _ _
   | exact expr_Eval.mono _ _ _
   | exact LeO.none _
   | refine LeO.ite ?_ ?_
   | refine LeO.bind ?_ (fun _ => ?_)
theorem step_after.mono : ∀ a0 a1 a2 a3 a4 k, LeO (step_after.f k a0 a1 a2 a3 a4) (step_after.f (k + 1) a0 a1 a2 a3 a4) := by
 intro a0 a1 a2 a3 a4 k
 obtain ⟨ih0, ih1⟩ := step_after.mono_l k
 unfold step_after.f
 repeat' first
   | (with_reducible exact ih0 _ _ _ _ _ _)
   | (with_reducible exact expr_Eval.mono _ _ _)
   | (with_reducible exact LeO.refl _)
   | (with_reducible exact LeO.none _)
   | (with_reducible refine LeO.ite ?_ ?_)
   | (with_reducible refine LeO.bind ?_ (fun _ => ?_))
   | exact ih0 _ _ _ _ _ _
   | exact expr_Eval.mono _ _ _
   | exact LeO.none _
   | refine LeO.ite ?_ ?_
   | refine LeO.bind ?_ (fun _ => ?_)
set_option maxHeartbeats 8000000 in
set_option maxRecDepth 100000 in
theorem step_after.calls (k : Nat) (A0_0 : Option Addr) (c0_0 : Nat) (l0_0 : List (S77)) (A0_1 : Option Addr) (c0_1 : Nat) (l0_1 : List (S118)) (A1_0 : Option Addr) (c1_0 : Nat) (l1_0 : List (S72)) (A1_1 : Option Addr) (c1_1 : Nat) (l1_1 : List (S121)) (A2 : Option Addr) (c2 : Nat) (l2 : List Int) (r1 : List Int) (r2 : Bool) (w : World) (hr0_0 : Kd.C k77 w A0_0 l0_0.length l0_0) (hc0_0 : l0_0.length ≤ c0_0) (hr0_1 : Kd.C k118 w A0_1 l0_1.length l0_1) (hc0_1 : l0_1.length ≤ c0_1) (hr1_0 : Kd.C k72 w A1_0 l1_0.length l1_0) (hc1_0 : l1_0.length ≤ c1_0) (hr1_1 : Kd.C k121 w A1_1 l1_1.length l1_1) (hc1_1 : l1_1.length ≤ c1_1) (hr2 : Kd.C (Kd.int .i64) w A2 l2.length l2) (hc2 : l2.length ≤ c2) (hG_ : Glob w) (h : step_after.f k l0_0 l0_1 l1_0 l1_1 l2 = some (r1, r2)) :
  Calls Tryd.prog 60 #[.agg #[.slice A0_0 l0_0.length c0_0, .slice A0_1 l0_1.length c0_1], .agg #[.slice A1_0 l1_0.length c1_0, .slice A1_1 l1_1.length c1_1], .slice A2 l2.length c2] w fun e w' => ∃ v0_ : Value, e = .returned (.tuple #[v0_, .bool r2]) ∧ Kd.R (Kd.int .i64) 3 w' w.heap.size (fun _ => True) v0_ r1 ∧ Below w.heap.size w w' := by
 have hu30 := Tryd.underlying30
 have hu118 := Tryd.underlying118
 have hu121 := Tryd.underlying121
 have hu77 := Tryd.underlying77
 have HR0_0 := Aside0.mk hr0_0
 have HC0_0 := Aside0.mk hc0_0
 clear hr0_0 hc0_0
 have HR0_1 := Aside0.mk hr0_1
 have HC0_1 := Aside0.mk hc0_1
 clear hr0_1 hc0_1
 have HR1_0 := Aside0.mk hr1_0
 have HC1_0 := Aside0.mk hc1_0
 clear hr1_0 hc1_0
 have HR1_1 := Aside0.mk hr1_1
 have HC1_1 := Aside0.mk hc1_1
 clear hr1_1 hc1_1
 have HR2 := Aside0.mk hr2
 have HC2 := Aside0.mk hc2
 clear hr2 hc2
 have HB := Aside0.mk (Below.refl w.heap.size w)
 have H : ((expr_Eval.f k l1_0 l2).bind fun bt298 => (if bt298.2 = 0 then (step_after.j0 k l2 (bt298.1 == 0) l0_0 l0_1 l1_0 l1_1) else (step_after.j0 k l2 true l0_0 l0_1 l1_0 l1_1))) = some (r1, r2) := h
 clear h
 replace H := Option.bind_eq_some_iff.mp H
 obtain ⟨⟨t298, t299⟩, A40, H⟩ := H
 replace H : (if t299 = 0 then (step_after.j0 k l2 (t298 == 0) l0_0 l0_1 l1_0 l1_1) else (step_after.j0 k l2 true l0_0 l0_1 l1_0 l1_1)) = some (r1, r2) := H
 have A4 := Aside0.mk A40
 clear A40
 have HC5 := Aside0.mk H
 clear H
 go_enter Tryd.func60, Tryd.ntmps60
 go_upto_region 2 with (first | ((with_reducible refine gate_dst (N := 3) rfl ?_); refine box_event ?hg (N := 3) ?hd (cs := #[.slice A0_0 l0_0.length c0_0, .slice A0_1 l0_1.length c0_1]) (t := 30) ?hr ?_; (case hd => rfl); (case hg => rfl); (case hr => first | (go_simp; done) | (go_simp; rfl)); intro gb296 hg w6 hbox hb; have n0_ := Aside0.mk (below_step (bQ) hb); have n1_ := Aside0.mk (hbox); have n2_ := Aside0.mk ((by rw [hg]; exact (below_size (bQ)) : w.heap.size ≤ gb296)); have n3_ := n2_; clear HB; have HB := n0_; have BK296 := n1_; have GW296 := n2_; have GE296 := n3_; clear n0_ n1_ n2_ n3_; clear hb hbox hg) | ((with_reducible refine gate_dst (N := 4) rfl ?_); refine box_event ?hg (N := 4) ?hd (cs := #[.slice A1_0 l1_0.length c1_0, .slice A1_1 l1_1.length c1_1]) (t := 118) ?hr ?_; (case hd => rfl); (case hg => rfl); (case hr => first | (go_simp; done) | (go_simp; rfl)); intro gb297 hg w7 hbox hb; have n0_ := Aside0.mk (blk_below (kQ BK296.out) hb); have n1_ := Aside0.mk (below_step (bQ1 GE296.out) hb); have n2_ := Aside0.mk (hbox); have n3_ := Aside0.mk ((by rw [hg]; exact (below_size (bQ1 GE296.out)) : w.heap.size ≤ gb297)); have n4_ := n3_; have n5_ := Aside0.mk ((by rw [hg]; exact Nat.ne_of_lt (blk_lt (kQ BK296.out)) : gb296 ≠ gb297)); have n6_ := Aside0.mk ((by rw [hg]; exact Nat.ne_of_gt (blk_lt (kQ BK296.out)) : gb297 ≠ gb296)); clear BK296; clear HB; have BK296 := n0_; have HB := n1_; have BK297 := n2_; have GW297 := n3_; have GE297 := n4_; have NB296_297 := n5_; have NB297_296 := n6_; clear n0_ n1_ n2_ n3_ n4_ n5_ n6_; clear hb hbox hg; have hnb8 := NB297_296.out; have hnc8 := NB296_297.out; have hcz9_0 : w7.cell? ⟨gb297, 0, none⟩ = some (.slice A1_0 l1_0.length c1_0) := (blk_cell BK297.out 0).trans rfl; have hcz9_1 : w7.cell? ⟨gb297, 1, none⟩ = some (.slice A1_1 l1_1.length c1_1) := (blk_cell BK297.out 1).trans rfl; have hfz9_0 := blk_frozen BK297.out 0; have hfz9_1 := blk_frozen BK297.out 1) | ((with_reducible refine gate_callee (f := 54) rfl ?_); refine goesL_ (some 20) rfl rfl Tryd.func54 (by kernel_rfl) rfl #[.slice A1_0 l1_0.length c1_0, .slice A2 l2.length c2] rfl mQ ?_; (with_reducible refine (expr_Eval.calls k _ _ l1_0 _ _ l2 t298 t299 _ ?side1 ?side2 ?side3 ?side4 ?side5 A4.out).mono ?_); (case side1 => exact cQ HR1_0.out); (case side2 => exact HC1_0.out); (case side3 => exact cQ HR2.out); (case side4 => exact HC2.out); (case side5 => first | exact hG_ | exact Glob.drewN hG_ _ | exact Glob.below hG_ (bQ2 GE296.out GE297.out)); rintro e w10 ⟨rfl, hb⟩; refine ⟨_, rfl, ?_⟩; have n0_ := Aside0.mk (blk_below (kQ BK296.out) hb); have n1_ := Aside0.mk (blk_below (kQ BK297.out) hb); have n2_ := Aside0.mk (below_step (bQ2 GE296.out GE297.out) hb); clear BK296; clear BK297; clear HB; have BK296 := n0_; have BK297 := n1_; have HB := n2_; clear n0_ n1_ n2_; (try clear hb); (try clear hb2); (try clear hk); (try clear hi)))
 (try simp only [Act.put, List.setIfInBounds_toArray, List.set_cons_zero, List.set_cons_succ])
 go_cut [28] (fun v28 wc => ∃ (kq : Nat) (x28_4 : Bool), v28 = .bool x28_4 ∧ Aside0 (step_after.j0 kq l2 x28_4 l0_0 l0_1 l1_0 l1_1 = some (r1, r2)) ∧ Aside0 (kq ≤ k) ∧ Aside0 (wc.heap[gb296]? = some (.cells #[(.slice A0_0 l0_0.length c0_0), (.slice A0_1 l0_1.length c0_1)] 30 (0, 0))) ∧ Aside0 (wc.heap[gb297]? = some (.cells #[(.slice A1_0 l1_0.length c1_0), (.slice A1_1 l1_1.length c1_1)] 118 (0, 0))) ∧ Aside0 (Below w.heap.size w wc))
 case first =>
  have H := HC5.out
  clear HC5
  by_cases c11 : t299 = 0
  rotate_left
  ·
   rw [if_neg c11] at H
   have c11b0 : (t299 == 0) = false := beq_eq_false_iff_ne.mpr c11
   have c11b1 : (t299 != 0) = true := bne_iff_ne.mpr c11
   (first | rw [c11b0] | (simp only [i64_w, i32_w]; rw [c11b0]) | skip)
   have H' := Aside0.mk H
   clear H
   go_wp2
   go_meet
   case rel => exact ⟨_, (true), (by first | rfl | (simp; done) | (simp [*]; done)), H', ⟨by first | omega | exact Nat.le_refl _⟩, ⟨by (with_reducible repeat (first | refine blk_drewN ?_ _ | refine blk_drew ?_ | refine blk_alloc ?_ _)); exact BK296.out⟩, ⟨by (with_reducible repeat (first | refine blk_drewN ?_ _ | refine blk_drew ?_ | refine blk_alloc ?_ _)); exact BK297.out⟩, ⟨bQ2 GE296.out GE297.out⟩⟩
  rw [if_pos c11] at H
  have c11b0 : (t299 == 0) = true := beq_iff_eq.mpr c11
  have c11b1 : (t299 != 0) = false := bne_eq_false_iff_eq.mpr c11
  clear c11
  (first | rw [c11b0] | (simp only [i64_w, i32_w]; rw [c11b0]) | skip)
  have H' := Aside0.mk H
  clear H
  go_wp2
  go_meet
  case rel => exact ⟨_, ((t298 == 0)), (by first | rfl | (simp; done) | (simp [*]; done)), H', ⟨by first | omega | exact Nat.le_refl _⟩, ⟨by (with_reducible repeat (first | refine blk_drewN ?_ _ | refine blk_drew ?_ | refine blk_alloc ?_ _)); exact BK296.out⟩, ⟨by (with_reducible repeat (first | refine blk_drewN ?_ _ | refine blk_drew ?_ | refine blk_alloc ?_ _)); exact BK297.out⟩, ⟨bQ2 GE296.out GE297.out⟩⟩
 case rest =>
  clear HC5
  try clear c1
  try clear c2
  try clear p2
  try clear c5
  try clear c6
  try clear c8
  try clear c11
  try clear c11b0
  try clear c11b1
  try clear hcz9_0
  try clear hcz9_1
  try clear hfz9_0
  try clear hfz9_1
  obtain ⟨kq, x28_4, rfl, HA, HJ4, BK296, BK297, HB⟩ := hcut
  cases kq with
  | zero => exact absurd HA.out (by simp [step_after.j0])
  | succ kj4 =>
   have H := HA.out
   clear HA
   simp only [step_after.j0] at H
   by_cases c12 : x28_4 = true
   ·
    subst c12
    have H1 : (some (([] : List Int), false)) = some (r1, r2) := by rw [if_pos rfl] at H; exact H
    clear H
    have H := H1
    clear H1
    simp only [Option.some.injEq, Prod.mk.injEq] at H
    obtain ⟨rfl, rfl⟩ := H
    go_wp2
    go_ret2
    exact ⟨_, by first | rfl | (simp [errW_none, errW_some] <;> rfl) | (simp [*, errW_none, errW_some] <;> rfl), by first | exact Kd.R_nil _ _ _ _ _ | exact Kd.N_nil _ _ _ _ _ | exact Kd.V_nil _ _ _ _ _ | exact Kd.Q_nil _ _ _ _ _ | exact Kd.S_nil _ _ _ _ _, bQ2 GE296.out GE297.out⟩
   replace c12 := Bool.eq_false_iff.mpr c12
   subst c12
   have H1 : ((slices_Clone_int_int.f l2).bind fun t300 => (step_after.l0 kj4 l2 t300 l1_1 (l1_1.length : Int) 0 l0_0 l0_1)) = some (r1, r2) := by rw [if_neg (show ¬ (false = true) by decide)] at H; exact H
   clear H
   have H := H1
   clear H1
   replace H := Option.bind_eq_some_iff.mp H
   obtain ⟨t300, A130, H⟩ := H
   replace H : (step_after.l0 kj4 l2 t300 l1_1 (l1_1.length : Int) 0 l0_0 l0_1) = some (r1, r2) := H
   have A13 := Aside0.mk A130
   clear A130
   have H' := Aside0.mk H
   clear H
   go_wp2_with (first | ((with_reducible refine gate_callee (f := 87) rfl ?_); refine goesL_ (some 30) rfl rfl Tryd.func87 (by kernel_rfl) rfl #[.slice A2 l2.length c2] rfl mQ ?_; (with_reducible refine (slices_Clone_int_int.calls _ _ l2 t300 _ ?side1 ?side2 A13.out).mono ?_); (case side1 => exact cQ HR2.out); (case side2 => exact HC2.out); rintro e w14 ⟨v301, rfl, ho0, hb⟩; refine ⟨_, rfl, ?_⟩; have n0_ := Aside0.mk (Kd.R_lower ho0 (below_size (bQ2 GE296.out GE297.out))); have n1_ := Aside0.mk (blk_below (kQ BK296.out) hb); have n2_ := Aside0.mk (blk_below (kQ BK297.out) hb); have n3_ := Aside0.mk (below_step (bQ2 GE296.out GE297.out) hb); clear BK296; clear BK297; clear HB; have HO302 := n0_; have BK296 := n1_; have BK297 := n2_; have HB := n3_; clear n0_ n1_ n2_ n3_; (try clear hb); (try clear hb2); (try clear hk); (try clear hi); (try clear ho0); have hnb15 := NB297_296.out; have hnc15 := NB296_297.out; have hcz16_0 : w14.cell? ⟨gb297, 0, none⟩ = some (.slice A1_0 l1_0.length c1_0) := (blk_cell BK297.out 0).trans rfl; have hcz16_1 : w14.cell? ⟨gb297, 1, none⟩ = some (.slice A1_1 l1_1.length c1_1) := (blk_cell BK297.out 1).trans rfl; have hfz16_0 := blk_frozen BK297.out 0; have hfz16_1 := blk_frozen BK297.out 1))
   go_loopg [34] kj4 (fun kq v34 w' => ∃ (x10_2 : List Int) (x34_2 : Int), v34 = .int .i64 x34_2 ∧ Aside0 (step_after.l0 kq l2 x10_2 l1_1 (l1_1.length : Int) x34_2 l0_0 l0_1 = some (r1, r2)) ∧ Aside0 (kq ≤ kj4) ∧ Aside0 (Kd.R (Kd.int .i64) 3 w' w.heap.size (fun _ => True) v301 x10_2) ∧ Aside0 (w'.heap[gb296]? = some (.cells #[(.slice A0_0 l0_0.length c0_0), (.slice A0_1 l0_1.length c0_1)] 30 (0, 0))) ∧ Aside0 (w'.heap[gb297]? = some (.cells #[(.slice A1_0 l1_0.length c1_0), (.slice A1_1 l1_1.length c1_1)] 118 (0, 0))) ∧ Aside0 (Below w.heap.size w w'))
   case atStart => exact ⟨(t300), (0), (by first | rfl | (simp; done) | (simp [*]; done)), H', ⟨Nat.le_refl _⟩, ⟨by (with_reducible repeat (first | apply Kd.R_alloc | apply Kd.R_drewN | apply Kd.R_drew)); exact HO302.out⟩, ⟨by (with_reducible repeat (first | refine blk_drewN ?_ _ | refine blk_drew ?_ | refine blk_alloc ?_ _)); exact BK296.out⟩, ⟨by (with_reducible repeat (first | refine blk_drewN ?_ _ | refine blk_drew ?_ | refine blk_alloc ?_ _)); exact BK297.out⟩, ⟨bQ2 GE296.out GE297.out⟩⟩
   case round =>
    clear H'
    try clear c1
    try clear c2
    try clear p2
    try clear c5
    try clear c6
    try clear c8
    try clear c11
    try clear c11b0
    try clear c11b1
    try clear c12
    try clear c15
    try clear hcz16_0
    try clear hcz16_1
    try clear hcz9_0
    try clear hcz9_1
    try clear hfz16_0
    try clear hfz16_1
    try clear hfz9_0
    try clear hfz9_1
    try clear p2
    obtain ⟨x10_2, x34_2, rfl, HA, HK2, HO_10, BK296, BK297, HB⟩ := hrel
    cases gk with
    | zero => exact absurd HA.out (by simp [step_after.l0])
    | succ k2 =>
     have H := HA.out
     clear HA
     simp only [step_after.l0] at H
     by_cases c17 : x34_2 < (l1_1.length : Int)
     rotate_left
     ·
      rw [if_neg c17] at H
      have c17b0 : decide (x34_2 < (l1_1.length : Int)) = false := decide_eq_false c17
      clear c17
      simp only [Option.some.injEq, Prod.mk.injEq] at H
      obtain ⟨rfl, rfl⟩ := H
      go_wp2
      go_ret2
      exact ⟨_, by first | rfl | (simp [errW_none, errW_some] <;> rfl) | (simp [*, errW_none, errW_some] <;> rfl), by (with_reducible repeat (first | apply Kd.R_alloc | apply Kd.R_drewN | apply Kd.R_drew)); exact HO_10.out, bQ2 GE296.out GE297.out⟩
     rw [if_pos c17] at H
     have c17b0 : decide (x34_2 < (l1_1.length : Int)) = true := decide_eq_true c17
     clear c17
     by_cases c18 : 0 ≤ x34_2
     rotate_left
     ·
      rw [if_neg c18] at H
      exact absurd H (by simp)
     rw [if_pos c18] at H
     have c18b0 : decide (0 ≤ x34_2) = true := decide_eq_true c18
     clear c18
     by_cases c19 : x34_2 < (l1_1.length : Int)
     rotate_left
     ·
      rw [if_neg c19] at H
      exact absurd H (by simp)
     rw [if_pos c19] at H
     have c19b0 : decide (x34_2 < (l1_1.length : Int)) = true := decide_eq_true c19
     clear c19
     replace H := Option.bind_eq_some_iff.mp H
     obtain ⟨⟨t305, t306⟩, A200, H⟩ := H
     replace H : (if 0 ≤ ((rd_T121 l1_1 x34_2).f0) then (if ((rd_T121 l1_1 x34_2).f0) < (l0_0.length : Int) then (if t306 = 0 then (if t305 < ((rd_T77 l0_0 ((rd_T121 l1_1 x34_2).f0)).f1) then (some (([] : List Int), false)) else (if t305 > ((rd_T77 l0_0 ((rd_T121 l1_1 x34_2).f0)).f2) then (some (([] : List Int), false)) else (if ((rd_T121 l1_1 x34_2).f0) < (x10_2.length : Int) then (step_after.l0 k2 l2 (x10_2.set (((rd_T121 l1_1 x34_2).f0) : Int).toNat t305) l1_1 (l1_1.length : Int) (wrap64 (x34_2 + 1)) l0_0 l0_1) else (none)))) else (some (([] : List Int), false))) else (none)) else (none)) = some (r1, r2) := H
     have A20 := Aside0.mk A200
     clear A200
     by_cases c21 : 0 ≤ ((rd_T121 l1_1 x34_2).f0)
     rotate_left
     ·
      rw [if_neg c21] at H
      exact absurd H (by simp)
     rw [if_pos c21] at H
     have c21b0 : decide (0 ≤ ((rd_T121 l1_1 x34_2).f0)) = true := decide_eq_true c21
     clear c21
     by_cases c22 : ((rd_T121 l1_1 x34_2).f0) < (l0_0.length : Int)
     rotate_left
     ·
      rw [if_neg c22] at H
      exact absurd H (by simp)
     rw [if_pos c22] at H
     have c22b0 : decide (((rd_T121 l1_1 x34_2).f0) < (l0_0.length : Int)) = true := decide_eq_true c22
     clear c22
     by_cases c23 : t306 = 0
     rotate_left
     ·
      rw [if_neg c23] at H
      have c23b0 : (t306 == 0) = false := beq_eq_false_iff_ne.mpr c23
      have c23b1 : (t306 != 0) = true := bne_iff_ne.mpr c23
      simp only [Option.some.injEq, Prod.mk.injEq] at H
      obtain ⟨rfl, rfl⟩ := H
      have p303 : 0 ≤ (x34_2 : Int) := of_decide_eq_true (by first | (with_reducible assumption) | assumption)
      have q303 : x34_2 < (l1_1.length : Int) := of_decide_eq_true (by first | (with_reducible assumption) | assumption)
      obtain ⟨ad303, A303_1, c303_1, e303, hx303_0, hx303_1, hl303_1, hi303_1⟩ := at_T121 HR1_1.out x34_2 p303 q303
      cases e303
      replace hx303_0 := (HB.out.cell (World.block_lt_of_cell? w _ hx303_0)).trans hx303_0
      replace hx303_1 := (HB.out.cell (World.block_lt_of_cell? w _ hx303_1)).trans hx303_1
      have HR303_1 := Aside0.mk hi303_1
      have HC303_1 := Aside0.mk hl303_1
      clear hi303_1 hl303_1
      replace p303 := eq_true p303
      replace q303 := eq_true q303
      go_wp2_with (first | ((with_reducible refine gate_dst (N := 12) rfl ?_); refine box_event ?hg (N := 12) ?hd (cs := #[.int .i64 0, .slice none 0 0]) (t := 121) ?hr ?_; (case hd => rfl); (case hg => rfl); (case hr => first | (go_simp; done) | (go_simp; rfl)); intro gb304 hg w72 hbox hb; have n0_ := Aside0.mk (Kd.R_below (rQR HO_10.out) hb); have n1_ := Aside0.mk (blk_below (kQ BK296.out) hb); have n2_ := Aside0.mk (blk_below (kQ BK297.out) hb); have n3_ := Aside0.mk (below_step (bQ2 GE296.out GE297.out) hb); have n4_ := Aside0.mk (hbox); have n5_ := Aside0.mk ((by rw [hg]; exact (below_size (bQ2 GE296.out GE297.out)) : w.heap.size ≤ gb304)); have n6_ := n5_; have n7_ := Aside0.mk ((by rw [hg]; exact Nat.ne_of_lt (blk_lt (kQ BK296.out)) : gb296 ≠ gb304)); have n8_ := Aside0.mk ((by rw [hg]; exact Nat.ne_of_gt (blk_lt (kQ BK296.out)) : gb304 ≠ gb296)); have n9_ := Aside0.mk ((by rw [hg]; exact Nat.ne_of_lt (blk_lt (kQ BK297.out)) : gb297 ≠ gb304)); have n10_ := Aside0.mk ((by rw [hg]; exact Nat.ne_of_gt (blk_lt (kQ BK297.out)) : gb304 ≠ gb297)); clear HO_10; clear BK296; clear BK297; clear HB; have HO_10 := n0_; have BK296 := n1_; have BK297 := n2_; have HB := n3_; have BK304 := n4_; have GW304 := n5_; have GE304 := n6_; have NB296_304 := n7_; have NB304_296 := n8_; have NB297_304 := n9_; have NB304_297 := n10_; clear n0_ n1_ n2_ n3_ n4_ n5_ n6_ n7_ n8_ n9_ n10_; clear hb hbox hg; have hnb73 := NB304_296.out; have hnc73 := NB296_304.out; have hnb74 := NB304_297.out; have hnc74 := NB297_304.out; have hcz75_0 : w72.cell? ⟨gb304, 0, none⟩ = some (.int .i64 0) := (blk_cell BK304.out 0).trans rfl; have hcz75_1 : w72.cell? ⟨gb304, 1, none⟩ = some (.slice none 0 0) := (blk_cell BK304.out 1).trans rfl; have hfz75_0 := blk_frozen BK304.out 0; have hfz75_1 := blk_frozen BK304.out 1) | ((with_reducible refine gate_callee (f := 54) rfl ?_); refine goesL_ (some 42) rfl rfl Tryd.func54 (by kernel_rfl) rfl #[.slice A303_1 ((rd_T121 l1_1 x34_2).f1).length c303_1, .slice A2 l2.length c2] rfl mQ ?_; (with_reducible refine (expr_Eval.calls k2 _ _ ((rd_T121 l1_1 x34_2).f1) _ _ l2 t305 t306 _ ?side1 ?side2 ?side3 ?side4 ?side5 A20.out).mono ?_); (case side1 => exact Kd.C_below HR303_1.out (bQ3 GE296.out GE297.out GE304.out)); (case side2 => exact HC303_1.out); (case side3 => exact Kd.C_below HR2.out (bQ3 GE296.out GE297.out GE304.out)); (case side4 => exact HC2.out); (case side5 => first | exact hG_ | exact Glob.drewN hG_ _ | exact Glob.below hG_ (bQ3 GE296.out GE297.out GE304.out)); rintro e w76 ⟨rfl, hb⟩; refine ⟨_, rfl, ?_⟩; have n0_ := Aside0.mk (Kd.R_below (by (with_reducible repeat (first | apply Kd.R_alloc | apply Kd.R_drewN | apply Kd.R_drew)); exact (Kd.R_mono (Kd.R_far (p := ⟨gb304, 1, none⟩) (Kd.R_far (p := ⟨gb304, 0, none⟩) (Kd.R_types HO_10.out BK304.out (by decide)) (fun _ hk => hk.2) (.int .i64 ((rd_T121 l1_1 x34_2).f0))) (fun _ hk => hk.2) (.slice A303_1 ((rd_T121 l1_1 x34_2).f1).length c303_1)) (fun _ h_ => h_.1))) hb); have n1_ := Aside0.mk (blk_below (g := gb296) (o := .cells #[.slice A0_0 l0_0.length c0_0, .slice A0_1 l0_1.length c0_1] 30 (0, 0)) (by (with_reducible repeat (first | refine blk_drewN ?_ _ | refine blk_drew ?_ | refine blk_alloc ?_ _)); refine blk_far ?_ NB296_304.out _; (with_reducible repeat (first | refine blk_drewN ?_ _ | refine blk_drew ?_ | refine blk_alloc ?_ _)); refine blk_far ?_ NB296_304.out _; (with_reducible repeat (first | refine blk_drewN ?_ _ | refine blk_drew ?_ | refine blk_alloc ?_ _)); exact BK296.out) hb); have n2_ := Aside0.mk (blk_below (g := gb297) (o := .cells #[.slice A1_0 l1_0.length c1_0, .slice (some ad303) l1_1.length c1_1] 118 (0, 0)) (by (with_reducible repeat (first | refine blk_drewN ?_ _ | refine blk_drew ?_ | refine blk_alloc ?_ _)); refine blk_far ?_ NB297_304.out _; (with_reducible repeat (first | refine blk_drewN ?_ _ | refine blk_drew ?_ | refine blk_alloc ?_ _)); refine blk_far ?_ NB297_304.out _; (with_reducible repeat (first | refine blk_drewN ?_ _ | refine blk_drew ?_ | refine blk_alloc ?_ _)); exact BK297.out) hb); have n3_ := Aside0.mk (blk_below (g := gb304) (o := .cells #[.int .i64 ((rd_T121 l1_1 x34_2).f0), .slice A303_1 ((rd_T121 l1_1 x34_2).f1).length c303_1] 121 (0, 0)) (by (with_reducible repeat (first | refine blk_drewN ?_ _ | refine blk_drew ?_ | refine blk_alloc ?_ _)); refine blk_put (cs := #[.int .i64 ((rd_T121 l1_1 x34_2).f0), .slice none 0 0]) ?_ 1 _ rfl; (with_reducible repeat (first | refine blk_drewN ?_ _ | refine blk_drew ?_ | refine blk_alloc ?_ _)); refine blk_put (cs := #[.int .i64 0, .slice none 0 0]) ?_ 0 _ rfl; (with_reducible repeat (first | refine blk_drewN ?_ _ | refine blk_drew ?_ | refine blk_alloc ?_ _)); exact BK304.out) hb); have n4_ := Aside0.mk (below_step (bQ3 GE296.out GE297.out GE304.out) hb); clear HO_10; clear BK296; clear BK297; clear BK304; clear HB; have HO_10 := n0_; have BK296 := n1_; have BK297 := n2_; have BK304 := n3_; have HB := n4_; clear n0_ n1_ n2_ n3_ n4_; (try clear hb); (try clear hb2); (try clear hk); (try clear hi); have hnb77 := NB296_297.out; have hnc77 := NB297_296.out; have hcz78_0 : w76.cell? ⟨gb296, 0, none⟩ = some (.slice A0_0 l0_0.length c0_0) := (blk_cell BK296.out 0).trans rfl; have hcz78_1 : w76.cell? ⟨gb296, 1, none⟩ = some (.slice A0_1 l0_1.length c0_1) := (blk_cell BK296.out 1).trans rfl; have hfz78_0 := blk_frozen BK296.out 0; have hfz78_1 := blk_frozen BK296.out 1; have hcz79_0 : w76.cell? ⟨gb304, 0, none⟩ = some (.int .i64 ((rd_T121 l1_1 x34_2).f0)) := (blk_cell BK304.out 0).trans rfl; have hcz79_1 : w76.cell? ⟨gb304, 1, none⟩ = some (.slice A303_1 ((rd_T121 l1_1 x34_2).f1).length c303_1) := (blk_cell BK304.out 1).trans rfl; have hfz79_0 := blk_frozen BK304.out 0; have hfz79_1 := blk_frozen BK304.out 1; have p307 : 0 ≤ (((rd_T121 l1_1 x34_2).f0) : Int) := of_decide_eq_true (by first | (with_reducible assumption) | assumption); have q307 : ((rd_T121 l1_1 x34_2).f0) < (l0_0.length : Int) := of_decide_eq_true (by first | (with_reducible assumption) | assumption); obtain ⟨ad307, e307, hx307_0, hx307_1, hx307_2, hx307_3⟩ := at_T77 HR0_0.out ((rd_T121 l1_1 x34_2).f0) p307 q307; cases e307; replace hx307_0 := (HB.out.cell (World.block_lt_of_cell? w _ hx307_0)).trans hx307_0; replace hx307_1 := (HB.out.cell (World.block_lt_of_cell? w _ hx307_1)).trans hx307_1; replace hx307_2 := (HB.out.cell (World.block_lt_of_cell? w _ hx307_2)).trans hx307_2; replace hx307_3 := (HB.out.cell (World.block_lt_of_cell? w _ hx307_3)).trans hx307_3; replace p307 := eq_true p307; replace q307 := eq_true q307) | ((with_reducible refine gate_dst (N := 15) rfl ?_); refine box_event ?hg (N := 15) ?hd (cs := #[.string (⟨#[]⟩ : ByteArray), .int .i64 0, .int .i64 0, .int .i64 0]) (t := 77) ?hr ?_; (case hd => rfl); (case hg => rfl); (case hr => first | (go_simp; done) | (go_simp; rfl)); intro gb308 hg w80 hbox hb; have n0_ := Aside0.mk (Kd.R_below (rQR HO_10.out) hb); have n1_ := Aside0.mk (blk_below (kQ BK296.out) hb); have n2_ := Aside0.mk (blk_below (kQ BK297.out) hb); have n3_ := Aside0.mk (blk_below (kQ BK304.out) hb); have n4_ := Aside0.mk (below_step (bQ3 GE296.out GE297.out GE304.out) hb); have n5_ := Aside0.mk (hbox); have n6_ := Aside0.mk ((by rw [hg]; exact (below_size (bQ3 GE296.out GE297.out GE304.out)) : w.heap.size ≤ gb308)); have n7_ := n6_; have n8_ := Aside0.mk ((by rw [hg]; exact Nat.ne_of_lt (blk_lt (kQ BK296.out)) : gb296 ≠ gb308)); have n9_ := Aside0.mk ((by rw [hg]; exact Nat.ne_of_gt (blk_lt (kQ BK296.out)) : gb308 ≠ gb296)); have n10_ := Aside0.mk ((by rw [hg]; exact Nat.ne_of_lt (blk_lt (kQ BK297.out)) : gb297 ≠ gb308)); have n11_ := Aside0.mk ((by rw [hg]; exact Nat.ne_of_gt (blk_lt (kQ BK297.out)) : gb308 ≠ gb297)); have n12_ := Aside0.mk ((by rw [hg]; exact Nat.ne_of_lt (blk_lt (kQ BK304.out)) : gb304 ≠ gb308)); have n13_ := Aside0.mk ((by rw [hg]; exact Nat.ne_of_gt (blk_lt (kQ BK304.out)) : gb308 ≠ gb304)); clear HO_10; clear BK296; clear BK297; clear BK304; clear HB; have HO_10 := n0_; have BK296 := n1_; have BK297 := n2_; have BK304 := n3_; have HB := n4_; have BK308 := n5_; have GW308 := n6_; have GE308 := n7_; have NB296_308 := n8_; have NB308_296 := n9_; have NB297_308 := n10_; have NB308_297 := n11_; have NB304_308 := n12_; have NB308_304 := n13_; clear n0_ n1_ n2_ n3_ n4_ n5_ n6_ n7_ n8_ n9_ n10_ n11_ n12_ n13_; clear hb hbox hg; have hnb81 := NB308_296.out; have hnc81 := NB296_308.out; have hnb82 := NB308_297.out; have hnc82 := NB297_308.out; have hnb83 := NB308_304.out; have hnc83 := NB304_308.out; have hcz84_0 : w80.cell? ⟨gb308, 0, none⟩ = some (.string (⟨#[]⟩ : ByteArray)) := (blk_cell BK308.out 0).trans rfl; have hcz84_1 : w80.cell? ⟨gb308, 1, none⟩ = some (.int .i64 0) := (blk_cell BK308.out 1).trans rfl; have hcz84_2 : w80.cell? ⟨gb308, 2, none⟩ = some (.int .i64 0) := (blk_cell BK308.out 2).trans rfl; have hcz84_3 : w80.cell? ⟨gb308, 3, none⟩ = some (.int .i64 0) := (blk_cell BK308.out 3).trans rfl; have hfz84_0 := blk_frozen BK308.out 0; have hfz84_1 := blk_frozen BK308.out 1; have hfz84_2 := blk_frozen BK308.out 2; have hfz84_3 := blk_frozen BK308.out 3))
      go_ret2
      exact ⟨_, by first | rfl | (simp [errW_none, errW_some] <;> rfl) | (simp [*, errW_none, errW_some] <;> rfl), by first | exact Kd.R_nil _ _ _ _ _ | exact Kd.N_nil _ _ _ _ _ | exact Kd.V_nil _ _ _ _ _ | exact Kd.Q_nil _ _ _ _ _ | exact Kd.S_nil _ _ _ _ _, bQ4 GE296.out GE297.out GE304.out GE308.out⟩
     rw [if_pos c23] at H
     have c23b0 : (t306 == 0) = true := beq_iff_eq.mpr c23
     have c23b1 : (t306 != 0) = false := bne_eq_false_iff_eq.mpr c23
     clear c23
     by_cases c24 : t305 < ((rd_T77 l0_0 ((rd_T121 l1_1 x34_2).f0)).f1)
     ·
      rw [if_pos c24] at H
      have c24b0 : decide (t305 < ((rd_T77 l0_0 ((rd_T121 l1_1 x34_2).f0)).f1)) = true := decide_eq_true c24
      clear c24
      simp only [Option.some.injEq, Prod.mk.injEq] at H
      obtain ⟨rfl, rfl⟩ := H
      have p303 : 0 ≤ (x34_2 : Int) := of_decide_eq_true (by first | (with_reducible assumption) | assumption)
      have q303 : x34_2 < (l1_1.length : Int) := of_decide_eq_true (by first | (with_reducible assumption) | assumption)
      obtain ⟨ad303, A303_1, c303_1, e303, hx303_0, hx303_1, hl303_1, hi303_1⟩ := at_T121 HR1_1.out x34_2 p303 q303
      cases e303
      replace hx303_0 := (HB.out.cell (World.block_lt_of_cell? w _ hx303_0)).trans hx303_0
      replace hx303_1 := (HB.out.cell (World.block_lt_of_cell? w _ hx303_1)).trans hx303_1
      have HR303_1 := Aside0.mk hi303_1
      have HC303_1 := Aside0.mk hl303_1
      clear hi303_1 hl303_1
      replace p303 := eq_true p303
      replace q303 := eq_true q303
      go_wp2_with (first | ((with_reducible refine gate_dst (N := 12) rfl ?_); refine box_event ?hg (N := 12) ?hd (cs := #[.int .i64 0, .slice none 0 0]) (t := 121) ?hr ?_; (case hd => rfl); (case hg => rfl); (case hr => first | (go_simp; done) | (go_simp; rfl)); intro gb304 hg w25 hbox hb; have n0_ := Aside0.mk (Kd.R_below (rQR HO_10.out) hb); have n1_ := Aside0.mk (blk_below (kQ BK296.out) hb); have n2_ := Aside0.mk (blk_below (kQ BK297.out) hb); have n3_ := Aside0.mk (below_step (bQ2 GE296.out GE297.out) hb); have n4_ := Aside0.mk (hbox); have n5_ := Aside0.mk ((by rw [hg]; exact (below_size (bQ2 GE296.out GE297.out)) : w.heap.size ≤ gb304)); have n6_ := n5_; have n7_ := Aside0.mk ((by rw [hg]; exact Nat.ne_of_lt (blk_lt (kQ BK296.out)) : gb296 ≠ gb304)); have n8_ := Aside0.mk ((by rw [hg]; exact Nat.ne_of_gt (blk_lt (kQ BK296.out)) : gb304 ≠ gb296)); have n9_ := Aside0.mk ((by rw [hg]; exact Nat.ne_of_lt (blk_lt (kQ BK297.out)) : gb297 ≠ gb304)); have n10_ := Aside0.mk ((by rw [hg]; exact Nat.ne_of_gt (blk_lt (kQ BK297.out)) : gb304 ≠ gb297)); clear HO_10; clear BK296; clear BK297; clear HB; have HO_10 := n0_; have BK296 := n1_; have BK297 := n2_; have HB := n3_; have BK304 := n4_; have GW304 := n5_; have GE304 := n6_; have NB296_304 := n7_; have NB304_296 := n8_; have NB297_304 := n9_; have NB304_297 := n10_; clear n0_ n1_ n2_ n3_ n4_ n5_ n6_ n7_ n8_ n9_ n10_; clear hb hbox hg; have hnb26 := NB304_296.out; have hnc26 := NB296_304.out; have hnb27 := NB304_297.out; have hnc27 := NB297_304.out; have hcz28_0 : w25.cell? ⟨gb304, 0, none⟩ = some (.int .i64 0) := (blk_cell BK304.out 0).trans rfl; have hcz28_1 : w25.cell? ⟨gb304, 1, none⟩ = some (.slice none 0 0) := (blk_cell BK304.out 1).trans rfl; have hfz28_0 := blk_frozen BK304.out 0; have hfz28_1 := blk_frozen BK304.out 1) | ((with_reducible refine gate_callee (f := 54) rfl ?_); refine goesL_ (some 42) rfl rfl Tryd.func54 (by kernel_rfl) rfl #[.slice A303_1 ((rd_T121 l1_1 x34_2).f1).length c303_1, .slice A2 l2.length c2] rfl mQ ?_; (with_reducible refine (expr_Eval.calls k2 _ _ ((rd_T121 l1_1 x34_2).f1) _ _ l2 t305 t306 _ ?side1 ?side2 ?side3 ?side4 ?side5 A20.out).mono ?_); (case side1 => exact Kd.C_below HR303_1.out (bQ3 GE296.out GE297.out GE304.out)); (case side2 => exact HC303_1.out); (case side3 => exact Kd.C_below HR2.out (bQ3 GE296.out GE297.out GE304.out)); (case side4 => exact HC2.out); (case side5 => first | exact hG_ | exact Glob.drewN hG_ _ | exact Glob.below hG_ (bQ3 GE296.out GE297.out GE304.out)); rintro e w29 ⟨rfl, hb⟩; refine ⟨_, rfl, ?_⟩; have n0_ := Aside0.mk (Kd.R_below (by (with_reducible repeat (first | apply Kd.R_alloc | apply Kd.R_drewN | apply Kd.R_drew)); exact (Kd.R_mono (Kd.R_far (p := ⟨gb304, 1, none⟩) (Kd.R_far (p := ⟨gb304, 0, none⟩) (Kd.R_types HO_10.out BK304.out (by decide)) (fun _ hk => hk.2) (.int .i64 ((rd_T121 l1_1 x34_2).f0))) (fun _ hk => hk.2) (.slice A303_1 ((rd_T121 l1_1 x34_2).f1).length c303_1)) (fun _ h_ => h_.1))) hb); have n1_ := Aside0.mk (blk_below (g := gb296) (o := .cells #[.slice A0_0 l0_0.length c0_0, .slice A0_1 l0_1.length c0_1] 30 (0, 0)) (by (with_reducible repeat (first | refine blk_drewN ?_ _ | refine blk_drew ?_ | refine blk_alloc ?_ _)); refine blk_far ?_ NB296_304.out _; (with_reducible repeat (first | refine blk_drewN ?_ _ | refine blk_drew ?_ | refine blk_alloc ?_ _)); refine blk_far ?_ NB296_304.out _; (with_reducible repeat (first | refine blk_drewN ?_ _ | refine blk_drew ?_ | refine blk_alloc ?_ _)); exact BK296.out) hb); have n2_ := Aside0.mk (blk_below (g := gb297) (o := .cells #[.slice A1_0 l1_0.length c1_0, .slice (some ad303) l1_1.length c1_1] 118 (0, 0)) (by (with_reducible repeat (first | refine blk_drewN ?_ _ | refine blk_drew ?_ | refine blk_alloc ?_ _)); refine blk_far ?_ NB297_304.out _; (with_reducible repeat (first | refine blk_drewN ?_ _ | refine blk_drew ?_ | refine blk_alloc ?_ _)); refine blk_far ?_ NB297_304.out _; (with_reducible repeat (first | refine blk_drewN ?_ _ | refine blk_drew ?_ | refine blk_alloc ?_ _)); exact BK297.out) hb); have n3_ := Aside0.mk (blk_below (g := gb304) (o := .cells #[.int .i64 ((rd_T121 l1_1 x34_2).f0), .slice A303_1 ((rd_T121 l1_1 x34_2).f1).length c303_1] 121 (0, 0)) (by (with_reducible repeat (first | refine blk_drewN ?_ _ | refine blk_drew ?_ | refine blk_alloc ?_ _)); refine blk_put (cs := #[.int .i64 ((rd_T121 l1_1 x34_2).f0), .slice none 0 0]) ?_ 1 _ rfl; (with_reducible repeat (first | refine blk_drewN ?_ _ | refine blk_drew ?_ | refine blk_alloc ?_ _)); refine blk_put (cs := #[.int .i64 0, .slice none 0 0]) ?_ 0 _ rfl; (with_reducible repeat (first | refine blk_drewN ?_ _ | refine blk_drew ?_ | refine blk_alloc ?_ _)); exact BK304.out) hb); have n4_ := Aside0.mk (below_step (bQ3 GE296.out GE297.out GE304.out) hb); clear HO_10; clear BK296; clear BK297; clear BK304; clear HB; have HO_10 := n0_; have BK296 := n1_; have BK297 := n2_; have BK304 := n3_; have HB := n4_; clear n0_ n1_ n2_ n3_ n4_; (try clear hb); (try clear hb2); (try clear hk); (try clear hi); have hnb30 := NB296_297.out; have hnc30 := NB297_296.out; have hcz31_0 : w29.cell? ⟨gb296, 0, none⟩ = some (.slice A0_0 l0_0.length c0_0) := (blk_cell BK296.out 0).trans rfl; have hcz31_1 : w29.cell? ⟨gb296, 1, none⟩ = some (.slice A0_1 l0_1.length c0_1) := (blk_cell BK296.out 1).trans rfl; have hfz31_0 := blk_frozen BK296.out 0; have hfz31_1 := blk_frozen BK296.out 1; have hcz32_0 : w29.cell? ⟨gb304, 0, none⟩ = some (.int .i64 ((rd_T121 l1_1 x34_2).f0)) := (blk_cell BK304.out 0).trans rfl; have hcz32_1 : w29.cell? ⟨gb304, 1, none⟩ = some (.slice A303_1 ((rd_T121 l1_1 x34_2).f1).length c303_1) := (blk_cell BK304.out 1).trans rfl; have hfz32_0 := blk_frozen BK304.out 0; have hfz32_1 := blk_frozen BK304.out 1; have p307 : 0 ≤ (((rd_T121 l1_1 x34_2).f0) : Int) := of_decide_eq_true (by first | (with_reducible assumption) | assumption); have q307 : ((rd_T121 l1_1 x34_2).f0) < (l0_0.length : Int) := of_decide_eq_true (by first | (with_reducible assumption) | assumption); obtain ⟨ad307, e307, hx307_0, hx307_1, hx307_2, hx307_3⟩ := at_T77 HR0_0.out ((rd_T121 l1_1 x34_2).f0) p307 q307; cases e307; replace hx307_0 := (HB.out.cell (World.block_lt_of_cell? w _ hx307_0)).trans hx307_0; replace hx307_1 := (HB.out.cell (World.block_lt_of_cell? w _ hx307_1)).trans hx307_1; replace hx307_2 := (HB.out.cell (World.block_lt_of_cell? w _ hx307_2)).trans hx307_2; replace hx307_3 := (HB.out.cell (World.block_lt_of_cell? w _ hx307_3)).trans hx307_3; replace p307 := eq_true p307; replace q307 := eq_true q307) | ((with_reducible refine gate_dst (N := 15) rfl ?_); refine box_event ?hg (N := 15) ?hd (cs := #[.string (⟨#[]⟩ : ByteArray), .int .i64 0, .int .i64 0, .int .i64 0]) (t := 77) ?hr ?_; (case hd => rfl); (case hg => rfl); (case hr => first | (go_simp; done) | (go_simp; rfl)); intro gb308 hg w33 hbox hb; have n0_ := Aside0.mk (Kd.R_below (rQR HO_10.out) hb); have n1_ := Aside0.mk (blk_below (kQ BK296.out) hb); have n2_ := Aside0.mk (blk_below (kQ BK297.out) hb); have n3_ := Aside0.mk (blk_below (kQ BK304.out) hb); have n4_ := Aside0.mk (below_step (bQ3 GE296.out GE297.out GE304.out) hb); have n5_ := Aside0.mk (hbox); have n6_ := Aside0.mk ((by rw [hg]; exact (below_size (bQ3 GE296.out GE297.out GE304.out)) : w.heap.size ≤ gb308)); have n7_ := n6_; have n8_ := Aside0.mk ((by rw [hg]; exact Nat.ne_of_lt (blk_lt (kQ BK296.out)) : gb296 ≠ gb308)); have n9_ := Aside0.mk ((by rw [hg]; exact Nat.ne_of_gt (blk_lt (kQ BK296.out)) : gb308 ≠ gb296)); have n10_ := Aside0.mk ((by rw [hg]; exact Nat.ne_of_lt (blk_lt (kQ BK297.out)) : gb297 ≠ gb308)); have n11_ := Aside0.mk ((by rw [hg]; exact Nat.ne_of_gt (blk_lt (kQ BK297.out)) : gb308 ≠ gb297)); have n12_ := Aside0.mk ((by rw [hg]; exact Nat.ne_of_lt (blk_lt (kQ BK304.out)) : gb304 ≠ gb308)); have n13_ := Aside0.mk ((by rw [hg]; exact Nat.ne_of_gt (blk_lt (kQ BK304.out)) : gb308 ≠ gb304)); clear HO_10; clear BK296; clear BK297; clear BK304; clear HB; have HO_10 := n0_; have BK296 := n1_; have BK297 := n2_; have BK304 := n3_; have HB := n4_; have BK308 := n5_; have GW308 := n6_; have GE308 := n7_; have NB296_308 := n8_; have NB308_296 := n9_; have NB297_308 := n10_; have NB308_297 := n11_; have NB304_308 := n12_; have NB308_304 := n13_; clear n0_ n1_ n2_ n3_ n4_ n5_ n6_ n7_ n8_ n9_ n10_ n11_ n12_ n13_; clear hb hbox hg; have hnb34 := NB308_296.out; have hnc34 := NB296_308.out; have hnb35 := NB308_297.out; have hnc35 := NB297_308.out; have hnb36 := NB308_304.out; have hnc36 := NB304_308.out; have hcz37_0 : w33.cell? ⟨gb308, 0, none⟩ = some (.string (⟨#[]⟩ : ByteArray)) := (blk_cell BK308.out 0).trans rfl; have hcz37_1 : w33.cell? ⟨gb308, 1, none⟩ = some (.int .i64 0) := (blk_cell BK308.out 1).trans rfl; have hcz37_2 : w33.cell? ⟨gb308, 2, none⟩ = some (.int .i64 0) := (blk_cell BK308.out 2).trans rfl; have hcz37_3 : w33.cell? ⟨gb308, 3, none⟩ = some (.int .i64 0) := (blk_cell BK308.out 3).trans rfl; have hfz37_0 := blk_frozen BK308.out 0; have hfz37_1 := blk_frozen BK308.out 1; have hfz37_2 := blk_frozen BK308.out 2; have hfz37_3 := blk_frozen BK308.out 3))
      go_ret2
      exact ⟨_, by first | rfl | (simp [errW_none, errW_some] <;> rfl) | (simp [*, errW_none, errW_some] <;> rfl), by first | exact Kd.R_nil _ _ _ _ _ | exact Kd.N_nil _ _ _ _ _ | exact Kd.V_nil _ _ _ _ _ | exact Kd.Q_nil _ _ _ _ _ | exact Kd.S_nil _ _ _ _ _, bQ4 GE296.out GE297.out GE304.out GE308.out⟩
     rw [if_neg c24] at H
     have c24b0 : decide (t305 < ((rd_T77 l0_0 ((rd_T121 l1_1 x34_2).f0)).f1)) = false := decide_eq_false c24
     clear c24
     by_cases c38 : t305 > ((rd_T77 l0_0 ((rd_T121 l1_1 x34_2).f0)).f2)
     ·
      rw [if_pos c38] at H
      have c38b0 : decide (((rd_T77 l0_0 ((rd_T121 l1_1 x34_2).f0)).f2) < t305) = true := decide_eq_true c38
      clear c38
      simp only [Option.some.injEq, Prod.mk.injEq] at H
      obtain ⟨rfl, rfl⟩ := H
      have p303 : 0 ≤ (x34_2 : Int) := of_decide_eq_true (by first | (with_reducible assumption) | assumption)
      have q303 : x34_2 < (l1_1.length : Int) := of_decide_eq_true (by first | (with_reducible assumption) | assumption)
      obtain ⟨ad303, A303_1, c303_1, e303, hx303_0, hx303_1, hl303_1, hi303_1⟩ := at_T121 HR1_1.out x34_2 p303 q303
      cases e303
      replace hx303_0 := (HB.out.cell (World.block_lt_of_cell? w _ hx303_0)).trans hx303_0
      replace hx303_1 := (HB.out.cell (World.block_lt_of_cell? w _ hx303_1)).trans hx303_1
      have HR303_1 := Aside0.mk hi303_1
      have HC303_1 := Aside0.mk hl303_1
      clear hi303_1 hl303_1
      replace p303 := eq_true p303
      replace q303 := eq_true q303
      go_wp2_with (first | ((with_reducible refine gate_dst (N := 12) rfl ?_); refine box_event ?hg (N := 12) ?hd (cs := #[.int .i64 0, .slice none 0 0]) (t := 121) ?hr ?_; (case hd => rfl); (case hg => rfl); (case hr => first | (go_simp; done) | (go_simp; rfl)); intro gb304 hg w39 hbox hb; have n0_ := Aside0.mk (Kd.R_below (rQR HO_10.out) hb); have n1_ := Aside0.mk (blk_below (kQ BK296.out) hb); have n2_ := Aside0.mk (blk_below (kQ BK297.out) hb); have n3_ := Aside0.mk (below_step (bQ2 GE296.out GE297.out) hb); have n4_ := Aside0.mk (hbox); have n5_ := Aside0.mk ((by rw [hg]; exact (below_size (bQ2 GE296.out GE297.out)) : w.heap.size ≤ gb304)); have n6_ := n5_; have n7_ := Aside0.mk ((by rw [hg]; exact Nat.ne_of_lt (blk_lt (kQ BK296.out)) : gb296 ≠ gb304)); have n8_ := Aside0.mk ((by rw [hg]; exact Nat.ne_of_gt (blk_lt (kQ BK296.out)) : gb304 ≠ gb296)); have n9_ := Aside0.mk ((by rw [hg]; exact Nat.ne_of_lt (blk_lt (kQ BK297.out)) : gb297 ≠ gb304)); have n10_ := Aside0.mk ((by rw [hg]; exact Nat.ne_of_gt (blk_lt (kQ BK297.out)) : gb304 ≠ gb297)); clear HO_10; clear BK296; clear BK297; clear HB; have HO_10 := n0_; have BK296 := n1_; have BK297 := n2_; have HB := n3_; have BK304 := n4_; have GW304 := n5_; have GE304 := n6_; have NB296_304 := n7_; have NB304_296 := n8_; have NB297_304 := n9_; have NB304_297 := n10_; clear n0_ n1_ n2_ n3_ n4_ n5_ n6_ n7_ n8_ n9_ n10_; clear hb hbox hg; have hnb40 := NB304_296.out; have hnc40 := NB296_304.out; have hnb41 := NB304_297.out; have hnc41 := NB297_304.out; have hcz42_0 : w39.cell? ⟨gb304, 0, none⟩ = some (.int .i64 0) := (blk_cell BK304.out 0).trans rfl; have hcz42_1 : w39.cell? ⟨gb304, 1, none⟩ = some (.slice none 0 0) := (blk_cell BK304.out 1).trans rfl; have hfz42_0 := blk_frozen BK304.out 0; have hfz42_1 := blk_frozen BK304.out 1) | ((with_reducible refine gate_callee (f := 54) rfl ?_); refine goesL_ (some 42) rfl rfl Tryd.func54 (by kernel_rfl) rfl #[.slice A303_1 ((rd_T121 l1_1 x34_2).f1).length c303_1, .slice A2 l2.length c2] rfl mQ ?_; (with_reducible refine (expr_Eval.calls k2 _ _ ((rd_T121 l1_1 x34_2).f1) _ _ l2 t305 t306 _ ?side1 ?side2 ?side3 ?side4 ?side5 A20.out).mono ?_); (case side1 => exact Kd.C_below HR303_1.out (bQ3 GE296.out GE297.out GE304.out)); (case side2 => exact HC303_1.out); (case side3 => exact Kd.C_below HR2.out (bQ3 GE296.out GE297.out GE304.out)); (case side4 => exact HC2.out); (case side5 => first | exact hG_ | exact Glob.drewN hG_ _ | exact Glob.below hG_ (bQ3 GE296.out GE297.out GE304.out)); rintro e w43 ⟨rfl, hb⟩; refine ⟨_, rfl, ?_⟩; have n0_ := Aside0.mk (Kd.R_below (by (with_reducible repeat (first | apply Kd.R_alloc | apply Kd.R_drewN | apply Kd.R_drew)); exact (Kd.R_mono (Kd.R_far (p := ⟨gb304, 1, none⟩) (Kd.R_far (p := ⟨gb304, 0, none⟩) (Kd.R_types HO_10.out BK304.out (by decide)) (fun _ hk => hk.2) (.int .i64 ((rd_T121 l1_1 x34_2).f0))) (fun _ hk => hk.2) (.slice A303_1 ((rd_T121 l1_1 x34_2).f1).length c303_1)) (fun _ h_ => h_.1))) hb); have n1_ := Aside0.mk (blk_below (g := gb296) (o := .cells #[.slice A0_0 l0_0.length c0_0, .slice A0_1 l0_1.length c0_1] 30 (0, 0)) (by (with_reducible repeat (first | refine blk_drewN ?_ _ | refine blk_drew ?_ | refine blk_alloc ?_ _)); refine blk_far ?_ NB296_304.out _; (with_reducible repeat (first | refine blk_drewN ?_ _ | refine blk_drew ?_ | refine blk_alloc ?_ _)); refine blk_far ?_ NB296_304.out _; (with_reducible repeat (first | refine blk_drewN ?_ _ | refine blk_drew ?_ | refine blk_alloc ?_ _)); exact BK296.out) hb); have n2_ := Aside0.mk (blk_below (g := gb297) (o := .cells #[.slice A1_0 l1_0.length c1_0, .slice (some ad303) l1_1.length c1_1] 118 (0, 0)) (by (with_reducible repeat (first | refine blk_drewN ?_ _ | refine blk_drew ?_ | refine blk_alloc ?_ _)); refine blk_far ?_ NB297_304.out _; (with_reducible repeat (first | refine blk_drewN ?_ _ | refine blk_drew ?_ | refine blk_alloc ?_ _)); refine blk_far ?_ NB297_304.out _; (with_reducible repeat (first | refine blk_drewN ?_ _ | refine blk_drew ?_ | refine blk_alloc ?_ _)); exact BK297.out) hb); have n3_ := Aside0.mk (blk_below (g := gb304) (o := .cells #[.int .i64 ((rd_T121 l1_1 x34_2).f0), .slice A303_1 ((rd_T121 l1_1 x34_2).f1).length c303_1] 121 (0, 0)) (by (with_reducible repeat (first | refine blk_drewN ?_ _ | refine blk_drew ?_ | refine blk_alloc ?_ _)); refine blk_put (cs := #[.int .i64 ((rd_T121 l1_1 x34_2).f0), .slice none 0 0]) ?_ 1 _ rfl; (with_reducible repeat (first | refine blk_drewN ?_ _ | refine blk_drew ?_ | refine blk_alloc ?_ _)); refine blk_put (cs := #[.int .i64 0, .slice none 0 0]) ?_ 0 _ rfl; (with_reducible repeat (first | refine blk_drewN ?_ _ | refine blk_drew ?_ | refine blk_alloc ?_ _)); exact BK304.out) hb); have n4_ := Aside0.mk (below_step (bQ3 GE296.out GE297.out GE304.out) hb); clear HO_10; clear BK296; clear BK297; clear BK304; clear HB; have HO_10 := n0_; have BK296 := n1_; have BK297 := n2_; have BK304 := n3_; have HB := n4_; clear n0_ n1_ n2_ n3_ n4_; (try clear hb); (try clear hb2); (try clear hk); (try clear hi); have hnb44 := NB296_297.out; have hnc44 := NB297_296.out; have hcz45_0 : w43.cell? ⟨gb296, 0, none⟩ = some (.slice A0_0 l0_0.length c0_0) := (blk_cell BK296.out 0).trans rfl; have hcz45_1 : w43.cell? ⟨gb296, 1, none⟩ = some (.slice A0_1 l0_1.length c0_1) := (blk_cell BK296.out 1).trans rfl; have hfz45_0 := blk_frozen BK296.out 0; have hfz45_1 := blk_frozen BK296.out 1; have hcz46_0 : w43.cell? ⟨gb304, 0, none⟩ = some (.int .i64 ((rd_T121 l1_1 x34_2).f0)) := (blk_cell BK304.out 0).trans rfl; have hcz46_1 : w43.cell? ⟨gb304, 1, none⟩ = some (.slice A303_1 ((rd_T121 l1_1 x34_2).f1).length c303_1) := (blk_cell BK304.out 1).trans rfl; have hfz46_0 := blk_frozen BK304.out 0; have hfz46_1 := blk_frozen BK304.out 1; have p307 : 0 ≤ (((rd_T121 l1_1 x34_2).f0) : Int) := of_decide_eq_true (by first | (with_reducible assumption) | assumption); have q307 : ((rd_T121 l1_1 x34_2).f0) < (l0_0.length : Int) := of_decide_eq_true (by first | (with_reducible assumption) | assumption); obtain ⟨ad307, e307, hx307_0, hx307_1, hx307_2, hx307_3⟩ := at_T77 HR0_0.out ((rd_T121 l1_1 x34_2).f0) p307 q307; cases e307; replace hx307_0 := (HB.out.cell (World.block_lt_of_cell? w _ hx307_0)).trans hx307_0; replace hx307_1 := (HB.out.cell (World.block_lt_of_cell? w _ hx307_1)).trans hx307_1; replace hx307_2 := (HB.out.cell (World.block_lt_of_cell? w _ hx307_2)).trans hx307_2; replace hx307_3 := (HB.out.cell (World.block_lt_of_cell? w _ hx307_3)).trans hx307_3; replace p307 := eq_true p307; replace q307 := eq_true q307) | ((with_reducible refine gate_dst (N := 15) rfl ?_); refine box_event ?hg (N := 15) ?hd (cs := #[.string (⟨#[]⟩ : ByteArray), .int .i64 0, .int .i64 0, .int .i64 0]) (t := 77) ?hr ?_; (case hd => rfl); (case hg => rfl); (case hr => first | (go_simp; done) | (go_simp; rfl)); intro gb308 hg w47 hbox hb; have n0_ := Aside0.mk (Kd.R_below (rQR HO_10.out) hb); have n1_ := Aside0.mk (blk_below (kQ BK296.out) hb); have n2_ := Aside0.mk (blk_below (kQ BK297.out) hb); have n3_ := Aside0.mk (blk_below (kQ BK304.out) hb); have n4_ := Aside0.mk (below_step (bQ3 GE296.out GE297.out GE304.out) hb); have n5_ := Aside0.mk (hbox); have n6_ := Aside0.mk ((by rw [hg]; exact (below_size (bQ3 GE296.out GE297.out GE304.out)) : w.heap.size ≤ gb308)); have n7_ := n6_; have n8_ := Aside0.mk ((by rw [hg]; exact Nat.ne_of_lt (blk_lt (kQ BK296.out)) : gb296 ≠ gb308)); have n9_ := Aside0.mk ((by rw [hg]; exact Nat.ne_of_gt (blk_lt (kQ BK296.out)) : gb308 ≠ gb296)); have n10_ := Aside0.mk ((by rw [hg]; exact Nat.ne_of_lt (blk_lt (kQ BK297.out)) : gb297 ≠ gb308)); have n11_ := Aside0.mk ((by rw [hg]; exact Nat.ne_of_gt (blk_lt (kQ BK297.out)) : gb308 ≠ gb297)); have n12_ := Aside0.mk ((by rw [hg]; exact Nat.ne_of_lt (blk_lt (kQ BK304.out)) : gb304 ≠ gb308)); have n13_ := Aside0.mk ((by rw [hg]; exact Nat.ne_of_gt (blk_lt (kQ BK304.out)) : gb308 ≠ gb304)); clear HO_10; clear BK296; clear BK297; clear BK304; clear HB; have HO_10 := n0_; have BK296 := n1_; have BK297 := n2_; have BK304 := n3_; have HB := n4_; have BK308 := n5_; have GW308 := n6_; have GE308 := n7_; have NB296_308 := n8_; have NB308_296 := n9_; have NB297_308 := n10_; have NB308_297 := n11_; have NB304_308 := n12_; have NB308_304 := n13_; clear n0_ n1_ n2_ n3_ n4_ n5_ n6_ n7_ n8_ n9_ n10_ n11_ n12_ n13_; clear hb hbox hg; have hnb48 := NB308_296.out; have hnc48 := NB296_308.out; have hnb49 := NB308_297.out; have hnc49 := NB297_308.out; have hnb50 := NB308_304.out; have hnc50 := NB304_308.out; have hcz51_0 : w47.cell? ⟨gb308, 0, none⟩ = some (.string (⟨#[]⟩ : ByteArray)) := (blk_cell BK308.out 0).trans rfl; have hcz51_1 : w47.cell? ⟨gb308, 1, none⟩ = some (.int .i64 0) := (blk_cell BK308.out 1).trans rfl; have hcz51_2 : w47.cell? ⟨gb308, 2, none⟩ = some (.int .i64 0) := (blk_cell BK308.out 2).trans rfl; have hcz51_3 : w47.cell? ⟨gb308, 3, none⟩ = some (.int .i64 0) := (blk_cell BK308.out 3).trans rfl; have hfz51_0 := blk_frozen BK308.out 0; have hfz51_1 := blk_frozen BK308.out 1; have hfz51_2 := blk_frozen BK308.out 2; have hfz51_3 := blk_frozen BK308.out 3))
      go_ret2
      exact ⟨_, by first | rfl | (simp [errW_none, errW_some] <;> rfl) | (simp [*, errW_none, errW_some] <;> rfl), by first | exact Kd.R_nil _ _ _ _ _ | exact Kd.N_nil _ _ _ _ _ | exact Kd.V_nil _ _ _ _ _ | exact Kd.Q_nil _ _ _ _ _ | exact Kd.S_nil _ _ _ _ _, bQ4 GE296.out GE297.out GE304.out GE308.out⟩
     rw [if_neg c38] at H
     have c38b0 : decide (((rd_T77 l0_0 ((rd_T121 l1_1 x34_2).f0)).f2) < t305) = false := decide_eq_false c38
     clear c38
     by_cases c52 : ((rd_T121 l1_1 x34_2).f0) < (x10_2.length : Int)
     rotate_left
     ·
      rw [if_neg c52] at H
      exact absurd H (by simp)
     rw [if_pos c52] at H
     have c52b0 : decide (((rd_T121 l1_1 x34_2).f0) < (x10_2.length : Int)) = true := decide_eq_true c52
     clear c52
     obtain ⟨y309, hy309⟩ : ∃ y_ : List Int, y_ = (x10_2.set (((rd_T121 l1_1 x34_2).f0) : Int).toNat t305) := ⟨_, rfl⟩
     replace H : (step_after.l0 k2 l2 y309 l1_1 (l1_1.length : Int) (wrap64 (x34_2 + 1)) l0_0 l0_1) = some (r1, r2) := by first | (rw [hy309]; with_reducible exact H) | (have H2_ := (Option.bind_some _ _).symm.trans H; rw [hy309]; with_reducible exact H2_) | (have H2_ := (Option.bind_some _ _).symm.trans H; with_reducible exact H2_) | with_reducible exact H | (rw [hy309]; exact H) | exact H
     have Ny309 := Aside0.mk hy309
     clear hy309
     have H' := Aside0.mk H
     clear H
     have p303 : 0 ≤ (x34_2 : Int) := of_decide_eq_true (by first | (with_reducible assumption) | assumption)
     have q303 : x34_2 < (l1_1.length : Int) := of_decide_eq_true (by first | (with_reducible assumption) | assumption)
     obtain ⟨ad303, A303_1, c303_1, e303, hx303_0, hx303_1, hl303_1, hi303_1⟩ := at_T121 HR1_1.out x34_2 p303 q303
     cases e303
     replace hx303_0 := (HB.out.cell (World.block_lt_of_cell? w _ hx303_0)).trans hx303_0
     replace hx303_1 := (HB.out.cell (World.block_lt_of_cell? w _ hx303_1)).trans hx303_1
     have HR303_1 := Aside0.mk hi303_1
     have HC303_1 := Aside0.mk hl303_1
     clear hi303_1 hl303_1
     replace p303 := eq_true p303
     replace q303 := eq_true q303
     go_wp2_with (first | ((with_reducible refine gate_dst (N := 12) rfl ?_); refine box_event ?hg (N := 12) ?hd (cs := #[.int .i64 0, .slice none 0 0]) (t := 121) ?hr ?_; (case hd => rfl); (case hg => rfl); (case hr => first | (go_simp; done) | (go_simp; rfl)); intro gb304 hg w54 hbox hb; have n0_ := Aside0.mk (Kd.R_below (rQR HO_10.out) hb); have n1_ := Aside0.mk (blk_below (kQ BK296.out) hb); have n2_ := Aside0.mk (blk_below (kQ BK297.out) hb); have n3_ := Aside0.mk (below_step (bQ2 GE296.out GE297.out) hb); have n4_ := Aside0.mk (hbox); have n5_ := Aside0.mk ((by rw [hg]; exact (below_size (bQ2 GE296.out GE297.out)) : w.heap.size ≤ gb304)); have n6_ := n5_; have n7_ := Aside0.mk ((by rw [hg]; exact Nat.ne_of_lt (blk_lt (kQ BK296.out)) : gb296 ≠ gb304)); have n8_ := Aside0.mk ((by rw [hg]; exact Nat.ne_of_gt (blk_lt (kQ BK296.out)) : gb304 ≠ gb296)); have n9_ := Aside0.mk ((by rw [hg]; exact Nat.ne_of_lt (blk_lt (kQ BK297.out)) : gb297 ≠ gb304)); have n10_ := Aside0.mk ((by rw [hg]; exact Nat.ne_of_gt (blk_lt (kQ BK297.out)) : gb304 ≠ gb297)); clear HO_10; clear BK296; clear BK297; clear HB; have HO_10 := n0_; have BK296 := n1_; have BK297 := n2_; have HB := n3_; have BK304 := n4_; have GW304 := n5_; have GE304 := n6_; have NB296_304 := n7_; have NB304_296 := n8_; have NB297_304 := n9_; have NB304_297 := n10_; clear n0_ n1_ n2_ n3_ n4_ n5_ n6_ n7_ n8_ n9_ n10_; clear hb hbox hg; have hnb55 := NB304_296.out; have hnc55 := NB296_304.out; have hnb56 := NB304_297.out; have hnc56 := NB297_304.out; have hcz57_0 : w54.cell? ⟨gb304, 0, none⟩ = some (.int .i64 0) := (blk_cell BK304.out 0).trans rfl; have hcz57_1 : w54.cell? ⟨gb304, 1, none⟩ = some (.slice none 0 0) := (blk_cell BK304.out 1).trans rfl; have hfz57_0 := blk_frozen BK304.out 0; have hfz57_1 := blk_frozen BK304.out 1) | ((with_reducible refine gate_callee (f := 54) rfl ?_); refine goesL_ (some 42) rfl rfl Tryd.func54 (by kernel_rfl) rfl #[.slice A303_1 ((rd_T121 l1_1 x34_2).f1).length c303_1, .slice A2 l2.length c2] rfl mQ ?_; (with_reducible refine (expr_Eval.calls k2 _ _ ((rd_T121 l1_1 x34_2).f1) _ _ l2 t305 t306 _ ?side1 ?side2 ?side3 ?side4 ?side5 A20.out).mono ?_); (case side1 => exact Kd.C_below HR303_1.out (bQ3 GE296.out GE297.out GE304.out)); (case side2 => exact HC303_1.out); (case side3 => exact Kd.C_below HR2.out (bQ3 GE296.out GE297.out GE304.out)); (case side4 => exact HC2.out); (case side5 => first | exact hG_ | exact Glob.drewN hG_ _ | exact Glob.below hG_ (bQ3 GE296.out GE297.out GE304.out)); rintro e w58 ⟨rfl, hb⟩; refine ⟨_, rfl, ?_⟩; have n0_ := Aside0.mk (Kd.R_below (by (with_reducible repeat (first | apply Kd.R_alloc | apply Kd.R_drewN | apply Kd.R_drew)); exact (Kd.R_mono (Kd.R_far (p := ⟨gb304, 1, none⟩) (Kd.R_far (p := ⟨gb304, 0, none⟩) (Kd.R_types HO_10.out BK304.out (by decide)) (fun _ hk => hk.2) (.int .i64 ((rd_T121 l1_1 x34_2).f0))) (fun _ hk => hk.2) (.slice A303_1 ((rd_T121 l1_1 x34_2).f1).length c303_1)) (fun _ h_ => h_.1))) hb); have n1_ := Aside0.mk (blk_below (g := gb296) (o := .cells #[.slice A0_0 l0_0.length c0_0, .slice A0_1 l0_1.length c0_1] 30 (0, 0)) (by (with_reducible repeat (first | refine blk_drewN ?_ _ | refine blk_drew ?_ | refine blk_alloc ?_ _)); refine blk_far ?_ NB296_304.out _; (with_reducible repeat (first | refine blk_drewN ?_ _ | refine blk_drew ?_ | refine blk_alloc ?_ _)); refine blk_far ?_ NB296_304.out _; (with_reducible repeat (first | refine blk_drewN ?_ _ | refine blk_drew ?_ | refine blk_alloc ?_ _)); exact BK296.out) hb); have n2_ := Aside0.mk (blk_below (g := gb297) (o := .cells #[.slice A1_0 l1_0.length c1_0, .slice (some ad303) l1_1.length c1_1] 118 (0, 0)) (by (with_reducible repeat (first | refine blk_drewN ?_ _ | refine blk_drew ?_ | refine blk_alloc ?_ _)); refine blk_far ?_ NB297_304.out _; (with_reducible repeat (first | refine blk_drewN ?_ _ | refine blk_drew ?_ | refine blk_alloc ?_ _)); refine blk_far ?_ NB297_304.out _; (with_reducible repeat (first | refine blk_drewN ?_ _ | refine blk_drew ?_ | refine blk_alloc ?_ _)); exact BK297.out) hb); have n3_ := Aside0.mk (blk_below (g := gb304) (o := .cells #[.int .i64 ((rd_T121 l1_1 x34_2).f0), .slice A303_1 ((rd_T121 l1_1 x34_2).f1).length c303_1] 121 (0, 0)) (by (with_reducible repeat (first | refine blk_drewN ?_ _ | refine blk_drew ?_ | refine blk_alloc ?_ _)); refine blk_put (cs := #[.int .i64 ((rd_T121 l1_1 x34_2).f0), .slice none 0 0]) ?_ 1 _ rfl; (with_reducible repeat (first | refine blk_drewN ?_ _ | refine blk_drew ?_ | refine blk_alloc ?_ _)); refine blk_put (cs := #[.int .i64 0, .slice none 0 0]) ?_ 0 _ rfl; (with_reducible repeat (first | refine blk_drewN ?_ _ | refine blk_drew ?_ | refine blk_alloc ?_ _)); exact BK304.out) hb); have n4_ := Aside0.mk (below_step (bQ3 GE296.out GE297.out GE304.out) hb); clear HO_10; clear BK296; clear BK297; clear BK304; clear HB; have HO_10 := n0_; have BK296 := n1_; have BK297 := n2_; have BK304 := n3_; have HB := n4_; clear n0_ n1_ n2_ n3_ n4_; (try clear hb); (try clear hb2); (try clear hk); (try clear hi); have hnb59 := NB296_297.out; have hnc59 := NB297_296.out; have hcz60_0 : w58.cell? ⟨gb296, 0, none⟩ = some (.slice A0_0 l0_0.length c0_0) := (blk_cell BK296.out 0).trans rfl; have hcz60_1 : w58.cell? ⟨gb296, 1, none⟩ = some (.slice A0_1 l0_1.length c0_1) := (blk_cell BK296.out 1).trans rfl; have hfz60_0 := blk_frozen BK296.out 0; have hfz60_1 := blk_frozen BK296.out 1; have hcz61_0 : w58.cell? ⟨gb304, 0, none⟩ = some (.int .i64 ((rd_T121 l1_1 x34_2).f0)) := (blk_cell BK304.out 0).trans rfl; have hcz61_1 : w58.cell? ⟨gb304, 1, none⟩ = some (.slice A303_1 ((rd_T121 l1_1 x34_2).f1).length c303_1) := (blk_cell BK304.out 1).trans rfl; have hfz61_0 := blk_frozen BK304.out 0; have hfz61_1 := blk_frozen BK304.out 1; have p307 : 0 ≤ (((rd_T121 l1_1 x34_2).f0) : Int) := of_decide_eq_true (by first | (with_reducible assumption) | assumption); have q307 : ((rd_T121 l1_1 x34_2).f0) < (l0_0.length : Int) := of_decide_eq_true (by first | (with_reducible assumption) | assumption); obtain ⟨ad307, e307, hx307_0, hx307_1, hx307_2, hx307_3⟩ := at_T77 HR0_0.out ((rd_T121 l1_1 x34_2).f0) p307 q307; cases e307; replace hx307_0 := (HB.out.cell (World.block_lt_of_cell? w _ hx307_0)).trans hx307_0; replace hx307_1 := (HB.out.cell (World.block_lt_of_cell? w _ hx307_1)).trans hx307_1; replace hx307_2 := (HB.out.cell (World.block_lt_of_cell? w _ hx307_2)).trans hx307_2; replace hx307_3 := (HB.out.cell (World.block_lt_of_cell? w _ hx307_3)).trans hx307_3; replace p307 := eq_true p307; replace q307 := eq_true q307) | ((with_reducible refine gate_dst (N := 15) rfl ?_); refine box_event ?hg (N := 15) ?hd (cs := #[.string (⟨#[]⟩ : ByteArray), .int .i64 0, .int .i64 0, .int .i64 0]) (t := 77) ?hr ?_; (case hd => rfl); (case hg => rfl); (case hr => first | (go_simp; done) | (go_simp; rfl)); intro gb308 hg w62 hbox hb; have n0_ := Aside0.mk (Kd.R_below (rQR HO_10.out) hb); have n1_ := Aside0.mk (blk_below (kQ BK296.out) hb); have n2_ := Aside0.mk (blk_below (kQ BK297.out) hb); have n3_ := Aside0.mk (blk_below (kQ BK304.out) hb); have n4_ := Aside0.mk (below_step (bQ3 GE296.out GE297.out GE304.out) hb); have n5_ := Aside0.mk (hbox); have n6_ := Aside0.mk ((by rw [hg]; exact (below_size (bQ3 GE296.out GE297.out GE304.out)) : w.heap.size ≤ gb308)); have n7_ := n6_; have n8_ := Aside0.mk ((by rw [hg]; exact Nat.ne_of_lt (blk_lt (kQ BK296.out)) : gb296 ≠ gb308)); have n9_ := Aside0.mk ((by rw [hg]; exact Nat.ne_of_gt (blk_lt (kQ BK296.out)) : gb308 ≠ gb296)); have n10_ := Aside0.mk ((by rw [hg]; exact Nat.ne_of_lt (blk_lt (kQ BK297.out)) : gb297 ≠ gb308)); have n11_ := Aside0.mk ((by rw [hg]; exact Nat.ne_of_gt (blk_lt (kQ BK297.out)) : gb308 ≠ gb297)); have n12_ := Aside0.mk ((by rw [hg]; exact Nat.ne_of_lt (blk_lt (kQ BK304.out)) : gb304 ≠ gb308)); have n13_ := Aside0.mk ((by rw [hg]; exact Nat.ne_of_gt (blk_lt (kQ BK304.out)) : gb308 ≠ gb304)); clear HO_10; clear BK296; clear BK297; clear BK304; clear HB; have HO_10 := n0_; have BK296 := n1_; have BK297 := n2_; have BK304 := n3_; have HB := n4_; have BK308 := n5_; have GW308 := n6_; have GE308 := n7_; have NB296_308 := n8_; have NB308_296 := n9_; have NB297_308 := n10_; have NB308_297 := n11_; have NB304_308 := n12_; have NB308_304 := n13_; clear n0_ n1_ n2_ n3_ n4_ n5_ n6_ n7_ n8_ n9_ n10_ n11_ n12_ n13_; clear hb hbox hg; have hnb63 := NB308_296.out; have hnc63 := NB296_308.out; have hnb64 := NB308_297.out; have hnc64 := NB297_308.out; have hnb65 := NB308_304.out; have hnc65 := NB304_308.out; have hcz66_0 : w62.cell? ⟨gb308, 0, none⟩ = some (.string (⟨#[]⟩ : ByteArray)) := (blk_cell BK308.out 0).trans rfl; have hcz66_1 : w62.cell? ⟨gb308, 1, none⟩ = some (.int .i64 0) := (blk_cell BK308.out 1).trans rfl; have hcz66_2 : w62.cell? ⟨gb308, 2, none⟩ = some (.int .i64 0) := (blk_cell BK308.out 2).trans rfl; have hcz66_3 : w62.cell? ⟨gb308, 3, none⟩ = some (.int .i64 0) := (blk_cell BK308.out 3).trans rfl; have hfz66_0 := blk_frozen BK308.out 0; have hfz66_1 := blk_frozen BK308.out 1; have hfz66_2 := blk_frozen BK308.out 2; have hfz66_3 := blk_frozen BK308.out 3) | ((with_reducible refine gate_store (t := 77) (p := 15) rfl ?_); refine store_event (t := 77) (p := 15) (v := ?vo_w67) (w1 := ((((w62.setCell ⟨gb308, 0, none⟩ (.string ((rd_T77 l0_0 ((rd_T121 l1_1 x34_2).f0)).f0))).setCell ⟨gb308, 1, none⟩ (.int .i64 ((rd_T77 l0_0 ((rd_T121 l1_1 x34_2).f0)).f1))).setCell ⟨gb308, 2, none⟩ (.int .i64 ((rd_T77 l0_0 ((rd_T121 l1_1 x34_2).f0)).f2))).setCell ⟨gb308, 3, none⟩ (.int .i64 ((rd_T77 l0_0 ((rd_T121 l1_1 x34_2).f0)).f3)))) ?hg ?ho ?hn ?hr ?_; (case ho => rfl); (case hg => rfl); (case hn => rfl); (case hr => first | (go_simp; done) | (go_simp; rfl)); intro w67 hw; have n0_ : Aside0 (Kd.R (Kd.int .i64) 3 w67 w.heap.size (fun _ => True) v301 x10_2) := ⟨(by rw [hw]; exact (by (with_reducible repeat (first | apply Kd.R_alloc | apply Kd.R_drewN | apply Kd.R_drew)); exact Kd.R_mono (Kd.R_far (p := ⟨gb308, 3, none⟩) (Kd.R_far (p := ⟨gb308, 2, none⟩) (Kd.R_far (p := ⟨gb308, 1, none⟩) (Kd.R_far (p := ⟨gb308, 0, none⟩) (Kd.R_types HO_10.out BK308.out (by decide)) (fun _ hk => hk.2) (.string ((rd_T77 l0_0 ((rd_T121 l1_1 x34_2).f0)).f0))) (fun _ hk => hk.2) (.int .i64 ((rd_T77 l0_0 ((rd_T121 l1_1 x34_2).f0)).f1))) (fun _ hk => hk.2) (.int .i64 ((rd_T77 l0_0 ((rd_T121 l1_1 x34_2).f0)).f2))) (fun _ hk => hk.2) (.int .i64 ((rd_T77 l0_0 ((rd_T121 l1_1 x34_2).f0)).f3))) (fun _ hk => trivial)))⟩; have n1_ : Aside0 (w67.heap[gb296]? = some (.cells #[.slice (some ad307) l0_0.length c0_0, .slice A0_1 l0_1.length c0_1] 30 (0, 0))) := ⟨(by rw [hw]; exact (by (with_reducible repeat (first | refine blk_drewN ?_ _ | refine blk_drew ?_ | refine blk_alloc ?_ _)); refine blk_far ?_ NB296_308.out _; (with_reducible repeat (first | refine blk_drewN ?_ _ | refine blk_drew ?_ | refine blk_alloc ?_ _)); refine blk_far ?_ NB296_308.out _; (with_reducible repeat (first | refine blk_drewN ?_ _ | refine blk_drew ?_ | refine blk_alloc ?_ _)); refine blk_far ?_ NB296_308.out _; (with_reducible repeat (first | refine blk_drewN ?_ _ | refine blk_drew ?_ | refine blk_alloc ?_ _)); refine blk_far ?_ NB296_308.out _; (with_reducible repeat (first | refine blk_drewN ?_ _ | refine blk_drew ?_ | refine blk_alloc ?_ _)); exact BK296.out))⟩; have n2_ : Aside0 (w67.heap[gb297]? = some (.cells #[.slice A1_0 l1_0.length c1_0, .slice (some ad303) l1_1.length c1_1] 118 (0, 0))) := ⟨(by rw [hw]; exact (by (with_reducible repeat (first | refine blk_drewN ?_ _ | refine blk_drew ?_ | refine blk_alloc ?_ _)); refine blk_far ?_ NB297_308.out _; (with_reducible repeat (first | refine blk_drewN ?_ _ | refine blk_drew ?_ | refine blk_alloc ?_ _)); refine blk_far ?_ NB297_308.out _; (with_reducible repeat (first | refine blk_drewN ?_ _ | refine blk_drew ?_ | refine blk_alloc ?_ _)); refine blk_far ?_ NB297_308.out _; (with_reducible repeat (first | refine blk_drewN ?_ _ | refine blk_drew ?_ | refine blk_alloc ?_ _)); refine blk_far ?_ NB297_308.out _; (with_reducible repeat (first | refine blk_drewN ?_ _ | refine blk_drew ?_ | refine blk_alloc ?_ _)); exact BK297.out))⟩; have n3_ : Aside0 (w67.heap[gb304]? = some (.cells #[.int .i64 ((rd_T121 l1_1 x34_2).f0), .slice A303_1 ((rd_T121 l1_1 x34_2).f1).length c303_1] 121 (0, 0))) := ⟨(by rw [hw]; exact (by (with_reducible repeat (first | refine blk_drewN ?_ _ | refine blk_drew ?_ | refine blk_alloc ?_ _)); refine blk_far ?_ NB304_308.out _; (with_reducible repeat (first | refine blk_drewN ?_ _ | refine blk_drew ?_ | refine blk_alloc ?_ _)); refine blk_far ?_ NB304_308.out _; (with_reducible repeat (first | refine blk_drewN ?_ _ | refine blk_drew ?_ | refine blk_alloc ?_ _)); refine blk_far ?_ NB304_308.out _; (with_reducible repeat (first | refine blk_drewN ?_ _ | refine blk_drew ?_ | refine blk_alloc ?_ _)); refine blk_far ?_ NB304_308.out _; (with_reducible repeat (first | refine blk_drewN ?_ _ | refine blk_drew ?_ | refine blk_alloc ?_ _)); exact BK304.out))⟩; have n4_ : Aside0 (w67.heap[gb308]? = some (.cells #[.string ((rd_T77 l0_0 ((rd_T121 l1_1 x34_2).f0)).f0), .int .i64 ((rd_T77 l0_0 ((rd_T121 l1_1 x34_2).f0)).f1), .int .i64 ((rd_T77 l0_0 ((rd_T121 l1_1 x34_2).f0)).f2), .int .i64 ((rd_T77 l0_0 ((rd_T121 l1_1 x34_2).f0)).f3)] 77 (0, 0))) := ⟨(by rw [hw]; exact (by (with_reducible repeat (first | refine blk_drewN ?_ _ | refine blk_drew ?_ | refine blk_alloc ?_ _)); refine blk_put (cs := #[.string ((rd_T77 l0_0 ((rd_T121 l1_1 x34_2).f0)).f0), .int .i64 ((rd_T77 l0_0 ((rd_T121 l1_1 x34_2).f0)).f1), .int .i64 ((rd_T77 l0_0 ((rd_T121 l1_1 x34_2).f0)).f2), .int .i64 0]) ?_ 3 _ rfl; (with_reducible repeat (first | refine blk_drewN ?_ _ | refine blk_drew ?_ | refine blk_alloc ?_ _)); refine blk_put (cs := #[.string ((rd_T77 l0_0 ((rd_T121 l1_1 x34_2).f0)).f0), .int .i64 ((rd_T77 l0_0 ((rd_T121 l1_1 x34_2).f0)).f1), .int .i64 0, .int .i64 0]) ?_ 2 _ rfl; (with_reducible repeat (first | refine blk_drewN ?_ _ | refine blk_drew ?_ | refine blk_alloc ?_ _)); refine blk_put (cs := #[.string ((rd_T77 l0_0 ((rd_T121 l1_1 x34_2).f0)).f0), .int .i64 0, .int .i64 0, .int .i64 0]) ?_ 1 _ rfl; (with_reducible repeat (first | refine blk_drewN ?_ _ | refine blk_drew ?_ | refine blk_alloc ?_ _)); refine blk_put (cs := #[.string (⟨#[]⟩ : ByteArray), .int .i64 0, .int .i64 0, .int .i64 0]) ?_ 0 _ rfl; (with_reducible repeat (first | refine blk_drewN ?_ _ | refine blk_drew ?_ | refine blk_alloc ?_ _)); exact BK308.out))⟩; have n5_ : Aside0 (Below w.heap.size w w67) := ⟨(by rw [hw]; exact (bQ4 GE296.out GE297.out GE304.out GE308.out))⟩; clear hw; clear HO_10; clear BK296; clear BK297; clear BK304; clear BK308; clear HB; have HO_10 := n0_; have BK296 := n1_; have BK297 := n2_; have BK304 := n3_; have BK308 := n4_; have HB := n5_; clear n0_ n1_ n2_ n3_ n4_ n5_; have hcz68_0 : w67.cell? ⟨gb308, 0, none⟩ = some (.string ((rd_T77 l0_0 ((rd_T121 l1_1 x34_2).f0)).f0)) := (blk_cell BK308.out 0).trans rfl; have hcz68_1 : w67.cell? ⟨gb308, 1, none⟩ = some (.int .i64 ((rd_T77 l0_0 ((rd_T121 l1_1 x34_2).f0)).f1)) := (blk_cell BK308.out 1).trans rfl; have hcz68_2 : w67.cell? ⟨gb308, 2, none⟩ = some (.int .i64 ((rd_T77 l0_0 ((rd_T121 l1_1 x34_2).f0)).f2)) := (blk_cell BK308.out 2).trans rfl; have hcz68_3 : w67.cell? ⟨gb308, 3, none⟩ = some (.int .i64 ((rd_T77 l0_0 ((rd_T121 l1_1 x34_2).f0)).f3)) := (blk_cell BK308.out 3).trans rfl; have hfz68_0 := blk_frozen BK308.out 0; have hfz68_1 := blk_frozen BK308.out 1; have hfz68_2 := blk_frozen BK308.out 2; have hfz68_3 := blk_frozen BK308.out 3; have hcz69_0 : w67.cell? ⟨gb304, 0, none⟩ = some (.int .i64 ((rd_T121 l1_1 x34_2).f0)) := (blk_cell BK304.out 0).trans rfl; have hcz69_1 : w67.cell? ⟨gb304, 1, none⟩ = some (.slice A303_1 ((rd_T121 l1_1 x34_2).f1).length c303_1) := (blk_cell BK304.out 1).trans rfl; have hfz69_0 := blk_frozen BK304.out 0; have hfz69_1 := blk_frozen BK304.out 1; have p53 : 0 ≤ (((rd_T121 l1_1 x34_2).f0) : Int) := of_decide_eq_true (by first | (with_reducible assumption) | assumption); have q53 : (((rd_T121 l1_1 x34_2).f0) : Int) < ((x10_2.length : Int) : Int) := of_decide_eq_true (by first | (with_reducible assumption) | assumption); obtain ⟨go53, co53, eo53, gb53, gl53, cl53, HG53⟩ := Kd.R_form HO_10.out (by omega); (first | cases eo53 | (injection eo53 with ea_ en_ ec_; (first | subst ea_ | (injection ea_ with ea_; subst ea_)); subst ec_; clear en_)); have GB53 := Aside0.mk gb53; have GG53 := Aside0.mk HG53; clear gb53 gl53 HG53; obtain ⟨hx53_0, hf53_0⟩ := Kd.R_celln 0 HO_10.out (((rd_T121 l1_1 x34_2).f0) : Int) p53 q53; replace p53 := eq_true p53; replace q53 := eq_true q53; obtain ⟨hy70_, hz70_⟩ := Kd.R_celln 0 HO_10.out (((rd_T121 l1_1 x34_2).f0) : Int) (of_decide_eq_true (by first | (with_reducible assumption) | assumption)) (of_decide_eq_true (by first | (with_reducible assumption) | assumption)); have HP70 := Kd.R_putg HO_10.out (((rd_T121 l1_1 x34_2).f0) : Int) t305) | ((with_reducible refine gate_store (t := 3) (p := 69) rfl ?_); refine store_event (t := 3) (p := 69) (v := ?vo_w71) (w1 := (w67.setCell ⟨go53, (((rd_T121 l1_1 x34_2).f0) : Int).toNat, none⟩ (.int .i64 t305))) ?hg ?ho ?hn ?hr ?_; (case ho => rfl); (case hg => rfl); (case hn => rfl); (case hr => first | (go_simp; done) | (go_simp; rfl)); intro w71 hw; have hg : w67.grownBy w71 (some go53) := (by rw [hw]; exact HP70.2); have hp_ : Kd.R (Kd.int .i64) 3 w71 w.heap.size (fun _ => True) (.slice (some ⟨go53, 0, none⟩) x10_2.length co53) y309 := (by rw [hw, Ny309.out]; exact HP70.1); clear HP70; have n0_ := Aside0.mk (hp_); have n1_ := Aside0.mk (blk_grown (g := gb296) (o := .cells #[.slice (some ad307) l0_0.length c0_0, .slice A0_1 l0_1.length c0_1] 30 (0, 0)) (kQ BK296.out) hg (Kd.R_ne HO_10.out BK296.out (by decide))); have n2_ := Aside0.mk (blk_grown (g := gb297) (o := .cells #[.slice A1_0 l1_0.length c1_0, .slice (some ad303) l1_1.length c1_1] 118 (0, 0)) (kQ BK297.out) hg (Kd.R_ne HO_10.out BK297.out (by decide))); have n3_ := Aside0.mk (blk_grown (g := gb304) (o := .cells #[.int .i64 ((rd_T121 l1_1 x34_2).f0), .slice A303_1 ((rd_T121 l1_1 x34_2).f1).length c303_1] 121 (0, 0)) (kQ BK304.out) hg (Kd.R_ne HO_10.out BK304.out (by decide))); have n4_ := Aside0.mk (blk_grown (g := gb308) (o := .cells #[.string ((rd_T77 l0_0 ((rd_T121 l1_1 x34_2).f0)).f0), .int .i64 ((rd_T77 l0_0 ((rd_T121 l1_1 x34_2).f0)).f1), .int .i64 ((rd_T77 l0_0 ((rd_T121 l1_1 x34_2).f0)).f2), .int .i64 ((rd_T77 l0_0 ((rd_T121 l1_1 x34_2).f0)).f3)] 77 (0, 0)) (kQ BK308.out) hg (Kd.R_ne HO_10.out BK308.out (by decide))); have n5_ := Aside0.mk ((by rw [hw]; exact below_set (HB.out) GB53.out : Below w.heap.size w w71)); clear HO_10; clear BK296; clear BK297; clear BK304; clear BK308; clear HB; have HO_10 := n0_; have BK296 := n1_; have BK297 := n2_; have BK304 := n3_; have BK308 := n4_; have HB := n5_; clear n0_ n1_ n2_ n3_ n4_ n5_; clear hg hw hp_))
     go_roundg k2
     case measure => have := HJ4.out; have := HK2.out; omega
     case rel => exact ⟨(y309), (wrap64 (x34_2 + 1)), (by first | rfl | (simp; done) | (simp [*]; done)), H', ⟨by have := HJ4.out; have := HK2.out; omega⟩, ⟨by (with_reducible repeat (first | apply Kd.R_alloc | apply Kd.R_drewN | apply Kd.R_drew)); exact HO_10.out⟩, ⟨by (with_reducible repeat (first | refine blk_drewN ?_ _ | refine blk_drew ?_ | refine blk_alloc ?_ _)); exact BK296.out⟩, ⟨by (with_reducible repeat (first | refine blk_drewN ?_ _ | refine blk_drew ?_ | refine blk_alloc ?_ _)); exact BK297.out⟩, ⟨bQ4 GE296.out GE297.out GE304.out GE308.out⟩⟩

end Go.Proofs.YtbokbbcoekeoaaaDoor.P
end
