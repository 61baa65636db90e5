-- PACKED by pack.py of this repo: FModelCode
import Derived.Test.YtbokbbcoekeoaaaDoorJ1
import Derived.Test.YtbokbbcoekeoaaaDoorJ10
section
namespace Go.Proofs.YtbokbbcoekeoaaaDoor.P
open Go.RowKit Go.Proofs.YtbokbbcoekeoaaaDoorW.PrintWords Go.Proofs.YtbokbbcoekeoaaaDoorW.PrintLast Go.Proofs.YtbokbbcoekeoaaaDoorW.PrintMore Go.Proofs.YtbokbbcoekeoaaaDoor.G
attribute [local go_sem] max2_int min2_int max_two min_two max_three min_three max_four min_four
set_option linter.unusedVariables false
set_option linter.unusedSimpArgs false

def model_Code.l0 : Nat → List Int → Int → List (S77) → Int → Int → Option (Int × Int)
 | 0, _, _, _, _, _ => none
 | k + 1, x1, x7, x22, x23, x24 => if x24 < x23 then (if 0 ≤ x24 then (if x24 < (x22.length : Int) then (if x24 < (x1.length : Int) then (if (rd x1 x24) < ((rd_T77 x22 x24).f1) then (none) else (if (rd x1 x24) > ((rd_T77 x22 x24).f2) then (none) else (model_Code.l0 k x1 (wrap64 ((wrap64 ((wrap64 (x7 * (wrap64 ((wrap64 (((rd_T77 x22 x24).f2) - ((rd_T77 x22 x24).f1))) + 1)))) + (rd x1 x24))) - ((rd_T77 x22 x24).f1))) x22 x23 (wrap64 (x24 + 1))))) else (none)) else (none)) else (none)) else (some (x7, 0))
def model_Code.f (k : Nat) (l0_0 : List (S77)) (l0_1 : List (S118)) (l1 : List Int) : Option (Int × Int) := (model_Check.f k l0_0 l0_1).bind fun t159 => (if t159 = 0 then (if (l1.length : Int) = (l0_0.length : Int) then (model_Code.l0 k l1 0 l0_0 (l0_0.length : Int) 0) else (none)) else (none))
theorem model_Code.mono_l : ∀ k, (∀ y0 y1 y2 y3 y4, LeO (model_Code.l0 k y0 y1 y2 y3 y4) (model_Code.l0 (k + 1) y0 y1 y2 y3 y4))
 | 0 => fun _ _ _ _ _ r h => by simp [model_Code.l0] at h
 | k + 1 => by
  have ih0 := model_Code.mono_l k
  ·
   intro y0 y1 y2 y3 y4
   unfold model_Code.l0
   repeat' first
   | (with_reducible exact ih0 _ _ _ _ _)
   | (with_reducible exact LeO.refl _)
   | (with_reducible exact LeO.none _)
   | (with_reducible refine LeO.ite ?_ ?_)
   | (with_reducible refine LeO.bind ?_ (fun _ => ?_))
   | exact ih0 _ _ _ _ _
   | exact LeO.none _
   | refine LeO.ite ?_ ?_
   | refine LeO.bind ?_ (fun _ => ?_)
theorem model_Code.mono : ∀ a0 a1 a2 k, LeO (model_Code.f k a0 a1 a2) (model_Code.f (k + 1) a0 a1 a2) := by
 intro a0 a1 a2 k
 have ih0 := model_Code.mono_l k
 unfold model_Code.f
 repeat' first
   | (with_reducible exact ih0 _ _ _ _ _)
   | (with_reducible exact model_Check.mono _ _ _)
   | (with_reducible exact LeO.refl _)
   | (with_reducible exact LeO.none _)
   | (with_reducible refine LeO.ite ?_ ?_)
   | (with_reducible refine LeO.bind ?_ (fun _ => ?_))
   | exact ih0 _ _ _ _ _
   | exact model_Check.mono _ _ _
   | exact LeO.none _
   | refine LeO.ite ?_ ?_
   | refine LeO.bind ?_ (fun _ => ?_)
set_option maxHeartbeats 8000000 in
set_option maxRecDepth 100000 in
theorem model_Code.calls (k : Nat) (A0_0 : Option Addr) (c0_0 : Nat) (l0_0 : List (S77)) (A0_1 : Option Addr) (c0_1 : Nat) (l0_1 : List (S118)) (A1 : Option Addr) (c1 : Nat) (l1 : List Int) (r1 : Int) (r2 : Int) (w : World) (hr0_0 : Kd.C k77 w A0_0 l0_0.length l0_0) (hc0_0 : l0_0.length ≤ c0_0) (hr0_1 : Kd.C k118 w A0_1 l0_1.length l0_1) (hc0_1 : l0_1.length ≤ c0_1) (hr1 : Kd.C (Kd.int .i64) w A1 l1.length l1) (hc1 : l1.length ≤ c1) (hG_ : Glob w) (h : model_Code.f k l0_0 l0_1 l1 = some (r1, r2)) :
  Calls Tryd.prog 30 #[.agg #[.slice A0_0 l0_0.length c0_0, .slice A0_1 l0_1.length c0_1], .slice A1 l1.length c1] w fun e w' => e = .returned (.tuple #[.int .i64 r1, .int .i64 r2]) ∧ Below w.heap.size w w' := by
 have hu30 := Tryd.underlying30
 have hu77 := Tryd.underlying77
 have HR0_0 := Aside0.mk hr0_0
 have HC0_0 := Aside0.mk hc0_0
 clear hr0_0 hc0_0
 have HR0_1 := Aside0.mk hr0_1
 have HC0_1 := Aside0.mk hc0_1
 clear hr0_1 hc0_1
 have HR1 := Aside0.mk hr1
 have HC1 := Aside0.mk hc1
 clear hr1 hc1
 have HB := Aside0.mk (Below.refl w.heap.size w)
 have H : ((model_Check.f k l0_0 l0_1).bind fun t159 => (if t159 = 0 then (if (l1.length : Int) = (l0_0.length : Int) then (model_Code.l0 k l1 0 l0_0 (l0_0.length : Int) 0) else (none)) else (none))) = some (r1, r2) := h
 clear h
 replace H := Option.bind_eq_some_iff.mp H
 obtain ⟨t159, A30, H⟩ := H
 replace H : (if t159 = 0 then (if (l1.length : Int) = (l0_0.length : Int) then (model_Code.l0 k l1 0 l0_0 (l0_0.length : Int) 0) else (none)) else (none)) = some (r1, r2) := H
 have A3 := Aside0.mk A30
 clear A30
 by_cases c4 : t159 = 0
 rotate_left
 ·
  rw [if_neg c4] at H
  exact absurd H (by simp)
 rw [if_pos c4] at H
 have c4b0 : (t159 == 0) = true := beq_iff_eq.mpr c4
 have c4b1 : (t159 != 0) = false := bne_eq_false_iff_eq.mpr c4
 clear c4
 by_cases c5 : (l1.length : Int) = (l0_0.length : Int)
 rotate_left
 ·
  rw [if_neg c5] at H
  exact absurd H (by simp)
 rw [if_pos c5] at H
 have c5b0 : ((l1.length : Int) == (l0_0.length : Int)) = true := beq_iff_eq.mpr c5
 have c5b1 : ((l1.length : Int) != (l0_0.length : Int)) = false := bne_eq_false_iff_eq.mpr c5
 have c5b2 : (l1.length == l0_0.length) = true := by first | simpa using c5 | (simp at c5 ⊢; omega)
 clear c5
 have H' := Aside0.mk H
 clear H
 go_enter Tryd.func30, Tryd.ntmps30
 go_wp2_with (first | ((with_reducible refine gate_dst (N := 2) rfl ?_); refine box_event ?hg (N := 2) ?hd (cs := #[.slice A0_0 l0_0.length c0_0, .slice A0_1 l0_1.length c0_1]) (t := 30) ?hr ?_; (case hd => rfl); (case hg => rfl); (case hr => first | (go_simp; done) | (go_simp; rfl)); intro gb158 hg w6 hbox hb; have n0_ := Aside0.mk (below_step (bQ) hb); have n1_ := Aside0.mk (hbox); have n2_ := Aside0.mk ((by rw [hg]; exact (below_size (bQ)) : w.heap.size ≤ gb158)); have n3_ := n2_; clear HB; have HB := n0_; have BK158 := n1_; have GW158 := n2_; have GE158 := n3_; clear n0_ n1_ n2_ n3_; clear hb hbox hg; have hcz7_0 : w6.cell? ⟨gb158, 0, none⟩ = some (.slice A0_0 l0_0.length c0_0) := (blk_cell BK158.out 0).trans rfl; have hcz7_1 : w6.cell? ⟨gb158, 1, none⟩ = some (.slice A0_1 l0_1.length c0_1) := (blk_cell BK158.out 1).trans rfl; have hfz7_0 := blk_frozen BK158.out 0; have hfz7_1 := blk_frozen BK158.out 1) | (go_at_call 31; (with_reducible refine (model_Check.calls k _ _ l0_0 _ _ l0_1 t159 _ ?side1 ?side2 ?side3 ?side4 ?side5 A3.out).mono ?_); (case side1 => exact cQ HR0_0.out); (case side2 => exact HC0_0.out); (case side3 => exact cQ HR0_1.out); (case side4 => exact HC0_1.out); (case side5 => first | exact hG_ | exact Glob.drewN hG_ _ | exact Glob.below hG_ (bQ1 GE158.out)); rintro e w8 ⟨rfl, hb⟩; have n0_ := Aside0.mk (blk_below (kQ BK158.out) hb); have n1_ := Aside0.mk (below_step (bQ1 GE158.out) hb); clear BK158; clear HB; have BK158 := n0_; have HB := n1_; clear n0_ n1_; (try clear hb); (try clear hb2); (try clear hk); (try clear hi); have hcz9_0 : w8.cell? ⟨gb158, 0, none⟩ = some (.slice A0_0 l0_0.length c0_0) := (blk_cell BK158.out 0).trans rfl; have hcz9_1 : w8.cell? ⟨gb158, 1, none⟩ = some (.slice A0_1 l0_1.length c0_1) := (blk_cell BK158.out 1).trans rfl; have hfz9_0 := blk_frozen BK158.out 0; have hfz9_1 := blk_frozen BK158.out 1))
 repeat (go_quiet (first | ((with_reducible refine gate_dst (N := 2) rfl ?_); refine box_event ?hg (N := 2) ?hd (cs := #[.slice A0_0 l0_0.length c0_0, .slice A0_1 l0_1.length c0_1]) (t := 30) ?hr ?_; (case hd => rfl); (case hg => rfl); (case hr => first | (go_simp; done) | (go_simp; rfl)); intro gb158 hg w6 hbox hb; have n0_ := Aside0.mk (below_step (bQ) hb); have n1_ := Aside0.mk (hbox); have n2_ := Aside0.mk ((by rw [hg]; exact (below_size (bQ)) : w.heap.size ≤ gb158)); have n3_ := n2_; clear HB; have HB := n0_; have BK158 := n1_; have GW158 := n2_; have GE158 := n3_; clear n0_ n1_ n2_ n3_; clear hb hbox hg; have hcz7_0 : w6.cell? ⟨gb158, 0, none⟩ = some (.slice A0_0 l0_0.length c0_0) := (blk_cell BK158.out 0).trans rfl; have hcz7_1 : w6.cell? ⟨gb158, 1, none⟩ = some (.slice A0_1 l0_1.length c0_1) := (blk_cell BK158.out 1).trans rfl; have hfz7_0 := blk_frozen BK158.out 0; have hfz7_1 := blk_frozen BK158.out 1) | (go_at_call 31; (with_reducible refine (model_Check.calls k _ _ l0_0 _ _ l0_1 t159 _ ?side1 ?side2 ?side3 ?side4 ?side5 A3.out).mono ?_); (case side1 => exact cQ HR0_0.out); (case side2 => exact HC0_0.out); (case side3 => exact cQ HR0_1.out); (case side4 => exact HC0_1.out); (case side5 => first | exact hG_ | exact Glob.drewN hG_ _ | exact Glob.below hG_ (bQ1 GE158.out)); rintro e w8 ⟨rfl, hb⟩; have n0_ := Aside0.mk (blk_below (kQ BK158.out) hb); have n1_ := Aside0.mk (below_step (bQ1 GE158.out) hb); clear BK158; clear HB; have BK158 := n0_; have HB := n1_; clear n0_ n1_; (try clear hb); (try clear hb2); (try clear hk); (try clear hi); have hcz9_0 : w8.cell? ⟨gb158, 0, none⟩ = some (.slice A0_0 l0_0.length c0_0) := (blk_cell BK158.out 0).trans rfl; have hcz9_1 : w8.cell? ⟨gb158, 1, none⟩ = some (.slice A0_1 l0_1.length c0_1) := (blk_cell BK158.out 1).trans rfl; have hfz9_0 := blk_frozen BK158.out 0; have hfz9_1 := blk_frozen BK158.out 1)); try go_wp2_with (first | ((with_reducible refine gate_dst (N := 2) rfl ?_); refine box_event ?hg (N := 2) ?hd (cs := #[.slice A0_0 l0_0.length c0_0, .slice A0_1 l0_1.length c0_1]) (t := 30) ?hr ?_; (case hd => rfl); (case hg => rfl); (case hr => first | (go_simp; done) | (go_simp; rfl)); intro gb158 hg w6 hbox hb; have n0_ := Aside0.mk (below_step (bQ) hb); have n1_ := Aside0.mk (hbox); have n2_ := Aside0.mk ((by rw [hg]; exact (below_size (bQ)) : w.heap.size ≤ gb158)); have n3_ := n2_; clear HB; have HB := n0_; have BK158 := n1_; have GW158 := n2_; have GE158 := n3_; clear n0_ n1_ n2_ n3_; clear hb hbox hg; have hcz7_0 : w6.cell? ⟨gb158, 0, none⟩ = some (.slice A0_0 l0_0.length c0_0) := (blk_cell BK158.out 0).trans rfl; have hcz7_1 : w6.cell? ⟨gb158, 1, none⟩ = some (.slice A0_1 l0_1.length c0_1) := (blk_cell BK158.out 1).trans rfl; have hfz7_0 := blk_frozen BK158.out 0; have hfz7_1 := blk_frozen BK158.out 1) | (go_at_call 31; (with_reducible refine (model_Check.calls k _ _ l0_0 _ _ l0_1 t159 _ ?side1 ?side2 ?side3 ?side4 ?side5 A3.out).mono ?_); (case side1 => exact cQ HR0_0.out); (case side2 => exact HC0_0.out); (case side3 => exact cQ HR0_1.out); (case side4 => exact HC0_1.out); (case side5 => first | exact hG_ | exact Glob.drewN hG_ _ | exact Glob.below hG_ (bQ1 GE158.out)); rintro e w8 ⟨rfl, hb⟩; have n0_ := Aside0.mk (blk_below (kQ BK158.out) hb); have n1_ := Aside0.mk (below_step (bQ1 GE158.out) hb); clear BK158; clear HB; have BK158 := n0_; have HB := n1_; clear n0_ n1_; (try clear hb); (try clear hb2); (try clear hk); (try clear hi); have hcz9_0 : w8.cell? ⟨gb158, 0, none⟩ = some (.slice A0_0 l0_0.length c0_0) := (blk_cell BK158.out 0).trans rfl; have hcz9_1 : w8.cell? ⟨gb158, 1, none⟩ = some (.slice A0_1 l0_1.length c0_1) := (blk_cell BK158.out 1).trans rfl; have hfz9_0 := blk_frozen BK158.out 0; have hfz9_1 := blk_frozen BK158.out 1)))
 go_loopg [7, 24] k (fun kq v7 v24 w' => ∃ (x7_1 : Int) (x24_1 : Int), v7 = .int .i64 x7_1 ∧ v24 = .int .i64 x24_1 ∧ Aside0 (model_Code.l0 kq l1 x7_1 l0_0 (l0_0.length : Int) x24_1 = some (r1, r2)) ∧ Aside0 (kq ≤ k) ∧ Aside0 (w'.heap[gb158]? = some (.cells #[(.slice A0_0 l0_0.length c0_0), (.slice A0_1 l0_1.length c0_1)] 30 (0, 0))) ∧ Aside0 (Below w.heap.size w w'))
 case atStart => exact ⟨(0), (0), (by first | rfl | (simp; done) | (simp [*]; done)), (by first | rfl | (simp; done) | (simp [*]; done)), H', ⟨Nat.le_refl _⟩, ⟨by (with_reducible repeat (first | refine blk_drewN ?_ _ | refine blk_drew ?_ | refine blk_alloc ?_ _)); exact BK158.out⟩, ⟨bQ1 GE158.out⟩⟩
 case round =>
  clear H'
  try clear c1
  try clear p2
  try clear c3
  try clear c4
  try clear c4b0
  try clear c4b1
  try clear c5
  try clear c5b0
  try clear c5b1
  try clear c5b2
  try clear hcz7_0
  try clear hcz7_1
  try clear hcz9_0
  try clear hcz9_1
  try clear hfz7_0
  try clear hfz7_1
  try clear hfz9_0
  try clear hfz9_1
  obtain ⟨x7_1, x24_1, rfl, rfl, HA, HK1, BK158, HB⟩ := hrel
  cases gk with
  | zero => exact absurd HA.out (by simp [model_Code.l0])
  | succ k1 =>
   have H := HA.out
   clear HA
   simp only [model_Code.l0] at H
   by_cases c10 : x24_1 < (l0_0.length : Int)
   rotate_left
   ·
    rw [if_neg c10] at H
    have c10b0 : decide (x24_1 < (l0_0.length : Int)) = false := decide_eq_false c10
    clear c10
    simp only [Option.some.injEq, Prod.mk.injEq] at H
    obtain ⟨rfl, rfl⟩ := H
    go_wp2
    repeat (go_quiet (fail); try go_wp2)
    go_ret2
    exact ⟨by first | rfl | (simp [errW_none, errW_some] <;> rfl) | (simp [*, errW_none, errW_some] <;> rfl), bQ1 GE158.out⟩
   rw [if_pos c10] at H
   have c10b0 : decide (x24_1 < (l0_0.length : Int)) = true := decide_eq_true c10
   clear c10
   by_cases c11 : 0 ≤ x24_1
   rotate_left
   ·
    rw [if_neg c11] at H
    exact absurd H (by simp)
   rw [if_pos c11] at H
   have c11b0 : decide (0 ≤ x24_1) = true := decide_eq_true c11
   clear c11
   by_cases c12 : x24_1 < (l0_0.length : Int)
   rotate_left
   ·
    rw [if_neg c12] at H
    exact absurd H (by simp)
   rw [if_pos c12] at H
   have c12b0 : decide (x24_1 < (l0_0.length : Int)) = true := decide_eq_true c12
   clear c12
   by_cases c13 : x24_1 < (l1.length : Int)
   rotate_left
   ·
    rw [if_neg c13] at H
    exact absurd H (by simp)
   rw [if_pos c13] at H
   have c13b0 : decide (x24_1 < (l1.length : Int)) = true := decide_eq_true c13
   clear c13
   by_cases c14 : (rd l1 x24_1) < ((rd_T77 l0_0 x24_1).f1)
   ·
    rw [if_pos c14] at H
    exact absurd H (by simp)
   rw [if_neg c14] at H
   have c14b0 : decide ((rd l1 x24_1) < ((rd_T77 l0_0 x24_1).f1)) = false := decide_eq_false c14
   clear c14
   by_cases c18 : (rd l1 x24_1) > ((rd_T77 l0_0 x24_1).f2)
   ·
    rw [if_pos c18] at H
    exact absurd H (by simp)
   rw [if_neg c18] at H
   have c18b0 : decide (((rd_T77 l0_0 x24_1).f2) < (rd l1 x24_1)) = false := decide_eq_false c18
   clear c18
   have H' := Aside0.mk H
   clear H
   have p160 : 0 ≤ (x24_1 : Int) := of_decide_eq_true (by first | (with_reducible assumption) | assumption)
   have q160 : x24_1 < (l0_0.length : Int) := of_decide_eq_true (by first | (with_reducible assumption) | assumption)
   obtain ⟨ad160, e160, hx160_0, hx160_1, hx160_2, hx160_3⟩ := at_T77 HR0_0.out x24_1 p160 q160
   cases e160
   replace hx160_0 := (HB.out.cell (World.block_lt_of_cell? w _ hx160_0)).trans hx160_0
   replace hx160_1 := (HB.out.cell (World.block_lt_of_cell? w _ hx160_1)).trans hx160_1
   replace hx160_2 := (HB.out.cell (World.block_lt_of_cell? w _ hx160_2)).trans hx160_2
   replace hx160_3 := (HB.out.cell (World.block_lt_of_cell? w _ hx160_3)).trans hx160_3
   replace p160 := eq_true p160
   replace q160 := eq_true q160
   go_wp2_with (first | ((with_reducible refine gate_dst (N := 9) rfl ?_); refine box_event ?hg (N := 9) ?hd (cs := #[.string (⟨#[]⟩ : ByteArray), .int .i64 0, .int .i64 0, .int .i64 0]) (t := 77) ?hr ?_; (case hd => rfl); (case hg => rfl); (case hr => first | (go_simp; done) | (go_simp; rfl)); intro gb161 hg w22 hbox hb; have n0_ := Aside0.mk (blk_below (kQ BK158.out) hb); have n1_ := Aside0.mk (below_step (bQ1 GE158.out) hb); have n2_ := Aside0.mk (hbox); have n3_ := Aside0.mk ((by rw [hg]; exact (below_size (bQ1 GE158.out)) : w.heap.size ≤ gb161)); have n4_ := n3_; have n5_ := Aside0.mk ((by rw [hg]; exact Nat.ne_of_lt (blk_lt (kQ BK158.out)) : gb158 ≠ gb161)); have n6_ := Aside0.mk ((by rw [hg]; exact Nat.ne_of_gt (blk_lt (kQ BK158.out)) : gb161 ≠ gb158)); clear BK158; clear HB; have BK158 := n0_; have HB := n1_; have BK161 := n2_; have GW161 := n3_; have GE161 := n4_; have NB158_161 := n5_; have NB161_158 := n6_; clear n0_ n1_ n2_ n3_ n4_ n5_ n6_; clear hb hbox hg; have hnb23 := NB161_158.out; have hnc23 := NB158_161.out; have hcz24_0 : w22.cell? ⟨gb161, 0, none⟩ = some (.string (⟨#[]⟩ : ByteArray)) := (blk_cell BK161.out 0).trans rfl; have hcz24_1 : w22.cell? ⟨gb161, 1, none⟩ = some (.int .i64 0) := (blk_cell BK161.out 1).trans rfl; have hcz24_2 : w22.cell? ⟨gb161, 2, none⟩ = some (.int .i64 0) := (blk_cell BK161.out 2).trans rfl; have hcz24_3 : w22.cell? ⟨gb161, 3, none⟩ = some (.int .i64 0) := (blk_cell BK161.out 3).trans rfl; have hfz24_0 := blk_frozen BK161.out 0; have hfz24_1 := blk_frozen BK161.out 1; have hfz24_2 := blk_frozen BK161.out 2; have hfz24_3 := blk_frozen BK161.out 3; have p162 : 0 ≤ (x24_1 : Int) := of_decide_eq_true (by first | (with_reducible assumption) | assumption); have q162 : x24_1 < (l1.length : Int) := of_decide_eq_true (by first | (with_reducible assumption) | assumption); obtain ⟨ad162, e162, hx162_0⟩ := Kd.at_int HR1.out x24_1 p162 q162; cases e162; have hn162_0 : ad162.block ≠ gb161 := neQ hx162_0 GW161.out; have hn162_1 : ad162.block ≠ gb161 := neQ hx162_0 GW161.out; have hn162_2 : ad162.block ≠ gb161 := neQ hx162_0 GW161.out; have hn162_3 : ad162.block ≠ gb161 := neQ hx162_0 GW161.out; replace hx162_0 := (HB.out.cell (World.block_lt_of_cell? w _ hx162_0)).trans hx162_0; replace hx162_0 := (cell_far (p := ⟨gb161, 0, none⟩) (fQ hn162_0) (.string ((rd_T77 l0_0 x24_1).f0))).trans hx162_0; replace hx162_0 := (cell_far (p := ⟨gb161, 1, none⟩) (fQ hn162_1) (.int .i64 ((rd_T77 l0_0 x24_1).f1))).trans hx162_0; replace hx162_0 := (cell_far (p := ⟨gb161, 2, none⟩) (fQ hn162_2) (.int .i64 ((rd_T77 l0_0 x24_1).f2))).trans hx162_0; replace hx162_0 := (cell_far (p := ⟨gb161, 3, none⟩) (fQ hn162_3) (.int .i64 ((rd_T77 l0_0 x24_1).f3))).trans hx162_0; (try have hy162_0 := fun (n_ : Nat) => (show ((((((w22.drewN n_).setCell ⟨gb161, 0, none⟩ (.string ((rd_T77 l0_0 x24_1).f0))).setCell ⟨gb161, 1, none⟩ (.int .i64 ((rd_T77 l0_0 x24_1).f1))).setCell ⟨gb161, 2, none⟩ (.int .i64 ((rd_T77 l0_0 x24_1).f2))).setCell ⟨gb161, 3, none⟩ (.int .i64 ((rd_T77 l0_0 x24_1).f3)))).cell? _ = some _ from hx162_0)); clear hn162_0; clear hn162_1; clear hn162_2; clear hn162_3; replace p162 := eq_true p162; replace q162 := eq_true q162; have p163 : 0 ≤ (x24_1 : Int) := of_decide_eq_true (by first | (with_reducible assumption) | assumption); have q163 : x24_1 < (l1.length : Int) := of_decide_eq_true (by first | (with_reducible assumption) | assumption); obtain ⟨ad163, e163, hx163_0⟩ := Kd.at_int HR1.out x24_1 p163 q163; obtain rfl : ad162 = ad163 := (by injection e163); have hn163_0 : ad162.block ≠ gb161 := neQ hx163_0 GW161.out; have hn163_1 : ad162.block ≠ gb161 := neQ hx163_0 GW161.out; have hn163_2 : ad162.block ≠ gb161 := neQ hx163_0 GW161.out; have hn163_3 : ad162.block ≠ gb161 := neQ hx163_0 GW161.out; replace hx163_0 := (HB.out.cell (World.block_lt_of_cell? w _ hx163_0)).trans hx163_0; replace hx163_0 := (cell_far (p := ⟨gb161, 0, none⟩) (fQ hn163_0) (.string ((rd_T77 l0_0 x24_1).f0))).trans hx163_0; replace hx163_0 := (cell_far (p := ⟨gb161, 1, none⟩) (fQ hn163_1) (.int .i64 ((rd_T77 l0_0 x24_1).f1))).trans hx163_0; replace hx163_0 := (cell_far (p := ⟨gb161, 2, none⟩) (fQ hn163_2) (.int .i64 ((rd_T77 l0_0 x24_1).f2))).trans hx163_0; replace hx163_0 := (cell_far (p := ⟨gb161, 3, none⟩) (fQ hn163_3) (.int .i64 ((rd_T77 l0_0 x24_1).f3))).trans hx163_0; (try have hy163_0 := fun (n_ : Nat) => (show ((((((w22.drewN n_).setCell ⟨gb161, 0, none⟩ (.string ((rd_T77 l0_0 x24_1).f0))).setCell ⟨gb161, 1, none⟩ (.int .i64 ((rd_T77 l0_0 x24_1).f1))).setCell ⟨gb161, 2, none⟩ (.int .i64 ((rd_T77 l0_0 x24_1).f2))).setCell ⟨gb161, 3, none⟩ (.int .i64 ((rd_T77 l0_0 x24_1).f3)))).cell? _ = some _ from hx163_0)); clear hn163_0; clear hn163_1; clear hn163_2; clear hn163_3; replace p163 := eq_true p163; replace q163 := eq_true q163; have p164 : 0 ≤ (x24_1 : Int) := of_decide_eq_true (by first | (with_reducible assumption) | assumption); have q164 : x24_1 < (l1.length : Int) := of_decide_eq_true (by first | (with_reducible assumption) | assumption); obtain ⟨ad164, e164, hx164_0⟩ := Kd.at_int HR1.out x24_1 p164 q164; obtain rfl : ad162 = ad164 := (by injection e164); have hn164_0 : ad162.block ≠ gb161 := neQ hx164_0 GW161.out; have hn164_1 : ad162.block ≠ gb161 := neQ hx164_0 GW161.out; have hn164_2 : ad162.block ≠ gb161 := neQ hx164_0 GW161.out; have hn164_3 : ad162.block ≠ gb161 := neQ hx164_0 GW161.out; replace hx164_0 := (HB.out.cell (World.block_lt_of_cell? w _ hx164_0)).trans hx164_0; replace hx164_0 := (cell_far (p := ⟨gb161, 0, none⟩) (fQ hn164_0) (.string ((rd_T77 l0_0 x24_1).f0))).trans hx164_0; replace hx164_0 := (cell_far (p := ⟨gb161, 1, none⟩) (fQ hn164_1) (.int .i64 ((rd_T77 l0_0 x24_1).f1))).trans hx164_0; replace hx164_0 := (cell_far (p := ⟨gb161, 2, none⟩) (fQ hn164_2) (.int .i64 ((rd_T77 l0_0 x24_1).f2))).trans hx164_0; replace hx164_0 := (cell_far (p := ⟨gb161, 3, none⟩) (fQ hn164_3) (.int .i64 ((rd_T77 l0_0 x24_1).f3))).trans hx164_0; (try have hy164_0 := fun (n_ : Nat) => (show ((((((w22.drewN n_).setCell ⟨gb161, 0, none⟩ (.string ((rd_T77 l0_0 x24_1).f0))).setCell ⟨gb161, 1, none⟩ (.int .i64 ((rd_T77 l0_0 x24_1).f1))).setCell ⟨gb161, 2, none⟩ (.int .i64 ((rd_T77 l0_0 x24_1).f2))).setCell ⟨gb161, 3, none⟩ (.int .i64 ((rd_T77 l0_0 x24_1).f3)))).cell? _ = some _ from hx164_0)); clear hn164_0; clear hn164_1; clear hn164_2; clear hn164_3; replace p164 := eq_true p164; replace q164 := eq_true q164))
   repeat (go_quiet (first | ((with_reducible refine gate_dst (N := 9) rfl ?_); refine box_event ?hg (N := 9) ?hd (cs := #[.string (⟨#[]⟩ : ByteArray), .int .i64 0, .int .i64 0, .int .i64 0]) (t := 77) ?hr ?_; (case hd => rfl); (case hg => rfl); (case hr => first | (go_simp; done) | (go_simp; rfl)); intro gb161 hg w22 hbox hb; have n0_ := Aside0.mk (blk_below (kQ BK158.out) hb); have n1_ := Aside0.mk (below_step (bQ1 GE158.out) hb); have n2_ := Aside0.mk (hbox); have n3_ := Aside0.mk ((by rw [hg]; exact (below_size (bQ1 GE158.out)) : w.heap.size ≤ gb161)); have n4_ := n3_; have n5_ := Aside0.mk ((by rw [hg]; exact Nat.ne_of_lt (blk_lt (kQ BK158.out)) : gb158 ≠ gb161)); have n6_ := Aside0.mk ((by rw [hg]; exact Nat.ne_of_gt (blk_lt (kQ BK158.out)) : gb161 ≠ gb158)); clear BK158; clear HB; have BK158 := n0_; have HB := n1_; have BK161 := n2_; have GW161 := n3_; have GE161 := n4_; have NB158_161 := n5_; have NB161_158 := n6_; clear n0_ n1_ n2_ n3_ n4_ n5_ n6_; clear hb hbox hg; have hnb23 := NB161_158.out; have hnc23 := NB158_161.out; have hcz24_0 : w22.cell? ⟨gb161, 0, none⟩ = some (.string (⟨#[]⟩ : ByteArray)) := (blk_cell BK161.out 0).trans rfl; have hcz24_1 : w22.cell? ⟨gb161, 1, none⟩ = some (.int .i64 0) := (blk_cell BK161.out 1).trans rfl; have hcz24_2 : w22.cell? ⟨gb161, 2, none⟩ = some (.int .i64 0) := (blk_cell BK161.out 2).trans rfl; have hcz24_3 : w22.cell? ⟨gb161, 3, none⟩ = some (.int .i64 0) := (blk_cell BK161.out 3).trans rfl; have hfz24_0 := blk_frozen BK161.out 0; have hfz24_1 := blk_frozen BK161.out 1; have hfz24_2 := blk_frozen BK161.out 2; have hfz24_3 := blk_frozen BK161.out 3; have p162 : 0 ≤ (x24_1 : Int) := of_decide_eq_true (by first | (with_reducible assumption) | assumption); have q162 : x24_1 < (l1.length : Int) := of_decide_eq_true (by first | (with_reducible assumption) | assumption); obtain ⟨ad162, e162, hx162_0⟩ := Kd.at_int HR1.out x24_1 p162 q162; cases e162; have hn162_0 : ad162.block ≠ gb161 := neQ hx162_0 GW161.out; have hn162_1 : ad162.block ≠ gb161 := neQ hx162_0 GW161.out; have hn162_2 : ad162.block ≠ gb161 := neQ hx162_0 GW161.out; have hn162_3 : ad162.block ≠ gb161 := neQ hx162_0 GW161.out; replace hx162_0 := (HB.out.cell (World.block_lt_of_cell? w _ hx162_0)).trans hx162_0; replace hx162_0 := (cell_far (p := ⟨gb161, 0, none⟩) (fQ hn162_0) (.string ((rd_T77 l0_0 x24_1).f0))).trans hx162_0; replace hx162_0 := (cell_far (p := ⟨gb161, 1, none⟩) (fQ hn162_1) (.int .i64 ((rd_T77 l0_0 x24_1).f1))).trans hx162_0; replace hx162_0 := (cell_far (p := ⟨gb161, 2, none⟩) (fQ hn162_2) (.int .i64 ((rd_T77 l0_0 x24_1).f2))).trans hx162_0; replace hx162_0 := (cell_far (p := ⟨gb161, 3, none⟩) (fQ hn162_3) (.int .i64 ((rd_T77 l0_0 x24_1).f3))).trans hx162_0; (try have hy162_0 := fun (n_ : Nat) => (show ((((((w22.drewN n_).setCell ⟨gb161, 0, none⟩ (.string ((rd_T77 l0_0 x24_1).f0))).setCell ⟨gb161, 1, none⟩ (.int .i64 ((rd_T77 l0_0 x24_1).f1))).setCell ⟨gb161, 2, none⟩ (.int .i64 ((rd_T77 l0_0 x24_1).f2))).setCell ⟨gb161, 3, none⟩ (.int .i64 ((rd_T77 l0_0 x24_1).f3)))).cell? _ = some _ from hx162_0)); clear hn162_0; clear hn162_1; clear hn162_2; clear hn162_3; replace p162 := eq_true p162; replace q162 := eq_true q162; have p163 : 0 ≤ (x24_1 : Int) := of_decide_eq_true (by first | (with_reducible assumption) | assumption); have q163 : x24_1 < (l1.length : Int) := of_decide_eq_true (by first | (with_reducible assumption) | assumption); obtain ⟨ad163, e163, hx163_0⟩ := Kd.at_int HR1.out x24_1 p163 q163; obtain rfl : ad162 = ad163 := (by injection e163); have hn163_0 : ad162.block ≠ gb161 := neQ hx163_0 GW161.out; have hn163_1 : ad162.block ≠ gb161 := neQ hx163_0 GW161.out; have hn163_2 : ad162.block ≠ gb161 := neQ hx163_0 GW161.out; have hn163_3 : ad162.block ≠ gb161 := neQ hx163_0 GW161.out; replace hx163_0 := (HB.out.cell (World.block_lt_of_cell? w _ hx163_0)).trans hx163_0; replace hx163_0 := (cell_far (p := ⟨gb161, 0, none⟩) (fQ hn163_0) (.string ((rd_T77 l0_0 x24_1).f0))).trans hx163_0; replace hx163_0 := (cell_far (p := ⟨gb161, 1, none⟩) (fQ hn163_1) (.int .i64 ((rd_T77 l0_0 x24_1).f1))).trans hx163_0; replace hx163_0 := (cell_far (p := ⟨gb161, 2, none⟩) (fQ hn163_2) (.int .i64 ((rd_T77 l0_0 x24_1).f2))).trans hx163_0; replace hx163_0 := (cell_far (p := ⟨gb161, 3, none⟩) (fQ hn163_3) (.int .i64 ((rd_T77 l0_0 x24_1).f3))).trans hx163_0; (try have hy163_0 := fun (n_ : Nat) => (show ((((((w22.drewN n_).setCell ⟨gb161, 0, none⟩ (.string ((rd_T77 l0_0 x24_1).f0))).setCell ⟨gb161, 1, none⟩ (.int .i64 ((rd_T77 l0_0 x24_1).f1))).setCell ⟨gb161, 2, none⟩ (.int .i64 ((rd_T77 l0_0 x24_1).f2))).setCell ⟨gb161, 3, none⟩ (.int .i64 ((rd_T77 l0_0 x24_1).f3)))).cell? _ = some _ from hx163_0)); clear hn163_0; clear hn163_1; clear hn163_2; clear hn163_3; replace p163 := eq_true p163; replace q163 := eq_true q163; have p164 : 0 ≤ (x24_1 : Int) := of_decide_eq_true (by first | (with_reducible assumption) | assumption); have q164 : x24_1 < (l1.length : Int) := of_decide_eq_true (by first | (with_reducible assumption) | assumption); obtain ⟨ad164, e164, hx164_0⟩ := Kd.at_int HR1.out x24_1 p164 q164; obtain rfl : ad162 = ad164 := (by injection e164); have hn164_0 : ad162.block ≠ gb161 := neQ hx164_0 GW161.out; have hn164_1 : ad162.block ≠ gb161 := neQ hx164_0 GW161.out; have hn164_2 : ad162.block ≠ gb161 := neQ hx164_0 GW161.out; have hn164_3 : ad162.block ≠ gb161 := neQ hx164_0 GW161.out; replace hx164_0 := (HB.out.cell (World.block_lt_of_cell? w _ hx164_0)).trans hx164_0; replace hx164_0 := (cell_far (p := ⟨gb161, 0, none⟩) (fQ hn164_0) (.string ((rd_T77 l0_0 x24_1).f0))).trans hx164_0; replace hx164_0 := (cell_far (p := ⟨gb161, 1, none⟩) (fQ hn164_1) (.int .i64 ((rd_T77 l0_0 x24_1).f1))).trans hx164_0; replace hx164_0 := (cell_far (p := ⟨gb161, 2, none⟩) (fQ hn164_2) (.int .i64 ((rd_T77 l0_0 x24_1).f2))).trans hx164_0; replace hx164_0 := (cell_far (p := ⟨gb161, 3, none⟩) (fQ hn164_3) (.int .i64 ((rd_T77 l0_0 x24_1).f3))).trans hx164_0; (try have hy164_0 := fun (n_ : Nat) => (show ((((((w22.drewN n_).setCell ⟨gb161, 0, none⟩ (.string ((rd_T77 l0_0 x24_1).f0))).setCell ⟨gb161, 1, none⟩ (.int .i64 ((rd_T77 l0_0 x24_1).f1))).setCell ⟨gb161, 2, none⟩ (.int .i64 ((rd_T77 l0_0 x24_1).f2))).setCell ⟨gb161, 3, none⟩ (.int .i64 ((rd_T77 l0_0 x24_1).f3)))).cell? _ = some _ from hx164_0)); clear hn164_0; clear hn164_1; clear hn164_2; clear hn164_3; replace p164 := eq_true p164; replace q164 := eq_true q164)); try go_wp2_with (first | ((with_reducible refine gate_dst (N := 9) rfl ?_); refine box_event ?hg (N := 9) ?hd (cs := #[.string (⟨#[]⟩ : ByteArray), .int .i64 0, .int .i64 0, .int .i64 0]) (t := 77) ?hr ?_; (case hd => rfl); (case hg => rfl); (case hr => first | (go_simp; done) | (go_simp; rfl)); intro gb161 hg w22 hbox hb; have n0_ := Aside0.mk (blk_below (kQ BK158.out) hb); have n1_ := Aside0.mk (below_step (bQ1 GE158.out) hb); have n2_ := Aside0.mk (hbox); have n3_ := Aside0.mk ((by rw [hg]; exact (below_size (bQ1 GE158.out)) : w.heap.size ≤ gb161)); have n4_ := n3_; have n5_ := Aside0.mk ((by rw [hg]; exact Nat.ne_of_lt (blk_lt (kQ BK158.out)) : gb158 ≠ gb161)); have n6_ := Aside0.mk ((by rw [hg]; exact Nat.ne_of_gt (blk_lt (kQ BK158.out)) : gb161 ≠ gb158)); clear BK158; clear HB; have BK158 := n0_; have HB := n1_; have BK161 := n2_; have GW161 := n3_; have GE161 := n4_; have NB158_161 := n5_; have NB161_158 := n6_; clear n0_ n1_ n2_ n3_ n4_ n5_ n6_; clear hb hbox hg; have hnb23 := NB161_158.out; have hnc23 := NB158_161.out; have hcz24_0 : w22.cell? ⟨gb161, 0, none⟩ = some (.string (⟨#[]⟩ : ByteArray)) := (blk_cell BK161.out 0).trans rfl; have hcz24_1 : w22.cell? ⟨gb161, 1, none⟩ = some (.int .i64 0) := (blk_cell BK161.out 1).trans rfl; have hcz24_2 : w22.cell? ⟨gb161, 2, none⟩ = some (.int .i64 0) := (blk_cell BK161.out 2).trans rfl; have hcz24_3 : w22.cell? ⟨gb161, 3, none⟩ = some (.int .i64 0) := (blk_cell BK161.out 3).trans rfl; have hfz24_0 := blk_frozen BK161.out 0; have hfz24_1 := blk_frozen BK161.out 1; have hfz24_2 := blk_frozen BK161.out 2; have hfz24_3 := blk_frozen BK161.out 3; have p162 : 0 ≤ (x24_1 : Int) := of_decide_eq_true (by first | (with_reducible assumption) | assumption); have q162 : x24_1 < (l1.length : Int) := of_decide_eq_true (by first | (with_reducible assumption) | assumption); obtain ⟨ad162, e162, hx162_0⟩ := Kd.at_int HR1.out x24_1 p162 q162; cases e162; have hn162_0 : ad162.block ≠ gb161 := neQ hx162_0 GW161.out; have hn162_1 : ad162.block ≠ gb161 := neQ hx162_0 GW161.out; have hn162_2 : ad162.block ≠ gb161 := neQ hx162_0 GW161.out; have hn162_3 : ad162.block ≠ gb161 := neQ hx162_0 GW161.out; replace hx162_0 := (HB.out.cell (World.block_lt_of_cell? w _ hx162_0)).trans hx162_0; replace hx162_0 := (cell_far (p := ⟨gb161, 0, none⟩) (fQ hn162_0) (.string ((rd_T77 l0_0 x24_1).f0))).trans hx162_0; replace hx162_0 := (cell_far (p := ⟨gb161, 1, none⟩) (fQ hn162_1) (.int .i64 ((rd_T77 l0_0 x24_1).f1))).trans hx162_0; replace hx162_0 := (cell_far (p := ⟨gb161, 2, none⟩) (fQ hn162_2) (.int .i64 ((rd_T77 l0_0 x24_1).f2))).trans hx162_0; replace hx162_0 := (cell_far (p := ⟨gb161, 3, none⟩) (fQ hn162_3) (.int .i64 ((rd_T77 l0_0 x24_1).f3))).trans hx162_0; (try have hy162_0 := fun (n_ : Nat) => (show ((((((w22.drewN n_).setCell ⟨gb161, 0, none⟩ (.string ((rd_T77 l0_0 x24_1).f0))).setCell ⟨gb161, 1, none⟩ (.int .i64 ((rd_T77 l0_0 x24_1).f1))).setCell ⟨gb161, 2, none⟩ (.int .i64 ((rd_T77 l0_0 x24_1).f2))).setCell ⟨gb161, 3, none⟩ (.int .i64 ((rd_T77 l0_0 x24_1).f3)))).cell? _ = some _ from hx162_0)); clear hn162_0; clear hn162_1; clear hn162_2; clear hn162_3; replace p162 := eq_true p162; replace q162 := eq_true q162; have p163 : 0 ≤ (x24_1 : Int) := of_decide_eq_true (by first | (with_reducible assumption) | assumption); have q163 : x24_1 < (l1.length : Int) := of_decide_eq_true (by first | (with_reducible assumption) | assumption); obtain ⟨ad163, e163, hx163_0⟩ := Kd.at_int HR1.out x24_1 p163 q163; obtain rfl : ad162 = ad163 := (by injection e163); have hn163_0 : ad162.block ≠ gb161 := neQ hx163_0 GW161.out; have hn163_1 : ad162.block ≠ gb161 := neQ hx163_0 GW161.out; have hn163_2 : ad162.block ≠ gb161 := neQ hx163_0 GW161.out; have hn163_3 : ad162.block ≠ gb161 := neQ hx163_0 GW161.out; replace hx163_0 := (HB.out.cell (World.block_lt_of_cell? w _ hx163_0)).trans hx163_0; replace hx163_0 := (cell_far (p := ⟨gb161, 0, none⟩) (fQ hn163_0) (.string ((rd_T77 l0_0 x24_1).f0))).trans hx163_0; replace hx163_0 := (cell_far (p := ⟨gb161, 1, none⟩) (fQ hn163_1) (.int .i64 ((rd_T77 l0_0 x24_1).f1))).trans hx163_0; replace hx163_0 := (cell_far (p := ⟨gb161, 2, none⟩) (fQ hn163_2) (.int .i64 ((rd_T77 l0_0 x24_1).f2))).trans hx163_0; replace hx163_0 := (cell_far (p := ⟨gb161, 3, none⟩) (fQ hn163_3) (.int .i64 ((rd_T77 l0_0 x24_1).f3))).trans hx163_0; (try have hy163_0 := fun (n_ : Nat) => (show ((((((w22.drewN n_).setCell ⟨gb161, 0, none⟩ (.string ((rd_T77 l0_0 x24_1).f0))).setCell ⟨gb161, 1, none⟩ (.int .i64 ((rd_T77 l0_0 x24_1).f1))).setCell ⟨gb161, 2, none⟩ (.int .i64 ((rd_T77 l0_0 x24_1).f2))).setCell ⟨gb161, 3, none⟩ (.int .i64 ((rd_T77 l0_0 x24_1).f3)))).cell? _ = some _ from hx163_0)); clear hn163_0; clear hn163_1; clear hn163_2; clear hn163_3; replace p163 := eq_true p163; replace q163 := eq_true q163; have p164 : 0 ≤ (x24_1 : Int) := of_decide_eq_true (by first | (with_reducible assumption) | assumption); have q164 : x24_1 < (l1.length : Int) := of_decide_eq_true (by first | (with_reducible assumption) | assumption); obtain ⟨ad164, e164, hx164_0⟩ := Kd.at_int HR1.out x24_1 p164 q164; obtain rfl : ad162 = ad164 := (by injection e164); have hn164_0 : ad162.block ≠ gb161 := neQ hx164_0 GW161.out; have hn164_1 : ad162.block ≠ gb161 := neQ hx164_0 GW161.out; have hn164_2 : ad162.block ≠ gb161 := neQ hx164_0 GW161.out; have hn164_3 : ad162.block ≠ gb161 := neQ hx164_0 GW161.out; replace hx164_0 := (HB.out.cell (World.block_lt_of_cell? w _ hx164_0)).trans hx164_0; replace hx164_0 := (cell_far (p := ⟨gb161, 0, none⟩) (fQ hn164_0) (.string ((rd_T77 l0_0 x24_1).f0))).trans hx164_0; replace hx164_0 := (cell_far (p := ⟨gb161, 1, none⟩) (fQ hn164_1) (.int .i64 ((rd_T77 l0_0 x24_1).f1))).trans hx164_0; replace hx164_0 := (cell_far (p := ⟨gb161, 2, none⟩) (fQ hn164_2) (.int .i64 ((rd_T77 l0_0 x24_1).f2))).trans hx164_0; replace hx164_0 := (cell_far (p := ⟨gb161, 3, none⟩) (fQ hn164_3) (.int .i64 ((rd_T77 l0_0 x24_1).f3))).trans hx164_0; (try have hy164_0 := fun (n_ : Nat) => (show ((((((w22.drewN n_).setCell ⟨gb161, 0, none⟩ (.string ((rd_T77 l0_0 x24_1).f0))).setCell ⟨gb161, 1, none⟩ (.int .i64 ((rd_T77 l0_0 x24_1).f1))).setCell ⟨gb161, 2, none⟩ (.int .i64 ((rd_T77 l0_0 x24_1).f2))).setCell ⟨gb161, 3, none⟩ (.int .i64 ((rd_T77 l0_0 x24_1).f3)))).cell? _ = some _ from hx164_0)); clear hn164_0; clear hn164_1; clear hn164_2; clear hn164_3; replace p164 := eq_true p164; replace q164 := eq_true q164)))
   go_roundg k1
   case measure => have := HK1.out; omega
   case rel => exact ⟨(wrap64 ((wrap64 ((wrap64 (x7_1 * (wrap64 ((wrap64 (((rd_T77 l0_0 x24_1).f2) - ((rd_T77 l0_0 x24_1).f1))) + 1)))) + (rd l1 x24_1))) - ((rd_T77 l0_0 x24_1).f1))), (wrap64 (x24_1 + 1)), (by first | rfl | (simp; done) | (simp [*]; done)), (by first | rfl | (simp; done) | (simp [*]; done)), H', ⟨by have := HK1.out; omega⟩, ⟨by (with_reducible repeat (first | refine blk_drewN ?_ _ | refine blk_drew ?_ | refine blk_alloc ?_ _)); refine blk_far ?_ NB158_161.out _; (with_reducible repeat (first | refine blk_drewN ?_ _ | refine blk_drew ?_ | refine blk_alloc ?_ _)); refine blk_far ?_ NB158_161.out _; (with_reducible repeat (first | refine blk_drewN ?_ _ | refine blk_drew ?_ | refine blk_alloc ?_ _)); refine blk_far ?_ NB158_161.out _; (with_reducible repeat (first | refine blk_drewN ?_ _ | refine blk_drew ?_ | refine blk_alloc ?_ _)); refine blk_far ?_ NB158_161.out _; (with_reducible repeat (first | refine blk_drewN ?_ _ | refine blk_drew ?_ | refine blk_alloc ?_ _)); exact BK158.out⟩, ⟨bQ2 GE158.out GE161.out⟩⟩
end Go.Proofs.YtbokbbcoekeoaaaDoor.P
end
