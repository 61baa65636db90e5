-- PACKED by pack.py of this repo: FLogicCheck
import Derived.Test.YtbokbbcoekeoaaaDoorJ1
import Derived.Test.YtbokbbcoekeoaaaDoorJ2
import Derived.Test.YtbokbbcoekeoaaaDoorJ4
section
namespace Go.Proofs.YtbokbbcoekeoaaaDoor.P
open Go.RowKit Go.Proofs.YtbokbbcoekeoaaaDoorW.PrintWords Go.Proofs.YtbokbbcoekeoaaaDoorW.PrintLast Go.Proofs.YtbokbbcoekeoaaaDoorW.PrintMore Go.Proofs.YtbokbbcoekeoaaaDoor.G
attribute [local go_sem] max2_int min2_int max_two min_two max_three min_three max_four min_four
set_option linter.unusedVariables false
set_option linter.unusedSimpArgs false

mutual
def logic_Check.j0 : Nat → List (S72) → Int → Bool → Option (Int)
 | 0, _, _, _ => none
 | k + 1, x0, x1, x16 => if x16 = true then (some 2) else ((polish_Ends.f k x0).bind fun bt178 => (if bt178.2 = 0 then (logic_Check.l0 k x1 0 x0 (x0.length : Int) 0) else (some bt178.2)))
def logic_Check.l0 : Nat → Int → Int → List (S72) → Int → Int → Option (Int)
 | 0, _, _, _, _, _ => none
 | k + 1, x1, x7, x25, x26, x27 => if x27 < x26 then (if 0 ≤ x27 then (if x27 < (x25.length : Int) then ((logic_fits.f ((rd_T72 x25 x27).f0) ((rd_T72 x25 x27).f1) x1).bind fun t184 => (if t184 = 0 then ((logic_ahead.f ((rd_T72 x25 x27).f0)).bind fun t185 => (if t185 = true then (logic_Check.l0 k x1 (wrap64 (x7 + 1)) x25 x26 (wrap64 (x27 + 1))) else (logic_Check.l0 k x1 x7 x25 x26 (wrap64 (x27 + 1))))) else (some t184))) else (none)) else (none)) else (if x7 > 6 then (some 1) else (some 0))
end
def logic_Check.f (k : Nat) (l0 : List (S72)) (a1 : Int) : Option (Int) := if a1 < 0 then (logic_Check.j0 k l0 a1 true) else (logic_Check.j0 k l0 a1 (decide (a1 > 6)))
theorem logic_Check.mono_l : ∀ k, (∀ y0 y1 y2, LeO (logic_Check.j0 k y0 y1 y2) (logic_Check.j0 (k + 1) y0 y1 y2)) ∧ (∀ y0 y1 y2 y3 y4, LeO (logic_Check.l0 k y0 y1 y2 y3 y4) (logic_Check.l0 (k + 1) y0 y1 y2 y3 y4))
 | 0 => ⟨fun _ _ _ r h => by simp [logic_Check.j0] at h, fun _ _ _ _ _ r h => by simp [logic_Check.l0] at h⟩
 | k + 1 => by
  obtain ⟨ih0, ih1⟩ := logic_Check.mono_l k
  refine ⟨?_, ?_⟩
  ·
   intro y0 y1 y2
   unfold logic_Check.j0
   repeat' first
   | (with_reducible exact ih1 _ _ _ _ _)
   | (with_reducible exact polish_Ends.mono _ _)
   | (with_reducible exact LeO.refl _)
   | (with_reducible exact LeO.none _)
   | (with_reducible refine LeO.ite ?_ ?_)
   | (with_reducible refine LeO.bind ?_ (fun _ => ?_))
   | exact ih1 _ _ _ _ _
   | exact polish_Ends.mono _ _
   | exact LeO.none _
   | refine LeO.ite ?_ ?_
   | refine LeO.bind ?_ (fun _ => ?_)
  ·
   intro y0 y1 y2 y3 y4
   unfold logic_Check.l0
   repeat' first
   | (with_reducible exact ih1 _ _ _ _ _)
   | (with_reducible exact LeO.refl _)
   | (with_reducible exact LeO.none _)
   | (with_reducible refine LeO.ite ?_ ?_)
   | (with_reducible refine LeO.bind ?_ (fun _ => ?_))
   | exact ih1 _ _ _ _ _
   | exact LeO.none _
   | refine LeO.ite ?_ ?_
   | refine LeO.bind ?_ (fun _ => ?_)
theorem logic_Check.mono : ∀ a0 a1 k, LeO (logic_Check.f k a0 a1) (logic_Check.f (k + 1) a0 a1) := by
 intro a0 a1 k
 obtain ⟨ih0, ih1⟩ := logic_Check.mono_l k
 unfold logic_Check.f
 repeat' first
   | (with_reducible exact ih0 _ _ _)
   | (with_reducible exact LeO.refl _)
   | (with_reducible exact LeO.none _)
   | (with_reducible refine LeO.ite ?_ ?_)
   | (with_reducible refine LeO.bind ?_ (fun _ => ?_))
   | exact ih0 _ _ _
   | exact LeO.none _
   | refine LeO.ite ?_ ?_
   | refine LeO.bind ?_ (fun _ => ?_)
set_option maxHeartbeats 8000000 in
set_option maxRecDepth 100000 in
theorem logic_Check.calls (k : Nat) (A0 : Option Addr) (c0 : Nat) (l0 : List (S72)) (a1 : Int) (r : Int) (w : World) (hr0 : Kd.C k72 w A0 l0.length l0) (hc0 : l0.length ≤ c0) (hG_ : Glob w) (h : logic_Check.f k l0 a1 = some r) :
  Calls Tryd.prog 41 #[.slice A0 l0.length c0, .int .i64 a1] w fun e w' => e = .returned (.int .i64 r) ∧ Below w.heap.size w w' := by
 have hu72 := Tryd.underlying72
 have HR0 := Aside0.mk hr0
 have HC0 := Aside0.mk hc0
 clear hr0 hc0
 have HB := Aside0.mk (Below.refl w.heap.size w)
 have H : (if a1 < 0 then (logic_Check.j0 k l0 a1 true) else (logic_Check.j0 k l0 a1 (decide (a1 > 6)))) = some r := h
 clear h
 have HC3 := Aside0.mk H
 clear H
 go_enter Tryd.func41, Tryd.ntmps41
 go_upto_region 1 with (fail)
 go_cut [16] (fun v16 wc => ∃ (kq : Nat) (x16_2 : Bool), v16 = .bool x16_2 ∧ Aside0 (logic_Check.j0 kq l0 a1 x16_2 = some r) ∧ Aside0 (kq ≤ k) ∧ Aside0 (Below w.heap.size w wc))
 case first =>
  have H := HC3.out
  clear HC3
  by_cases c4 : a1 < 0
  ·
   rw [if_pos c4] at H
   have c4b0 : decide (a1 < 0) = true := decide_eq_true c4
   clear c4
   (first | rw [c4b0] | (simp only [i64_w, i32_w]; rw [c4b0]) | skip)
   have H' := Aside0.mk H
   clear H
   go_wp2
   go_meet
   case rel => exact ⟨_, (true), (by first | rfl | (simp; done) | (simp [*]; done)), H', ⟨by first | omega | exact Nat.le_refl _⟩, ⟨bQ⟩⟩
  rw [if_neg c4] at H
  have c4b0 : decide (a1 < 0) = false := decide_eq_false c4
  clear c4
  (first | rw [c4b0] | (simp only [i64_w, i32_w]; rw [c4b0]) | skip)
  have H' := Aside0.mk H
  clear H
  go_wp2
  go_meet
  case rel => exact ⟨_, (decide (a1 > 6)), (by first | rfl | (simp; done) | (simp [*]; done)), H', ⟨by first | omega | exact Nat.le_refl _⟩, ⟨bQ⟩⟩
 case rest =>
  clear HC3
  try clear p2
  try clear c4
  try clear c4b0
  obtain ⟨kq, x16_2, rfl, HA, HJ2, HB⟩ := hcut
  cases kq with
  | zero => exact absurd HA.out (by simp [logic_Check.j0])
  | succ kj2 =>
   have H := HA.out
   clear HA
   simp only [logic_Check.j0] at H
   by_cases c5 : x16_2 = true
   ·
    subst c5
    have H1 : (some 2) = some r := by rw [if_pos rfl] at H; exact H
    clear H
    have H := H1
    clear H1
    obtain rfl := Option.some.inj H
    go_wp2
    go_ret
    exact ⟨by first | rfl | (simp [errW_none, errW_some] <;> rfl) | (simp [*, errW_none, errW_some] <;> rfl), bQ⟩
   replace c5 := Bool.eq_false_iff.mpr c5
   subst c5
   have H1 : ((polish_Ends.f kj2 l0).bind fun bt178 => (if bt178.2 = 0 then (logic_Check.l0 kj2 a1 0 l0 (l0.length : Int) 0) else (some bt178.2))) = some r := by rw [if_neg (show ¬ (false = true) by decide)] at H; exact H
   clear H
   have H := H1
   clear H1
   replace H := Option.bind_eq_some_iff.mp H
   obtain ⟨⟨t178, t179⟩, A60, H⟩ := H
   replace H : (if t179 = 0 then (logic_Check.l0 kj2 a1 0 l0 (l0.length : Int) 0) else (some t179)) = some r := H
   have A6 := Aside0.mk A60
   clear A60
   by_cases c7 : t179 = 0
   rotate_left
   ·
    rw [if_neg c7] at H
    have c7b0 : (t179 == 0) = false := beq_eq_false_iff_ne.mpr c7
    have c7b1 : (t179 != 0) = true := bne_iff_ne.mpr c7
    obtain rfl := Option.some.inj H
    go_wp2_with (first | ((with_reducible refine gate_callee (f := 55) rfl ?_); refine goesL_ (some 19) rfl rfl Tryd.func55 (by kernel_rfl) rfl #[.slice A0 l0.length c0] rfl mQ ?_; (with_reducible refine (polish_Ends.calls kj2 _ _ l0 t178 t179 _ ?side1 ?side2 ?side3 A6.out).mono ?_); (case side1 => exact cQ HR0.out); (case side2 => exact HC0.out); (case side3 => first | exact hG_ | exact Glob.drewN hG_ _ | exact Glob.below hG_ (bQ)); rintro e w28 ⟨v180, rfl, ho0, hb⟩; refine ⟨_, rfl, ?_⟩; have n0_ := Aside0.mk (Kd.R_lower ho0 (below_size (bQ))); have n1_ := Aside0.mk (below_step (bQ) hb); clear HB; have HO181 := n0_; have HB := n1_; clear n0_ n1_; (try clear hb); (try clear hb2); (try clear hk); (try clear hi); (try clear ho0)))
    go_ret
    exact ⟨by first | rfl | (simp [errW_none, errW_some] <;> rfl) | (simp [*, errW_none, errW_some] <;> rfl), bQ⟩
   rw [if_pos c7] at H
   have c7b0 : (t179 == 0) = true := beq_iff_eq.mpr c7
   have c7b1 : (t179 != 0) = false := bne_eq_false_iff_eq.mpr c7
   clear c7
   have H' := Aside0.mk H
   clear H
   go_wp2_with (first | ((with_reducible refine gate_callee (f := 55) rfl ?_); refine goesL_ (some 19) rfl rfl Tryd.func55 (by kernel_rfl) rfl #[.slice A0 l0.length c0] rfl mQ ?_; (with_reducible refine (polish_Ends.calls kj2 _ _ l0 t178 t179 _ ?side1 ?side2 ?side3 A6.out).mono ?_); (case side1 => exact cQ HR0.out); (case side2 => exact HC0.out); (case side3 => first | exact hG_ | exact Glob.drewN hG_ _ | exact Glob.below hG_ (bQ)); rintro e w8 ⟨v180, rfl, ho0, hb⟩; refine ⟨_, rfl, ?_⟩; have n0_ := Aside0.mk (Kd.R_lower ho0 (below_size (bQ))); have n1_ := Aside0.mk (below_step (bQ) hb); clear HB; have HO181 := n0_; have HB := n1_; clear n0_ n1_; (try clear hb); (try clear hb2); (try clear hk); (try clear hi); (try clear ho0)))
   go_loopg [7, 27] kj2 (fun kq v7 v27 w' => ∃ (x7_2 : Int) (x27_2 : Int), v7 = .int .i64 x7_2 ∧ v27 = .int .i64 x27_2 ∧ Aside0 (logic_Check.l0 kq a1 x7_2 l0 (l0.length : Int) x27_2 = some r) ∧ Aside0 (kq ≤ kj2) ∧ Aside0 (Below w.heap.size w w'))
   case atStart => exact ⟨(0), (0), (by first | rfl | (simp; done) | (simp [*]; done)), (by first | rfl | (simp; done) | (simp [*]; done)), H', ⟨Nat.le_refl _⟩, ⟨bQ⟩⟩
   case round =>
    clear H'
    try clear p2
    try clear c4
    try clear c4b0
    try clear c5
    try clear c7
    try clear c7b0
    try clear c7b1
    try clear p2
    obtain ⟨x7_2, x27_2, rfl, rfl, HA, HK2, HB⟩ := hrel
    cases gk with
    | zero => exact absurd HA.out (by simp [logic_Check.l0])
    | succ k2 =>
     have H := HA.out
     clear HA
     simp only [logic_Check.l0] at H
     by_cases c9 : x27_2 < (l0.length : Int)
     rotate_left
     ·
      rw [if_neg c9] at H
      have c9b0 : decide (x27_2 < (l0.length : Int)) = false := decide_eq_false c9
      clear c9
      by_cases c27 : x7_2 > 6
      ·
       rw [if_pos c27] at H
       have c27b0 : decide (6 < x7_2) = true := decide_eq_true c27
       clear c27
       obtain rfl := Option.some.inj H
       go_wp2
       go_ret
       exact ⟨by first | rfl | (simp [errW_none, errW_some] <;> rfl) | (simp [*, errW_none, errW_some] <;> rfl), bQ⟩
      rw [if_neg c27] at H
      have c27b0 : decide (6 < x7_2) = false := decide_eq_false c27
      clear c27
      obtain rfl := Option.some.inj H
      go_wp2
      go_ret
      exact ⟨by first | rfl | (simp [errW_none, errW_some] <;> rfl) | (simp [*, errW_none, errW_some] <;> rfl), bQ⟩
     rw [if_pos c9] at H
     have c9b0 : decide (x27_2 < (l0.length : Int)) = true := decide_eq_true c9
     clear c9
     by_cases c10 : 0 ≤ x27_2
     rotate_left
     ·
      rw [if_neg c10] at H
      exact absurd H (by simp)
     rw [if_pos c10] at H
     have c10b0 : decide (0 ≤ x27_2) = true := decide_eq_true c10
     clear c10
     by_cases c11 : x27_2 < (l0.length : Int)
     rotate_left
     ·
      rw [if_neg c11] at H
      exact absurd H (by simp)
     rw [if_pos c11] at H
     have c11b0 : decide (x27_2 < (l0.length : Int)) = true := decide_eq_true c11
     clear c11
     replace H := Option.bind_eq_some_iff.mp H
     obtain ⟨t184, A120, H⟩ := H
     replace H : (if t184 = 0 then ((logic_ahead.f ((rd_T72 l0 x27_2).f0)).bind fun t185 => (if t185 = true then (logic_Check.l0 k2 a1 (wrap64 (x7_2 + 1)) l0 (l0.length : Int) (wrap64 (x27_2 + 1))) else (logic_Check.l0 k2 a1 x7_2 l0 (l0.length : Int) (wrap64 (x27_2 + 1))))) else (some t184)) = some r := H
     have A12 := Aside0.mk A120
     clear A120
     by_cases c13 : t184 = 0
     rotate_left
     ·
      rw [if_neg c13] at H
      have c13b0 : (t184 == 0) = false := beq_eq_false_iff_ne.mpr c13
      have c13b1 : (t184 != 0) = true := bne_iff_ne.mpr c13
      obtain rfl := Option.some.inj H
      have p182 : 0 ≤ (x27_2 : Int) := of_decide_eq_true (by first | (with_reducible assumption) | assumption)
      have q182 : x27_2 < (l0.length : Int) := of_decide_eq_true (by first | (with_reducible assumption) | assumption)
      obtain ⟨ad182, e182, hx182_0, hx182_1⟩ := at_T72 HR0.out x27_2 p182 q182
      cases e182
      replace hx182_0 := (HB.out.cell (World.block_lt_of_cell? w _ hx182_0)).trans hx182_0
      replace hx182_1 := (HB.out.cell (World.block_lt_of_cell? w _ hx182_1)).trans hx182_1
      replace p182 := eq_true p182
      replace q182 := eq_true q182
      go_wp2_with (first | ((with_reducible refine gate_dst (N := 9) rfl ?_); refine box_event ?hg (N := 9) ?hd (cs := #[.int .i64 0, .int .i64 0]) (t := 72) ?hr ?_; (case hd => rfl); (case hg => rfl); (case hr => first | (go_simp; done) | (go_simp; rfl)); intro gb183 hg w24 hbox hb; have n0_ := Aside0.mk (below_step (bQ) hb); have n1_ := Aside0.mk (hbox); have n2_ := Aside0.mk ((by rw [hg]; exact (below_size (bQ)) : w.heap.size ≤ gb183)); have n3_ := n2_; clear HB; have HB := n0_; have BK183 := n1_; have GW183 := n2_; have GE183 := n3_; clear n0_ n1_ n2_ n3_; clear hb hbox hg; have hcz25_0 : w24.cell? ⟨gb183, 0, none⟩ = some (.int .i64 0) := (blk_cell BK183.out 0).trans rfl; have hcz25_1 : w24.cell? ⟨gb183, 1, none⟩ = some (.int .i64 0) := (blk_cell BK183.out 1).trans rfl; have hfz25_0 := blk_frozen BK183.out 0; have hfz25_1 := blk_frozen BK183.out 1) | ((with_reducible refine gate_callee (f := 66) rfl ?_); refine goesL_ (some 33) rfl rfl Tryd.func66 (by kernel_rfl) rfl #[.agg #[.int .i64 ((rd_T72 l0 x27_2).f0), .int .i64 ((rd_T72 l0 x27_2).f1)], .int .i64 a1] rfl mQ ?_; (with_reducible refine (logic_fits.calls ((rd_T72 l0 x27_2).f0) ((rd_T72 l0 x27_2).f1) a1 t184 _ A12.out).mono ?_); rintro e w26 ⟨rfl, hb⟩; refine ⟨_, rfl, ?_⟩; have n0_ := Aside0.mk (blk_below (g := gb183) (o := .cells #[.int .i64 ((rd_T72 l0 x27_2).f0), .int .i64 ((rd_T72 l0 x27_2).f1)] 72 (0, 0)) (by (with_reducible repeat (first | refine blk_drewN ?_ _ | refine blk_drew ?_ | refine blk_alloc ?_ _)); refine blk_put (cs := #[.int .i64 ((rd_T72 l0 x27_2).f0), .int .i64 0]) ?_ 1 _ rfl; (with_reducible repeat (first | refine blk_drewN ?_ _ | refine blk_drew ?_ | refine blk_alloc ?_ _)); refine blk_put (cs := #[.int .i64 0, .int .i64 0]) ?_ 0 _ rfl; (with_reducible repeat (first | refine blk_drewN ?_ _ | refine blk_drew ?_ | refine blk_alloc ?_ _)); exact BK183.out) hb); have n1_ := Aside0.mk (below_step (bQ1 GE183.out) hb); clear BK183; clear HB; have BK183 := n0_; have HB := n1_; clear n0_ n1_; (try clear hb); (try clear hb2); (try clear hk); (try clear hi)))
      go_ret
      exact ⟨by first | rfl | (simp [errW_none, errW_some] <;> rfl) | (simp [*, errW_none, errW_some] <;> rfl), bQ1 GE183.out⟩
     rw [if_pos c13] at H
     have c13b0 : (t184 == 0) = true := beq_iff_eq.mpr c13
     have c13b1 : (t184 != 0) = false := bne_eq_false_iff_eq.mpr c13
     clear c13
     replace H := Option.bind_eq_some_iff.mp H
     obtain ⟨t185, A140, H⟩ := H
     replace H : (if t185 = true then (logic_Check.l0 k2 a1 (wrap64 (x7_2 + 1)) l0 (l0.length : Int) (wrap64 (x27_2 + 1))) else (logic_Check.l0 k2 a1 x7_2 l0 (l0.length : Int) (wrap64 (x27_2 + 1)))) = some r := H
     have A14 := Aside0.mk A140
     clear A140
     by_cases c15 : t185 = true
     ·
      subst c15
      have H1 : (logic_Check.l0 k2 a1 (wrap64 (x7_2 + 1)) l0 (l0.length : Int) (wrap64 (x27_2 + 1))) = some r := by rw [if_pos rfl] at H; exact H
      clear H
      have H := H1
      clear H1
      have H' := Aside0.mk H
      clear H
      have p182 : 0 ≤ (x27_2 : Int) := of_decide_eq_true (by first | (with_reducible assumption) | assumption)
      have q182 : x27_2 < (l0.length : Int) := of_decide_eq_true (by first | (with_reducible assumption) | assumption)
      obtain ⟨ad182, e182, hx182_0, hx182_1⟩ := at_T72 HR0.out x27_2 p182 q182
      cases e182
      replace hx182_0 := (HB.out.cell (World.block_lt_of_cell? w _ hx182_0)).trans hx182_0
      replace hx182_1 := (HB.out.cell (World.block_lt_of_cell? w _ hx182_1)).trans hx182_1
      replace p182 := eq_true p182
      replace q182 := eq_true q182
      go_wp2_with (first | ((with_reducible refine gate_dst (N := 9) rfl ?_); refine box_event ?hg (N := 9) ?hd (cs := #[.int .i64 0, .int .i64 0]) (t := 72) ?hr ?_; (case hd => rfl); (case hg => rfl); (case hr => first | (go_simp; done) | (go_simp; rfl)); intro gb183 hg w16 hbox hb; have n0_ := Aside0.mk (below_step (bQ) hb); have n1_ := Aside0.mk (hbox); have n2_ := Aside0.mk ((by rw [hg]; exact (below_size (bQ)) : w.heap.size ≤ gb183)); have n3_ := n2_; clear HB; have HB := n0_; have BK183 := n1_; have GW183 := n2_; have GE183 := n3_; clear n0_ n1_ n2_ n3_; clear hb hbox hg; have hcz17_0 : w16.cell? ⟨gb183, 0, none⟩ = some (.int .i64 0) := (blk_cell BK183.out 0).trans rfl; have hcz17_1 : w16.cell? ⟨gb183, 1, none⟩ = some (.int .i64 0) := (blk_cell BK183.out 1).trans rfl; have hfz17_0 := blk_frozen BK183.out 0; have hfz17_1 := blk_frozen BK183.out 1) | ((with_reducible refine gate_callee (f := 66) rfl ?_); refine goesL_ (some 33) rfl rfl Tryd.func66 (by kernel_rfl) rfl #[.agg #[.int .i64 ((rd_T72 l0 x27_2).f0), .int .i64 ((rd_T72 l0 x27_2).f1)], .int .i64 a1] rfl mQ ?_; (with_reducible refine (logic_fits.calls ((rd_T72 l0 x27_2).f0) ((rd_T72 l0 x27_2).f1) a1 t184 _ A12.out).mono ?_); rintro e w18 ⟨rfl, hb⟩; refine ⟨_, rfl, ?_⟩; have n0_ := Aside0.mk (blk_below (g := gb183) (o := .cells #[.int .i64 ((rd_T72 l0 x27_2).f0), .int .i64 ((rd_T72 l0 x27_2).f1)] 72 (0, 0)) (by (with_reducible repeat (first | refine blk_drewN ?_ _ | refine blk_drew ?_ | refine blk_alloc ?_ _)); refine blk_put (cs := #[.int .i64 ((rd_T72 l0 x27_2).f0), .int .i64 0]) ?_ 1 _ rfl; (with_reducible repeat (first | refine blk_drewN ?_ _ | refine blk_drew ?_ | refine blk_alloc ?_ _)); refine blk_put (cs := #[.int .i64 0, .int .i64 0]) ?_ 0 _ rfl; (with_reducible repeat (first | refine blk_drewN ?_ _ | refine blk_drew ?_ | refine blk_alloc ?_ _)); exact BK183.out) hb); have n1_ := Aside0.mk (below_step (bQ1 GE183.out) hb); clear BK183; clear HB; have BK183 := n0_; have HB := n1_; clear n0_ n1_; (try clear hb); (try clear hb2); (try clear hk); (try clear hi); have hcz19_0 : w18.cell? ⟨gb183, 0, none⟩ = some (.int .i64 ((rd_T72 l0 x27_2).f0)) := (blk_cell BK183.out 0).trans rfl; have hcz19_1 : w18.cell? ⟨gb183, 1, none⟩ = some (.int .i64 ((rd_T72 l0 x27_2).f1)) := (blk_cell BK183.out 1).trans rfl; have hfz19_0 := blk_frozen BK183.out 0; have hfz19_1 := blk_frozen BK183.out 1) | ((with_reducible refine gate_callee (f := 63) rfl ?_); refine goesL_ (some 39) rfl rfl Tryd.func63 (by kernel_rfl) rfl #[.int .i64 ((rd_T72 l0 x27_2).f0)] rfl mQ ?_; (with_reducible refine (logic_ahead.calls ((rd_T72 l0 x27_2).f0) true _ A14.out).mono ?_); rintro e w' ⟨rfl, ⟨nd, rfl⟩⟩; refine ⟨_, rfl, ?_⟩))
      go_roundg k2
      case measure => have := HJ2.out; have := HK2.out; omega
      case rel => exact ⟨(wrap64 (x7_2 + 1)), (wrap64 (x27_2 + 1)), (by first | rfl | (simp; done) | (simp [*]; done)), (by first | rfl | (simp; done) | (simp [*]; done)), H', ⟨by have := HJ2.out; have := HK2.out; omega⟩, ⟨bQ1 GE183.out⟩⟩
     replace c15 := Bool.eq_false_iff.mpr c15
     subst c15
     have H1 : (logic_Check.l0 k2 a1 x7_2 l0 (l0.length : Int) (wrap64 (x27_2 + 1))) = some r := by rw [if_neg (show ¬ (false = true) by decide)] at H; exact H
     clear H
     have H := H1
     clear H1
     have H' := Aside0.mk H
     clear H
     have p182 : 0 ≤ (x27_2 : Int) := of_decide_eq_true (by first | (with_reducible assumption) | assumption)
     have q182 : x27_2 < (l0.length : Int) := of_decide_eq_true (by first | (with_reducible assumption) | assumption)
     obtain ⟨ad182, e182, hx182_0, hx182_1⟩ := at_T72 HR0.out x27_2 p182 q182
     cases e182
     replace hx182_0 := (HB.out.cell (World.block_lt_of_cell? w _ hx182_0)).trans hx182_0
     replace hx182_1 := (HB.out.cell (World.block_lt_of_cell? w _ hx182_1)).trans hx182_1
     replace p182 := eq_true p182
     replace q182 := eq_true q182
     go_wp2_with (first | ((with_reducible refine gate_dst (N := 9) rfl ?_); refine box_event ?hg (N := 9) ?hd (cs := #[.int .i64 0, .int .i64 0]) (t := 72) ?hr ?_; (case hd => rfl); (case hg => rfl); (case hr => first | (go_simp; done) | (go_simp; rfl)); intro gb183 hg w20 hbox hb; have n0_ := Aside0.mk (below_step (bQ) hb); have n1_ := Aside0.mk (hbox); have n2_ := Aside0.mk ((by rw [hg]; exact (below_size (bQ)) : w.heap.size ≤ gb183)); have n3_ := n2_; clear HB; have HB := n0_; have BK183 := n1_; have GW183 := n2_; have GE183 := n3_; clear n0_ n1_ n2_ n3_; clear hb hbox hg; have hcz21_0 : w20.cell? ⟨gb183, 0, none⟩ = some (.int .i64 0) := (blk_cell BK183.out 0).trans rfl; have hcz21_1 : w20.cell? ⟨gb183, 1, none⟩ = some (.int .i64 0) := (blk_cell BK183.out 1).trans rfl; have hfz21_0 := blk_frozen BK183.out 0; have hfz21_1 := blk_frozen BK183.out 1) | ((with_reducible refine gate_callee (f := 66) rfl ?_); refine goesL_ (some 33) rfl rfl Tryd.func66 (by kernel_rfl) rfl #[.agg #[.int .i64 ((rd_T72 l0 x27_2).f0), .int .i64 ((rd_T72 l0 x27_2).f1)], .int .i64 a1] rfl mQ ?_; (with_reducible refine (logic_fits.calls ((rd_T72 l0 x27_2).f0) ((rd_T72 l0 x27_2).f1) a1 t184 _ A12.out).mono ?_); rintro e w22 ⟨rfl, hb⟩; refine ⟨_, rfl, ?_⟩; have n0_ := Aside0.mk (blk_below (g := gb183) (o := .cells #[.int .i64 ((rd_T72 l0 x27_2).f0), .int .i64 ((rd_T72 l0 x27_2).f1)] 72 (0, 0)) (by (with_reducible repeat (first | refine blk_drewN ?_ _ | refine blk_drew ?_ | refine blk_alloc ?_ _)); refine blk_put (cs := #[.int .i64 ((rd_T72 l0 x27_2).f0), .int .i64 0]) ?_ 1 _ rfl; (with_reducible repeat (first | refine blk_drewN ?_ _ | refine blk_drew ?_ | refine blk_alloc ?_ _)); refine blk_put (cs := #[.int .i64 0, .int .i64 0]) ?_ 0 _ rfl; (with_reducible repeat (first | refine blk_drewN ?_ _ | refine blk_drew ?_ | refine blk_alloc ?_ _)); exact BK183.out) hb); have n1_ := Aside0.mk (below_step (bQ1 GE183.out) hb); clear BK183; clear HB; have BK183 := n0_; have HB := n1_; clear n0_ n1_; (try clear hb); (try clear hb2); (try clear hk); (try clear hi); have hcz23_0 : w22.cell? ⟨gb183, 0, none⟩ = some (.int .i64 ((rd_T72 l0 x27_2).f0)) := (blk_cell BK183.out 0).trans rfl; have hcz23_1 : w22.cell? ⟨gb183, 1, none⟩ = some (.int .i64 ((rd_T72 l0 x27_2).f1)) := (blk_cell BK183.out 1).trans rfl; have hfz23_0 := blk_frozen BK183.out 0; have hfz23_1 := blk_frozen BK183.out 1) | ((with_reducible refine gate_callee (f := 63) rfl ?_); refine goesL_ (some 39) rfl rfl Tryd.func63 (by kernel_rfl) rfl #[.int .i64 ((rd_T72 l0 x27_2).f0)] rfl mQ ?_; (with_reducible refine (logic_ahead.calls ((rd_T72 l0 x27_2).f0) false _ A14.out).mono ?_); rintro e w' ⟨rfl, ⟨nd, rfl⟩⟩; refine ⟨_, rfl, ?_⟩))
     go_roundg k2
     case measure => have := HJ2.out; have := HK2.out; omega
     case rel => exact ⟨(x7_2), (wrap64 (x27_2 + 1)), (by first | rfl | (simp; done) | (simp [*]; done)), (by first | rfl | (simp; done) | (simp [*]; done)), H', ⟨by have := HJ2.out; have := HK2.out; omega⟩, ⟨bQ1 GE183.out⟩⟩

end Go.Proofs.YtbokbbcoekeoaaaDoor.P
end
