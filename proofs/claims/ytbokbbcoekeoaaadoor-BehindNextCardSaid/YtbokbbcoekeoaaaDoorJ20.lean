-- PACKED by pack.py of this repo: FProductCheck FLogicAhead FProductClaims QCheck
import Derived.Test.YtbokbbcoekeoaaaDoorJ1
import Derived.Test.YtbokbbcoekeoaaaDoorJ11
import Derived.Test.YtbokbbcoekeoaaaDoorJ19
import Derived.Test.YtbokbbcoekeoaaaDoorJ2
import Derived.Test.YtbokbbcoekeoaaaDoorJ7
import Derived.Test.YtbokbbcoekeoaaaDoorJ4
section
namespace Go.Proofs.YtbokbbcoekeoaaaDoor.P
open Go.RowKit Go.Proofs.YtbokbbcoekeoaaaDoorW.PrintWords Go.Proofs.YtbokbbcoekeoaaaDoorW.PrintLast Go.Proofs.YtbokbbcoekeoaaaDoorW.PrintMore Go.Proofs.YtbokbbcoekeoaaaDoor.G
attribute [local go_sem] max2_int min2_int max_two min_two max_three min_three max_four min_four
set_option linter.unusedVariables false
set_option linter.unusedSimpArgs false

def product_Check.f (k : Nat) (l0_0 : List (S77)) (l0_1 : List (S118)) (l0_2 : List (List (S72))) (l0_3 : List (S72)) : Option (Int) := (model_Props.f k l0_0 l0_1 l0_2).bind fun t187 => (if t187 = 0 then ((logic_Check.f k l0_3 (l0_2.length : Int)).bind fun t188 => (some t188)) else (none))
theorem product_Check.mono : ∀ a0 a1 a2 a3 k, LeO (product_Check.f k a0 a1 a2 a3) (product_Check.f (k + 1) a0 a1 a2 a3) := by
 intro a0 a1 a2 a3 k
 unfold product_Check.f
 repeat' first
   | (with_reducible exact logic_Check.mono _ _ _)
   | (with_reducible exact model_Props.mono _ _ _ _)
   | (with_reducible exact LeO.refl _)
   | (with_reducible exact LeO.none _)
   | (with_reducible refine LeO.ite ?_ ?_)
   | (with_reducible refine LeO.bind ?_ (fun _ => ?_))
   | exact logic_Check.mono _ _ _
   | exact model_Props.mono _ _ _ _
   | exact LeO.none _
   | refine LeO.ite ?_ ?_
   | refine LeO.bind ?_ (fun _ => ?_)
set_option maxHeartbeats 8000000 in
set_option maxRecDepth 100000 in
theorem product_Check.calls (k : Nat) (A0_0 : Option Addr) (c0_0 : Nat) (l0_0 : List (S77)) (A0_1 : Option Addr) (c0_1 : Nat) (l0_1 : List (S118)) (A0_2 : Option Addr) (c0_2 : Nat) (l0_2 : List (List (S72))) (A0_3 : Option Addr) (c0_3 : Nat) (l0_3 : List (S72)) (r : Int) (w : World) (hr0_0 : Kd.C k77 w A0_0 l0_0.length l0_0) (hc0_0 : l0_0.length ≤ c0_0) (hr0_1 : Kd.C k118 w A0_1 l0_1.length l0_1) (hc0_1 : l0_1.length ≤ c0_1) (hr0_2 : Kd.C (Kd.slice 72 k72) w A0_2 l0_2.length l0_2) (hc0_2 : l0_2.length ≤ c0_2) (hr0_3 : Kd.C k72 w A0_3 l0_3.length l0_3) (hc0_3 : l0_3.length ≤ c0_3) (hG_ : Glob w) (h : product_Check.f k l0_0 l0_1 l0_2 l0_3 = some r) :
  Calls Tryd.prog 21 #[.agg #[.slice A0_0 l0_0.length c0_0, .slice A0_1 l0_1.length c0_1, .slice A0_2 l0_2.length c0_2, .slice A0_3 l0_3.length c0_3]] w fun e w' => e = .returned (.int .i64 r) ∧ Below w.heap.size w w' := by
 have hu34 := Tryd.underlying34
 have hu30 := Tryd.underlying30
 have HR0_0 := Aside0.mk hr0_0
 have HC0_0 := Aside0.mk hc0_0
 clear hr0_0 hc0_0
 have HR0_1 := Aside0.mk hr0_1
 have HC0_1 := Aside0.mk hc0_1
 clear hr0_1 hc0_1
 have HR0_2 := Aside0.mk hr0_2
 have HC0_2 := Aside0.mk hc0_2
 clear hr0_2 hc0_2
 have HR0_3 := Aside0.mk hr0_3
 have HC0_3 := Aside0.mk hc0_3
 clear hr0_3 hc0_3
 have HB := Aside0.mk (Below.refl w.heap.size w)
 have H : ((model_Props.f k l0_0 l0_1 l0_2).bind fun t187 => (if t187 = 0 then ((logic_Check.f k l0_3 (l0_2.length : Int)).bind fun t188 => (some t188)) else (none))) = some r := h
 clear h
 replace H := Option.bind_eq_some_iff.mp H
 obtain ⟨t187, A20, H⟩ := H
 replace H : (if t187 = 0 then ((logic_Check.f k l0_3 (l0_2.length : Int)).bind fun t188 => (some t188)) else (none)) = some r := H
 have A2 := Aside0.mk A20
 clear A20
 by_cases c3 : t187 = 0
 rotate_left
 ·
  rw [if_neg c3] at H
  exact absurd H (by simp)
 rw [if_pos c3] at H
 have c3b0 : (t187 == 0) = true := beq_iff_eq.mpr c3
 have c3b1 : (t187 != 0) = false := bne_eq_false_iff_eq.mpr c3
 clear c3
 replace H := Option.bind_eq_some_iff.mp H
 obtain ⟨t188, A40, H⟩ := H
 replace H : (some t188) = some r := H
 have A4 := Aside0.mk A40
 clear A40
 obtain rfl := Option.some.inj H
 go_enter Tryd.func21, Tryd.ntmps21
 go_wp2_with (first | ((with_reducible refine gate_dst (N := 1) rfl ?_); refine box_event ?hg (N := 1) ?hd (cs := #[.slice A0_0 l0_0.length c0_0, .slice A0_1 l0_1.length c0_1, .slice A0_2 l0_2.length c0_2, .slice A0_3 l0_3.length c0_3]) (t := 34) ?hr ?_; (case hd => rfl); (case hg => rfl); (case hr => first | (go_simp; done) | (go_simp; rfl)); intro gb186 hg w5 hbox hb; have n0_ := Aside0.mk (below_step (bQ) hb); have n1_ := Aside0.mk (hbox); have n2_ := Aside0.mk ((by rw [hg]; exact (below_size (bQ)) : w.heap.size ≤ gb186)); have n3_ := n2_; clear HB; have HB := n0_; have BK186 := n1_; have GW186 := n2_; have GE186 := n3_; clear n0_ n1_ n2_ n3_; clear hb hbox hg; have hcz6_0 : w5.cell? ⟨gb186, 0, none⟩ = some (.slice A0_0 l0_0.length c0_0) := (blk_cell BK186.out 0).trans rfl; have hcz6_1 : w5.cell? ⟨gb186, 1, none⟩ = some (.slice A0_1 l0_1.length c0_1) := (blk_cell BK186.out 1).trans rfl; have hcz6_2 : w5.cell? ⟨gb186, 2, none⟩ = some (.slice A0_2 l0_2.length c0_2) := (blk_cell BK186.out 2).trans rfl; have hcz6_3 : w5.cell? ⟨gb186, 3, none⟩ = some (.slice A0_3 l0_3.length c0_3) := (blk_cell BK186.out 3).trans rfl; have hfz6_0 := blk_frozen BK186.out 0; have hfz6_1 := blk_frozen BK186.out 1; have hfz6_2 := blk_frozen BK186.out 2; have hfz6_3 := blk_frozen BK186.out 3) | ((with_reducible refine gate_callee (f := 40) rfl ?_); refine goesL_ (some 8) rfl rfl Tryd.func40 (by kernel_rfl) rfl #[.agg #[.slice A0_0 l0_0.length c0_0, .slice A0_1 l0_1.length c0_1], .slice A0_2 l0_2.length c0_2] rfl mQ ?_; (with_reducible refine (model_Props.calls k _ _ l0_0 _ _ l0_1 _ _ l0_2 t187 _ ?side1 ?side2 ?side3 ?side4 ?side5 ?side6 ?side7 A2.out).mono ?_); (case side1 => exact cQ HR0_0.out); (case side2 => exact HC0_0.out); (case side3 => exact cQ HR0_1.out); (case side4 => exact HC0_1.out); (case side5 => exact cQ HR0_2.out); (case side6 => exact HC0_2.out); (case side7 => first | exact hG_ | exact Glob.drewN hG_ _ | exact Glob.below hG_ (bQ1 GE186.out)); rintro e w7 ⟨rfl, hb⟩; refine ⟨_, rfl, ?_⟩; have n0_ := Aside0.mk (blk_below (kQ BK186.out) hb); have n1_ := Aside0.mk (below_step (bQ1 GE186.out) hb); clear BK186; clear HB; have BK186 := n0_; have HB := n1_; clear n0_ n1_; (try clear hb); (try clear hb2); (try clear hk); (try clear hi); have hcz8_0 : w7.cell? ⟨gb186, 0, none⟩ = some (.slice A0_0 l0_0.length c0_0) := (blk_cell BK186.out 0).trans rfl; have hcz8_1 : w7.cell? ⟨gb186, 1, none⟩ = some (.slice A0_1 l0_1.length c0_1) := (blk_cell BK186.out 1).trans rfl; have hcz8_2 : w7.cell? ⟨gb186, 2, none⟩ = some (.slice A0_2 l0_2.length c0_2) := (blk_cell BK186.out 2).trans rfl; have hcz8_3 : w7.cell? ⟨gb186, 3, none⟩ = some (.slice A0_3 l0_3.length c0_3) := (blk_cell BK186.out 3).trans rfl; have hfz8_0 := blk_frozen BK186.out 0; have hfz8_1 := blk_frozen BK186.out 1; have hfz8_2 := blk_frozen BK186.out 2; have hfz8_3 := blk_frozen BK186.out 3) | ((with_reducible refine gate_callee (f := 41) rfl ?_); refine goesL_ (some 17) rfl rfl Tryd.func41 (by kernel_rfl) rfl #[.slice A0_3 l0_3.length c0_3, .int .i64 (l0_2.length : Int)] rfl mQ ?_; (with_reducible refine (logic_Check.calls k _ _ l0_3 (l0_2.length : Int) t188 _ ?side1 ?side2 ?side3 A4.out).mono ?_); (case side1 => exact cQ HR0_3.out); (case side2 => exact HC0_3.out); (case side3 => first | exact hG_ | exact Glob.drewN hG_ _ | exact Glob.below hG_ (bQ1 GE186.out)); rintro e w9 ⟨rfl, hb⟩; refine ⟨_, rfl, ?_⟩; have n0_ := Aside0.mk (blk_below (kQ BK186.out) hb); have n1_ := Aside0.mk (below_step (bQ1 GE186.out) hb); clear BK186; clear HB; have BK186 := n0_; have HB := n1_; clear n0_ n1_; (try clear hb); (try clear hb2); (try clear hk); (try clear hi)))
 go_ret
 exact ⟨by first | rfl | (simp [errW_none, errW_some] <;> rfl) | (simp [*, errW_none, errW_some] <;> rfl), bQ1 GE186.out⟩
def logic_Ahead.l0 : Nat → List Int → List (S72) → Int → Int → Option (List Int × Int)
 | 0, _, _, _, _ => none
 | k + 1, x7, x16, x17, x18 => if x18 < x17 then (if 0 ≤ x18 then (if x18 < (x16.length : Int) then ((logic_ahead.f ((rd_T72 x16 x18).f0)).bind fun t221 => (if t221 = true then (if x7.length < 17592186044416 then (logic_Ahead.l0 k (x7 ++ [x18]) x16 x17 (wrap64 (x18 + 1))) else (none)) else (logic_Ahead.l0 k x7 x16 x17 (wrap64 (x18 + 1))))) else (none)) else (none)) else (some (x7, 0))
def logic_Ahead.f (k : Nat) (l0 : List (S72)) (a1 : Int) : Option (List Int × Int) := (logic_Check.f k l0 a1).bind fun t218 => (if t218 = 0 then (logic_Ahead.l0 k ([] : List Int) l0 (l0.length : Int) 0) else (none))
theorem logic_Ahead.mono_l : ∀ k, (∀ y0 y1 y2 y3, LeO (logic_Ahead.l0 k y0 y1 y2 y3) (logic_Ahead.l0 (k + 1) y0 y1 y2 y3))
 | 0 => fun _ _ _ _ r h => by simp [logic_Ahead.l0] at h
 | k + 1 => by
  have ih0 := logic_Ahead.mono_l k
  ·
   intro y0 y1 y2 y3
   unfold logic_Ahead.l0
   repeat' first
   | (with_reducible exact ih0 _ _ _ _)
   | (with_reducible exact LeO.refl _)
   | (with_reducible exact LeO.none _)
   | (with_reducible refine LeO.ite ?_ ?_)
   | (with_reducible refine LeO.bind ?_ (fun _ => ?_))
   | exact ih0 _ _ _ _
   | exact LeO.none _
   | refine LeO.ite ?_ ?_
   | refine LeO.bind ?_ (fun _ => ?_)
theorem logic_Ahead.mono : ∀ a0 a1 k, LeO (logic_Ahead.f k a0 a1) (logic_Ahead.f (k + 1) a0 a1) := by
 intro a0 a1 k
 have ih0 := logic_Ahead.mono_l k
 unfold logic_Ahead.f
 repeat' first
   | (with_reducible exact ih0 _ _ _ _)
   | (with_reducible exact logic_Check.mono _ _ _)
   | (with_reducible exact LeO.refl _)
   | (with_reducible exact LeO.none _)
   | (with_reducible refine LeO.ite ?_ ?_)
   | (with_reducible refine LeO.bind ?_ (fun _ => ?_))
   | exact ih0 _ _ _ _
   | exact logic_Check.mono _ _ _
   | exact LeO.none _
   | refine LeO.ite ?_ ?_
   | refine LeO.bind ?_ (fun _ => ?_)
set_option maxHeartbeats 8000000 in
set_option maxRecDepth 100000 in
theorem logic_Ahead.calls (k : Nat) (A0 : Option Addr) (c0 : Nat) (l0 : List (S72)) (a1 : Int) (r1 : List Int) (r2 : Int) (w : World) (hr0 : Kd.C k72 w A0 l0.length l0) (hc0 : l0.length ≤ c0) (hG_ : Glob w) (h : logic_Ahead.f k l0 a1 = some (r1, r2)) :
  Calls Tryd.prog 36 #[.slice A0 l0.length c0, .int .i64 a1] w fun e w' => ∃ v0_ : Value, e = .returned (.tuple #[v0_, .int .i64 r2]) ∧ Kd.R (Kd.int .i64) 3 w' w.heap.size (fun _ => True) v0_ r1 ∧ Below w.heap.size w w' := by
 have hu72 := Tryd.underlying72
 have HR0 := Aside0.mk hr0
 have HC0 := Aside0.mk hc0
 clear hr0 hc0
 have HB := Aside0.mk (Below.refl w.heap.size w)
 have H : ((logic_Check.f k l0 a1).bind fun t218 => (if t218 = 0 then (logic_Ahead.l0 k ([] : List Int) l0 (l0.length : Int) 0) else (none))) = some (r1, r2) := h
 clear h
 replace H := Option.bind_eq_some_iff.mp H
 obtain ⟨t218, A30, H⟩ := H
 replace H : (if t218 = 0 then (logic_Ahead.l0 k ([] : List Int) l0 (l0.length : Int) 0) else (none)) = some (r1, r2) := H
 have A3 := Aside0.mk A30
 clear A30
 by_cases c4 : t218 = 0
 rotate_left
 ·
  rw [if_neg c4] at H
  exact absurd H (by simp)
 rw [if_pos c4] at H
 have c4b0 : (t218 == 0) = true := beq_iff_eq.mpr c4
 have c4b1 : (t218 != 0) = false := bne_eq_false_iff_eq.mpr c4
 clear c4
 have H' := Aside0.mk H
 clear H
 go_enter Tryd.func36, Tryd.ntmps36
 go_wp2_with (first | ((with_reducible refine gate_callee (f := 41) rfl ?_); refine goesL_ (some 12) rfl rfl Tryd.func41 (by kernel_rfl) rfl #[.slice A0 l0.length c0, .int .i64 a1] rfl mQ ?_; (with_reducible refine (logic_Check.calls k _ _ l0 a1 t218 _ ?side1 ?side2 ?side3 A3.out).mono ?_); (case side1 => repeat (first | exact HR0.out | (with_reducible refine Kd.C_alloc ?_ _) | (with_reducible refine Kd.C_drewN ?_ _) | (with_reducible refine Kd.C_drew ?_))); (case side2 => exact HC0.out); (case side3 => first | exact hG_ | exact Glob.drewN hG_ _ | exact Glob.below hG_ (bQ)); rintro e w5 ⟨rfl, hb⟩; refine ⟨_, rfl, ?_⟩; have n0_ := Aside0.mk (below_step (bQ) hb); clear HB; have HB := n0_; clear n0_; (try clear hb); (try clear hb2); (try clear hk); (try clear hi)))
 go_loopg [7, 18] k (fun kq v7 v18 w' => ∃ (x7_1 : List Int) (x18_1 : Int), v18 = .int .i64 x18_1 ∧ Aside0 (logic_Ahead.l0 kq x7_1 l0 (l0.length : Int) x18_1 = some (r1, r2)) ∧ Aside0 (kq ≤ k) ∧ Aside0 (Kd.R (Kd.int .i64) 3 w' w.heap.size (fun _ => True) v7 x7_1) ∧ Aside0 (Below w.heap.size w w'))
 case atStart => exact ⟨(([] : List Int)), (0), (by first | rfl | (simp; done) | (simp [*]; done)), H', ⟨Nat.le_refl _⟩, ⟨by first | exact Kd.R_nil _ _ _ _ _ | exact Kd.N_nil _ _ _ _ _ | exact Kd.V_nil _ _ _ _ _ | exact Kd.Q_nil _ _ _ _ _ | exact Kd.S_nil _ _ _ _ _⟩, ⟨bQ⟩⟩
 case round =>
  clear H'
  try clear p2
  try clear c3
  try clear c4
  try clear c4b0
  try clear c4b1
  obtain ⟨x7_1, x18_1, rfl, HA, HK1, HO_7, HB⟩ := hrel
  cases gk with
  | zero => exact absurd HA.out (by simp [logic_Ahead.l0])
  | succ k1 =>
   have H := HA.out
   clear HA
   simp only [logic_Ahead.l0] at H
   by_cases c6 : x18_1 < (l0.length : Int)
   rotate_left
   ·
    rw [if_neg c6] at H
    have c6b0 : decide (x18_1 < (l0.length : Int)) = false := decide_eq_false c6
    clear c6
    simp only [Option.some.injEq, Prod.mk.injEq] at H
    obtain ⟨rfl, rfl⟩ := H
    go_wp2
    go_ret2
    exact ⟨_, by first | rfl | (simp [errW_none, errW_some] <;> rfl) | (simp [*, errW_none, errW_some] <;> rfl), by (with_reducible repeat (first | apply Kd.R_alloc | apply Kd.R_drewN | apply Kd.R_drew)); exact HO_7.out, bQ⟩
   rw [if_pos c6] at H
   have c6b0 : decide (x18_1 < (l0.length : Int)) = true := decide_eq_true c6
   clear c6
   by_cases c7 : 0 ≤ x18_1
   rotate_left
   ·
    rw [if_neg c7] at H
    exact absurd H (by simp)
   rw [if_pos c7] at H
   have c7b0 : decide (0 ≤ x18_1) = true := decide_eq_true c7
   clear c7
   by_cases c8 : x18_1 < (l0.length : Int)
   rotate_left
   ·
    rw [if_neg c8] at H
    exact absurd H (by simp)
   rw [if_pos c8] at H
   have c8b0 : decide (x18_1 < (l0.length : Int)) = true := decide_eq_true c8
   clear c8
   replace H := Option.bind_eq_some_iff.mp H
   obtain ⟨t221, A90, H⟩ := H
   replace H : (if t221 = true then (if x7_1.length < 17592186044416 then (logic_Ahead.l0 k1 (x7_1 ++ [x18_1]) l0 (l0.length : Int) (wrap64 (x18_1 + 1))) else (none)) else (logic_Ahead.l0 k1 x7_1 l0 (l0.length : Int) (wrap64 (x18_1 + 1)))) = some (r1, r2) := H
   have A9 := Aside0.mk A90
   clear A90
   by_cases c10 : t221 = true
   rotate_left
   ·
    replace c10 := Bool.eq_false_iff.mpr c10
    subst c10
    have H1 : (logic_Ahead.l0 k1 x7_1 l0 (l0.length : Int) (wrap64 (x18_1 + 1))) = some (r1, r2) := by rw [if_neg (show ¬ (false = true) by decide)] at H; exact H
    clear H
    have H := H1
    clear H1
    have H' := Aside0.mk H
    clear H
    have p219 : 0 ≤ (x18_1 : Int) := of_decide_eq_true (by first | (with_reducible assumption) | assumption)
    have q219 : x18_1 < (l0.length : Int) := of_decide_eq_true (by first | (with_reducible assumption) | assumption)
    obtain ⟨ad219, e219, hx219_0, hx219_1⟩ := at_T72 HR0.out x18_1 p219 q219
    cases e219
    replace hx219_0 := (HB.out.cell (World.block_lt_of_cell? w _ hx219_0)).trans hx219_0
    replace hx219_1 := (HB.out.cell (World.block_lt_of_cell? w _ hx219_1)).trans hx219_1
    replace p219 := eq_true p219
    replace q219 := eq_true q219
    go_wp2_with (first | ((with_reducible refine gate_dst (N := 9) rfl ?_); refine box_event ?hg (N := 9) ?hd (cs := #[.int .i64 0, .int .i64 0]) (t := 72) ?hr ?_; (case hd => rfl); (case hg => rfl); (case hr => first | (go_simp; done) | (go_simp; rfl)); intro gb220 hg w15 hbox hb; have n0_ := Aside0.mk (Kd.R_below (rQR HO_7.out) hb); have n1_ := Aside0.mk (below_step (bQ) hb); have n2_ := Aside0.mk (hbox); have n3_ := Aside0.mk ((by rw [hg]; exact (below_size (bQ)) : w.heap.size ≤ gb220)); have n4_ := n3_; clear HO_7; clear HB; have HO_7 := n0_; have HB := n1_; have BK220 := n2_; have GW220 := n3_; have GE220 := n4_; clear n0_ n1_ n2_ n3_ n4_; clear hb hbox hg; have hcz16_0 : w15.cell? ⟨gb220, 0, none⟩ = some (.int .i64 0) := (blk_cell BK220.out 0).trans rfl; have hcz16_1 : w15.cell? ⟨gb220, 1, none⟩ = some (.int .i64 0) := (blk_cell BK220.out 1).trans rfl; have hfz16_0 := blk_frozen BK220.out 0; have hfz16_1 := blk_frozen BK220.out 1) | ((with_reducible refine gate_callee (f := 63) rfl ?_); refine goesL_ (some 25) rfl rfl Tryd.func63 (by kernel_rfl) rfl #[.int .i64 ((rd_T72 l0 x18_1).f0)] rfl mQ ?_; (with_reducible refine (logic_ahead.calls ((rd_T72 l0 x18_1).f0) false _ A9.out).mono ?_); rintro e w' ⟨rfl, ⟨nd, rfl⟩⟩; refine ⟨_, rfl, ?_⟩))
    go_roundg k1
    case measure => have := HK1.out; omega
    case rel => exact ⟨(x7_1), (wrap64 (x18_1 + 1)), (by first | rfl | (simp; done) | (simp [*]; done)), H', ⟨by have := HK1.out; omega⟩, ⟨by (with_reducible repeat (first | apply Kd.R_alloc | apply Kd.R_drewN | apply Kd.R_drew)); exact Kd.R_mono (Kd.R_far (p := ⟨gb220, 1, none⟩) (Kd.R_far (p := ⟨gb220, 0, none⟩) (Kd.R_types HO_7.out BK220.out (by decide)) (fun _ hk => hk.2) (.int .i64 ((rd_T72 l0 x18_1).f0))) (fun _ hk => hk.2) (.int .i64 ((rd_T72 l0 x18_1).f1))) (fun _ hk => trivial)⟩, ⟨bQ1 GE220.out⟩⟩
   subst c10
   have H1 : (if x7_1.length < 17592186044416 then (logic_Ahead.l0 k1 (x7_1 ++ [x18_1]) l0 (l0.length : Int) (wrap64 (x18_1 + 1))) else (none)) = some (r1, r2) := by rw [if_pos rfl] at H; exact H
   clear H
   have H := H1
   clear H1
   by_cases c11 : x7_1.length < 17592186044416
   rotate_left
   ·
    rw [if_neg c11] at H
    exact absurd H (by simp)
   rw [if_pos c11] at H
   have LMc11 := Aside0.mk c11
   clear c11
   obtain ⟨y222, hy222⟩ : ∃ y_ : List Int, y_ = (x7_1 ++ [x18_1]) := ⟨_, rfl⟩
   replace H : (logic_Ahead.l0 k1 y222 l0 (l0.length : Int) (wrap64 (x18_1 + 1))) = some (r1, r2) := by first | (rw [hy222]; with_reducible exact H) | (have H2_ := (Option.bind_some _ _).symm.trans H; rw [hy222]; with_reducible exact H2_) | (have H2_ := (Option.bind_some _ _).symm.trans H; with_reducible exact H2_) | with_reducible exact H | (rw [hy222]; exact H) | exact H
   have Ny222 := Aside0.mk hy222
   clear hy222
   have H' := Aside0.mk H
   clear H
   have p219 : 0 ≤ (x18_1 : Int) := of_decide_eq_true (by first | (with_reducible assumption) | assumption)
   have q219 : x18_1 < (l0.length : Int) := of_decide_eq_true (by first | (with_reducible assumption) | assumption)
   obtain ⟨ad219, e219, hx219_0, hx219_1⟩ := at_T72 HR0.out x18_1 p219 q219
   cases e219
   replace hx219_0 := (HB.out.cell (World.block_lt_of_cell? w _ hx219_0)).trans hx219_0
   replace hx219_1 := (HB.out.cell (World.block_lt_of_cell? w _ hx219_1)).trans hx219_1
   replace p219 := eq_true p219
   replace q219 := eq_true q219
   go_wp2_with (first | ((with_reducible refine gate_dst (N := 9) rfl ?_); refine box_event ?hg (N := 9) ?hd (cs := #[.int .i64 0, .int .i64 0]) (t := 72) ?hr ?_; (case hd => rfl); (case hg => rfl); (case hr => first | (go_simp; done) | (go_simp; rfl)); intro gb220 hg w12 hbox hb; have n0_ := Aside0.mk (Kd.R_below (rQR HO_7.out) hb); have n1_ := Aside0.mk (below_step (bQ) hb); have n2_ := Aside0.mk (hbox); have n3_ := Aside0.mk ((by rw [hg]; exact (below_size (bQ)) : w.heap.size ≤ gb220)); have n4_ := n3_; clear HO_7; clear HB; have HO_7 := n0_; have HB := n1_; have BK220 := n2_; have GW220 := n3_; have GE220 := n4_; clear n0_ n1_ n2_ n3_ n4_; clear hb hbox hg; have hcz13_0 : w12.cell? ⟨gb220, 0, none⟩ = some (.int .i64 0) := (blk_cell BK220.out 0).trans rfl; have hcz13_1 : w12.cell? ⟨gb220, 1, none⟩ = some (.int .i64 0) := (blk_cell BK220.out 1).trans rfl; have hfz13_0 := blk_frozen BK220.out 0; have hfz13_1 := blk_frozen BK220.out 1) | ((with_reducible refine gate_callee (f := 63) rfl ?_); refine goesL_ (some 25) rfl rfl Tryd.func63 (by kernel_rfl) rfl #[.int .i64 ((rd_T72 l0 x18_1).f0)] rfl mQ ?_; (with_reducible refine (logic_ahead.calls ((rd_T72 l0 x18_1).f0) true _ A9.out).mono ?_); rintro e w' ⟨rfl, ⟨nd, rfl⟩⟩; refine ⟨_, rfl, ?_⟩) | ((with_reducible refine gate_builtin (b := .append) (xs := #[.tmp 26, .tmp 28]) rfl ?_); at_builtin; refine Kd.R_append (Kd.int .i64) (w0 := w) w.heap.size rfl (.tmp 26) (.tmp 28) 43 3 (.int .i64 0) 8 rfl Tryd.underlying43 info3 rfl (by decide) (by omega) u7 x7_1 x18_1 [.int .i64 x18_1] (fun _ => True) (fun _ => False) rfl (by first | (go_simp; done) | (go_simp; rfl)) ?aP (fun _ hk => hk.elim) ?aF ?aO ?aB ?aS ?aL ?_; (case aP => exact rfl); (case aB => exact (bQ1 GE220.out)); (case aF => exact (fun _ _ => trivial)); (case aO => exact (by (with_reducible repeat (first | apply Kd.R_alloc | apply Kd.R_drewN | apply Kd.R_drew)); exact Kd.R_mono (Kd.R_far (p := ⟨gb220, 1, none⟩) (Kd.R_far (p := ⟨gb220, 0, none⟩) (Kd.R_types HO_7.out BK220.out (by decide)) (fun _ hk => hk.2) (.int .i64 ((rd_T72 l0 x18_1).f0))) (fun _ hk => hk.2) (.int .i64 ((rd_T72 l0 x18_1).f1))) (fun _ hk => trivial))); (case aS => exact (below_size (bQ1 GE220.out))); (case aL => have := LMc11.out; omega); intro v223 w14 ho hb hg hat; rw [← Ny222.out] at ho; have n0_ := Aside0.mk (blk_grown (g := gb220) (o := .cells #[.int .i64 ((rd_T72 l0 x18_1).f0), .int .i64 ((rd_T72 l0 x18_1).f1)] 72 (0, 0)) (by (with_reducible repeat (first | refine blk_drewN ?_ _ | refine blk_drew ?_ | refine blk_alloc ?_ _)); refine blk_put (cs := #[.int .i64 ((rd_T72 l0 x18_1).f0), .int .i64 0]) ?_ 1 _ rfl; (with_reducible repeat (first | refine blk_drewN ?_ _ | refine blk_drew ?_ | refine blk_alloc ?_ _)); refine blk_put (cs := #[.int .i64 0, .int .i64 0]) ?_ 0 _ rfl; (with_reducible repeat (first | refine blk_drewN ?_ _ | refine blk_drew ?_ | refine blk_alloc ?_ _)); exact BK220.out) hg (Kd.R_ne HO_7.out BK220.out (by decide))); have n1_ := Aside0.mk (hb); have n2_ := Aside0.mk (ho); clear BK220; clear HB; clear HO_7; have BK220 := n0_; have HB := n1_; have HO224 := n2_; clear n0_ n1_ n2_; clear ho hb hg hat))
   go_roundg k1
   case measure => have := HK1.out; omega
   case rel => exact ⟨(y222), (wrap64 (x18_1 + 1)), (by first | rfl | (simp; done) | (simp [*]; done)), H', ⟨by have := HK1.out; omega⟩, ⟨by (with_reducible repeat (first | apply Kd.R_alloc | apply Kd.R_drewN | apply Kd.R_drew)); exact HO224.out⟩, ⟨bQ1 GE220.out⟩⟩
def product_claims.f (k : Nat) (l0_0 : List (S77)) (l0_1 : List (S118)) (l0_2 : List (List (S72))) (l0_3 : List (S72)) : Option (Int) := (logic_Ahead.f k l0_3 (l0_2.length : Int)).bind fun bt226 => (some (shl .i64 1 (bt226.1.length : Int)))
theorem product_claims.mono : ∀ a0 a1 a2 a3 k, LeO (product_claims.f k a0 a1 a2 a3) (product_claims.f (k + 1) a0 a1 a2 a3) := by
 intro a0 a1 a2 a3 k
 unfold product_claims.f
 repeat' first
   | (with_reducible exact logic_Ahead.mono _ _ _)
   | (with_reducible exact LeO.refl _)
   | (with_reducible exact LeO.none _)
   | (with_reducible refine LeO.ite ?_ ?_)
   | (with_reducible refine LeO.bind ?_ (fun _ => ?_))
   | exact logic_Ahead.mono _ _ _
   | exact LeO.none _
   | refine LeO.ite ?_ ?_
   | refine LeO.bind ?_ (fun _ => ?_)
set_option maxHeartbeats 8000000 in
set_option maxRecDepth 100000 in
theorem product_claims.calls (k : Nat) (A0_0 : Option Addr) (c0_0 : Nat) (l0_0 : List (S77)) (A0_1 : Option Addr) (c0_1 : Nat) (l0_1 : List (S118)) (A0_2 : Option Addr) (c0_2 : Nat) (l0_2 : List (List (S72))) (A0_3 : Option Addr) (c0_3 : Nat) (l0_3 : List (S72)) (r : Int) (w : World) (hr0_0 : Kd.C k77 w A0_0 l0_0.length l0_0) (hc0_0 : l0_0.length ≤ c0_0) (hr0_1 : Kd.C k118 w A0_1 l0_1.length l0_1) (hc0_1 : l0_1.length ≤ c0_1) (hr0_2 : Kd.C (Kd.slice 72 k72) w A0_2 l0_2.length l0_2) (hc0_2 : l0_2.length ≤ c0_2) (hr0_3 : Kd.C k72 w A0_3 l0_3.length l0_3) (hc0_3 : l0_3.length ≤ c0_3) (hG_ : Glob w) (h : product_claims.f k l0_0 l0_1 l0_2 l0_3 = some r) :
  Calls Tryd.prog 28 #[.agg #[.slice A0_0 l0_0.length c0_0, .slice A0_1 l0_1.length c0_1, .slice A0_2 l0_2.length c0_2, .slice A0_3 l0_3.length c0_3]] w fun e w' => e = .returned (.int .i64 r) ∧ Below w.heap.size w w' := by
 have hu34 := Tryd.underlying34
 have HR0_0 := Aside0.mk hr0_0
 have HC0_0 := Aside0.mk hc0_0
 clear hr0_0 hc0_0
 have HR0_1 := Aside0.mk hr0_1
 have HC0_1 := Aside0.mk hc0_1
 clear hr0_1 hc0_1
 have HR0_2 := Aside0.mk hr0_2
 have HC0_2 := Aside0.mk hc0_2
 clear hr0_2 hc0_2
 have HR0_3 := Aside0.mk hr0_3
 have HC0_3 := Aside0.mk hc0_3
 clear hr0_3 hc0_3
 have HB := Aside0.mk (Below.refl w.heap.size w)
 have H : ((logic_Ahead.f k l0_3 (l0_2.length : Int)).bind fun bt226 => (some (shl .i64 1 (bt226.1.length : Int)))) = some r := h
 clear h
 replace H := Option.bind_eq_some_iff.mp H
 obtain ⟨⟨t226, t227⟩, A20, H⟩ := H
 replace H : (some (shl .i64 1 (t226.length : Int))) = some r := H
 have A2 := Aside0.mk A20
 clear A20
 obtain ⟨ji3, hji3⟩ : ∃ j_ : Int, (shl .i64 1 (t226.length : Int)) = j_ := ⟨_, rfl⟩
 replace H : (some ji3) = some r := by first | (rw [hji3] at H; exact H) | (simp only [hji3] at H ⊢; exact H)
 (try rw [hji3] at A2)
 have hji3_ : (IntKind.i64.wrap (1 * 2 ^ min (t226.length : Int).toNat 64)) = ji3 := hji3
 have hji3z : (t226.length : Int) ≤ 64 → (IntKind.i64.wrap (1 * 2 ^ (t226.length : Int).toNat)) = ji3 := shl_small hji3
 have hji3p : (IntKind.i64.wrap (1 * 2 ^ min t226.length 64)) = ji3 := hji3_
 have hji3q : (t226.length : Int) ≤ 64 → (IntKind.i64.wrap (1 * 2 ^ t226.length)) = ji3 := hji3z
 have hji3r : (IntKind.i64.wrap (2 ^ min t226.length 64)) = ji3 := by have h_ := hji3p; rw [Int.one_mul] at h_; exact h_
 have hji3s : (t226.length : Int) ≤ 64 → (IntKind.i64.wrap (2 ^ t226.length)) = ji3 := fun hle_ => by have h_ := hji3q hle_; rw [Int.one_mul] at h_; exact h_
 have hji3u : (IntKind.i64.wrap (2 ^ min (t226.length : Int).toNat 64)) = ji3 := by have h_ := hji3_; rw [Int.one_mul] at h_; exact h_
 have hji3v : (t226.length : Int) ≤ 64 → (IntKind.i64.wrap (2 ^ (t226.length : Int).toNat)) = ji3 := fun hle_ => by have h_ := hji3z hle_; rw [Int.one_mul] at h_; exact h_
 have hji3y : (wrap64 (1 * 2 ^ min (t226.length : Int).toNat 64)) = ji3 := (i64_w _).symm.trans hji3_
 have hji3x : (t226.length : Int) ≤ 64 → (wrap64 (1 * 2 ^ (t226.length : Int).toNat)) = ji3 := fun h_ => (i64_w _).symm.trans (hji3z h_)
 obtain rfl := Option.some.inj H
 go_enter Tryd.func28, Tryd.ntmps28
 go_wp2_with (first | ((with_reducible refine gate_dst (N := 1) rfl ?_); refine box_event ?hg (N := 1) ?hd (cs := #[.slice A0_0 l0_0.length c0_0, .slice A0_1 l0_1.length c0_1, .slice A0_2 l0_2.length c0_2, .slice A0_3 l0_3.length c0_3]) (t := 34) ?hr ?_; (case hd => rfl); (case hg => rfl); (case hr => first | (go_simp; done) | (go_simp; rfl)); intro gb225 hg w4 hbox hb; have n0_ := Aside0.mk (below_step (bQ) hb); have n1_ := Aside0.mk (hbox); have n2_ := Aside0.mk ((by rw [hg]; exact (below_size (bQ)) : w.heap.size ≤ gb225)); have n3_ := n2_; clear HB; have HB := n0_; have BK225 := n1_; have GW225 := n2_; have GE225 := n3_; clear n0_ n1_ n2_ n3_; clear hb hbox hg; have hcz5_0 : w4.cell? ⟨gb225, 0, none⟩ = some (.slice A0_0 l0_0.length c0_0) := (blk_cell BK225.out 0).trans rfl; have hcz5_1 : w4.cell? ⟨gb225, 1, none⟩ = some (.slice A0_1 l0_1.length c0_1) := (blk_cell BK225.out 1).trans rfl; have hcz5_2 : w4.cell? ⟨gb225, 2, none⟩ = some (.slice A0_2 l0_2.length c0_2) := (blk_cell BK225.out 2).trans rfl; have hcz5_3 : w4.cell? ⟨gb225, 3, none⟩ = some (.slice A0_3 l0_3.length c0_3) := (blk_cell BK225.out 3).trans rfl; have hfz5_0 := blk_frozen BK225.out 0; have hfz5_1 := blk_frozen BK225.out 1; have hfz5_2 := blk_frozen BK225.out 2; have hfz5_3 := blk_frozen BK225.out 3) | ((with_reducible refine gate_callee (f := 36) rfl ?_); refine goesL_ (some 11) rfl rfl Tryd.func36 (by kernel_rfl) rfl #[.slice A0_3 l0_3.length c0_3, .int .i64 (l0_2.length : Int)] rfl mQ ?_; (with_reducible refine (logic_Ahead.calls k _ _ l0_3 (l0_2.length : Int) t226 t227 _ ?side1 ?side2 ?side3 A2.out).mono ?_); (case side1 => exact cQ HR0_3.out); (case side2 => exact HC0_3.out); (case side3 => first | exact hG_ | exact Glob.drewN hG_ _ | exact Glob.below hG_ (bQ1 GE225.out)); rintro e w6 ⟨v228, rfl, ho0, hb⟩; refine ⟨_, rfl, ?_⟩; have n0_ := Aside0.mk (Kd.R_lower ho0 (below_size (bQ1 GE225.out))); have n1_ := Aside0.mk (blk_below (kQ BK225.out) hb); have n2_ := Aside0.mk (below_step (bQ1 GE225.out) hb); clear BK225; clear HB; have HO229 := n0_; have BK225 := n1_; have HB := n2_; clear n0_ n1_ n2_; (try clear hb); (try clear hb2); (try clear hk); (try clear hi); (try clear ho0); obtain ⟨Ao7, co7, eo7⟩ := Kd.R_slice HO229.out; subst eo7))
 go_ret
 exact ⟨by first | rfl | (simp [errW_none, errW_some] <;> rfl) | (simp only [← hji3]; first | rfl | (simp [errW_none, errW_some] <;> rfl)) | (simp [*, errW_none, errW_some] <;> rfl), bQ1 GE225.out⟩

end Go.Proofs.YtbokbbcoekeoaaaDoor.P
end
section
namespace Go.Proofs.YtbokbbcoekeoaaaDoor.Q
open Go.RowKit Go.Proofs.YtbokbbcoekeoaaaDoorW.PrintWords Go.Proofs.YtbokbbcoekeoaaaDoorW.PrintMore Go.Proofs.YtbokbbcoekeoaaaDoor.P
set_option linter.unusedVariables false
def ah (o : Op) : Bool := decide (14 ≤ o.f0)
def fok (props : Int) (o : Op) : Prop := 8 ≤ o.f0 ∧ o.f0 ≤ 18 ∧ (o.f0 = 13 → 0 ≤ o.f1 ∧ o.f1 < props) ∧ (o.f0 ≠ 13 → o.f1 = 0)
theorem fok_of (props o : Int) (h0 : 8 ≤ o) (h1 : o ≤ 18) (h2 : o ≠ 13) : fok props ⟨o, 0⟩ := ⟨h0, h1, fun h => absurd (show o = 13 from h) h2, fun _ => rfl⟩
theorem FormT.ops {props : Int} {t : Tm} (h : FormT props t) : ∀ o ∈ t.flat, fok props o := by
  induction h with
  | prop v h0 h1 =>
    intro o ho
    obtain rfl := List.mem_singleton.mp ho
    exact ⟨show (8 : Int) ≤ 13 by decide, show (13 : Int) ≤ 18 by decide, fun _ => ⟨h0, h1⟩, fun h => absurd rfl h⟩
  | yes o h =>
    intro x hx
    obtain rfl := List.mem_singleton.mp hx
    exact fok_of props o (by omega) (by omega) (by omega)
  | not a _ ih =>
    intro x hx
    simp only [Tm.flat, List.mem_cons] at hx
    rcases hx with rfl | hx
    · exact fok_of props 10 (by decide) (by decide) (by decide)
    · exact ih x hx
  | look o a h _ ih =>
    intro x hx
    simp only [Tm.flat, List.mem_cons] at hx
    rcases hx with rfl | hx
    · exact fok_of props o (by omega) (by omega) (by omega)
    · exact ih x hx
  | log o a b h _ _ iha ihb =>
    intro x hx
    simp only [Tm.flat, List.mem_cons, List.mem_append] at hx
    rcases hx with rfl | hx | hx
    · exact fok_of props o (by omega) (by omega) (by omega)
    · exact iha x hx
    · exact ihb x hx
  | unto o a b h _ _ iha ihb =>
    intro x hx
    simp only [Tm.flat, List.mem_cons, List.mem_append] at hx
    rcases hx with rfl | hx | hx
    · exact fok_of props o (by omega) (by omega) (by omega)
    · exact iha x hx
    · exact ihb x hx
theorem ahead_f {props : Int} {o : Op} (h : fok props o) : logic_ahead.f o.f0 = some (ah o) := by
  unfold logic_ahead.f ah
  by_cases c : 14 ≤ o.f0
  · rw [if_pos c, decide_eq_true h.2.1, decide_eq_true c]
  · rw [if_neg c, decide_eq_false c]
theorem fits_f {props : Int} {o : Op} (h : fok props o) : logic_fits.f o.f0 o.f1 props = some 0 := by
  obtain ⟨h0, h1, h2, h3⟩ := h
  unfold logic_fits.f
  rw [if_neg (by omega)]
  by_cases c : o.f0 = 13
  · have := h2 c
    rw [if_pos c, if_neg (by omega), if_neg (by omega)]
  · rw [if_neg c, if_pos (h3 c)]
def cntA (l : List Op) : Nat := l.countP ah
theorem FormT.cnt {props : Int} {t : Tm} (h : FormT props t) : cntA t.flat = t.tempo := by
  induction h with
  | prop v => rfl
  | yes o h => rcases h with rfl | rfl <;> rfl
  | not a _ ih => simp only [Q.cntA, Tm.flat, Tm.tempo, List.countP_cons, ah] at ih ⊢; rw [ih]; simp
  | look o a h _ ih => rcases h with rfl | rfl | rfl <;> (simp only [Q.cntA, Tm.flat, Tm.tempo, List.countP_cons, ah] at ih ⊢; rw [ih]; simp; omega)
  | log o a b h _ _ iha ihb => rcases h with rfl | rfl <;> (simp only [Q.cntA, Tm.flat, Tm.tempo, List.countP_cons, List.countP_append, ah] at iha ihb ⊢; rw [iha, ihb]; simp)
  | unto o a b h _ _ iha ihb => rcases h with rfl | rfl <;> (simp only [Q.cntA, Tm.flat, Tm.tempo, List.countP_cons, List.countP_append, ah] at iha ihb ⊢; rw [iha, ihb]; simp; omega)
theorem check_is {props : Int} (hp0 : 0 ≤ props) (hp1 : props ≤ 6) {t : Tm} (h : FormT props t) (hs : t.size ≤ 60) (ht : t.tempo ≤ 6) : Ev (fun k => logic_Check.f k t.flat props) 0 := by
  have hl := t.flat_len
  have hc := h.cnt
  have hgo : ∀ (d i : Nat) (n : Nat), i + d = t.flat.length → n + cntA (t.flat.drop i) ≤ 6 → Ev (fun k => logic_Check.l0 k props (n : Int) t.flat (t.flat.length : Int) (i : Int)) 0 := by
    intro d
    induction d with
    | zero =>
      intro i n hi hn
      refine Ev.step (f := fun _ => some 0) (fun k => ?_) (Ev.now _)
      simp only [logic_Check.l0]
      rw [if_neg (by omega), if_neg (by omega)]
    | succ d ih =>
      intro i n hi hn
      have hil : i < t.flat.length := by omega
      have hrd : rd_T72 t.flat (i : Int) = t.flat[i] := by simp [rd_T72, hil]
      have hf := h.ops _ (List.getElem_mem hil)
      rw [List.drop_eq_getElem_cons hil] at hn
      simp only [cntA, List.countP_cons] at hn
      by_cases ca : ah t.flat[i] = true
      · rw [if_pos ca] at hn
        refine Ev.step (f := fun k => logic_Check.l0 k props ((n + 1 : Nat) : Int) t.flat (t.flat.length : Int) ((i + 1 : Nat) : Int)) (fun k => ?_) (ih (i + 1) (n + 1) (by omega) (by simp only [cntA]; omega))
        simp only [logic_Check.l0, hrd, fits_f hf, ahead_f hf, Option.bind_some]
        rw [if_pos (by omega), if_pos (by omega), if_pos (by omega), if_pos trivial, if_pos ca, w64 (n := (n : Int) + 1) (by omega) (by omega), w64 (n := (i : Int) + 1) (by omega) (by omega)]
        rfl
      · rw [if_neg ca] at hn
        refine Ev.step (f := fun k => logic_Check.l0 k props (n : Int) t.flat (t.flat.length : Int) ((i + 1 : Nat) : Int)) (fun k => ?_) (ih (i + 1) n (by omega) (by simp only [cntA]; omega))
        simp only [logic_Check.l0, hrd, fits_f hf, ahead_f hf, Option.bind_some]
        rw [if_pos (by omega), if_pos (by omega), if_pos (by omega), if_pos trivial, if_neg ca, w64 (n := (i : Int) + 1) (by omega) (by omega)]
        rfl
  unfold logic_Check.f
  simp only [if_neg (show ¬ props < 0 by omega), decide_eq_false (show ¬ props > 6 by omega)]
  refine Ev.step (f := fun k => (polish_Ends.f k t.flat).bind fun bt => if bt.2 = 0 then logic_Check.l0 k props 0 t.flat (t.flat.length : Int) 0 else some bt.2) (fun k => ?_) (Ev.bind (ends_ok t h.ok hs) ?_)
  · simp only [logic_Check.j0, Bool.false_eq_true, if_false]
  · simp only [if_true]
    exact hgo t.flat.length 0 0 (Nat.zero_add _) (by rw [List.drop_zero]; omega)
def aheadL : Int → List Op → List Int
  | _, [] => []
  | p, o :: l => if ah o = true then p :: aheadL (p + 1) l else aheadL (p + 1) l
theorem aheadL_len : ∀ (l : List Op) (p : Int), (aheadL p l).length = cntA l
  | [], _ => rfl
  | o :: l, p => by
    unfold aheadL
    by_cases c : ah o = true
    · rw [if_pos c, List.length_cons, aheadL_len l]; simp [cntA, c]
    · rw [if_neg c, aheadL_len l]; simp [cntA, c]
theorem ahead_is {props : Int} (hp0 : 0 ≤ props) (hp1 : props ≤ 6) {t : Tm} (h : FormT props t) (hs : t.size ≤ 60) (ht : t.tempo ≤ 6) : Ev (fun k => logic_Ahead.f k t.flat props) (aheadL 0 t.flat, 0) := by
  have hl := t.flat_len
  have hgo : ∀ (d i : Nat) (acc : List Int), i + d = t.flat.length → acc.length ≤ i → Ev (fun k => logic_Ahead.l0 k acc t.flat (t.flat.length : Int) (i : Int)) (acc ++ aheadL (i : Int) (t.flat.drop i), 0) := by
    intro d
    induction d with
    | zero =>
      intro i acc hi ha
      rw [List.drop_of_length_le (by omega)]
      refine Ev.step (f := fun _ => some (acc, (0 : Int))) (fun k => ?_) (ev_some (by simp [aheadL]))
      simp only [logic_Ahead.l0]
      rw [if_neg (by omega)]
    | succ d ih =>
      intro i acc hi ha
      have hil : i < t.flat.length := by omega
      have hrd : rd_T72 t.flat (i : Int) = t.flat[i] := by simp [rd_T72, hil]
      have hf := h.ops _ (List.getElem_mem hil)
      rw [List.drop_eq_getElem_cons hil]
      unfold aheadL
      by_cases ca : ah t.flat[i] = true
      · rw [if_pos ca]
        have := ih (i + 1) (acc ++ [(i : Int)]) (by omega) (by rw [List.length_append, List.length_singleton]; omega)
        rw [List.append_assoc] at this
        refine Ev.step (f := fun k => logic_Ahead.l0 k (acc ++ [(i : Int)]) t.flat (t.flat.length : Int) ((i + 1 : Nat) : Int)) (fun k => ?_) this
        simp only [logic_Ahead.l0, hrd, ahead_f hf, Option.bind_some]
        rw [if_pos (by omega), if_pos (by omega), if_pos (by omega), if_pos ca, if_pos (by omega), w64 (n := (i : Int) + 1) (by omega) (by omega)]
        rfl
      · rw [if_neg ca]
        refine Ev.step (f := fun k => logic_Ahead.l0 k acc t.flat (t.flat.length : Int) ((i + 1 : Nat) : Int)) (fun k => ?_) (ih (i + 1) acc (by omega) (by omega))
        simp only [logic_Ahead.l0, hrd, ahead_f hf, Option.bind_some]
        rw [if_pos (by omega), if_pos (by omega), if_pos (by omega), if_neg ca, w64 (n := (i : Int) + 1) (by omega) (by omega)]
        rfl
  unfold logic_Ahead.f
  refine Ev.bind (check_is hp0 hp1 h hs ht) ?_
  simp only [if_true]
  exact hgo t.flat.length 0 [] (Nat.zero_add _) (Nat.le_refl _)
end Go.Proofs.YtbokbbcoekeoaaaDoor.Q
end
