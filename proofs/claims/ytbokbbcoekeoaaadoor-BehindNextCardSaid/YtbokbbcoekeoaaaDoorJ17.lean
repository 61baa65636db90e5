-- PACKED by pack.py of this repo: FStepInnerNext
import Derived.Test.YtbokbbcoekeoaaaDoorJ1
import Derived.Test.YtbokbbcoekeoaaaDoorJ13
import Derived.Test.YtbokbbcoekeoaaaDoorJ16
import Derived.Test.YtbokbbcoekeoaaaDoorJ4
section
namespace Go.Proofs.YtbokbbcoekeoaaaDoor.P
open Go.RowKit Go.Proofs.YtbokbbcoekeoaaaDoorW.PrintWords Go.Proofs.YtbokbbcoekeoaaaDoorW.PrintLast Go.Proofs.YtbokbbcoekeoaaaDoorW.PrintMore Go.Proofs.YtbokbbcoekeoaaaDoor.G
attribute [local go_sem] max2_int min2_int max_two min_two max_three min_three max_four min_four
set_option linter.unusedVariables false
set_option linter.unusedSimpArgs false

def step_next.l0 : Nat → List Int → List Int → List (S118) → Int → Int → List (S77) → List (S118) → Option (List Int)
 | 0, _, _, _, _, _, _, _ => none
 | k + 1, x1, x5, x13, x14, x15, x430000, x430001 => if x15 < x14 then (if 0 ≤ x15 then (if x15 < (x13.length : Int) then ((step_after.f k x430000 x430001 ((rd_T118 x13 x15).f0) ((rd_T118 x13 x15).f1) x1).bind fun bt436 => (if bt436.2 = true then ((model_Code.f k x430000 x430001 bt436.1).bind fun bt440 => (if x5.length < 17592186044416 then (step_next.l0 k x1 (x5 ++ [bt440.1]) x13 x14 (wrap64 (x15 + 1)) x430000 x430001) else (none))) else (step_next.l0 k x1 x5 x13 x14 (wrap64 (x15 + 1)) x430000 x430001))) else (none)) else (none)) else (if x5.length < 17592186044416 then some (uniq x5) else none)
def step_next.f (k : Nat) (l0_0 : List (S77)) (l0_1 : List (S118)) (l1 : List Int) : Option (List Int) := step_next.l0 k l1 ([] : List Int) l0_1 (l0_1.length : Int) 0 l0_0 l0_1
theorem step_next.mono_l : ∀ k, (∀ y0 y1 y2 y3 y4 y5 y6, LeO (step_next.l0 k y0 y1 y2 y3 y4 y5 y6) (step_next.l0 (k + 1) y0 y1 y2 y3 y4 y5 y6))
 | 0 => fun _ _ _ _ _ _ _ r h => by simp [step_next.l0] at h
 | k + 1 => by
  have ih0 := step_next.mono_l k
  ·
   intro y0 y1 y2 y3 y4 y5 y6
   unfold step_next.l0
   repeat' first
   | (with_reducible exact ih0 _ _ _ _ _ _ _)
   | (with_reducible exact model_Code.mono _ _ _ _)
   | (with_reducible exact step_after.mono _ _ _ _ _ _)
   | (with_reducible exact LeO.refl _)
   | (with_reducible exact LeO.none _)
   | (with_reducible refine LeO.ite ?_ ?_)
   | (with_reducible refine LeO.bind ?_ (fun _ => ?_))
   | exact ih0 _ _ _ _ _ _ _
   | exact model_Code.mono _ _ _ _
   | exact step_after.mono _ _ _ _ _ _
   | exact LeO.none _
   | refine LeO.ite ?_ ?_
   | refine LeO.bind ?_ (fun _ => ?_)
theorem step_next.mono : ∀ a0 a1 a2 k, LeO (step_next.f k a0 a1 a2) (step_next.f (k + 1) a0 a1 a2) := by
 intro a0 a1 a2 k
 have ih0 := step_next.mono_l k
 unfold step_next.f
 repeat' first
   | (with_reducible exact ih0 _ _ _ _ _ _ _)
   | (with_reducible exact LeO.refl _)
   | (with_reducible exact LeO.none _)
   | (with_reducible refine LeO.ite ?_ ?_)
   | (with_reducible refine LeO.bind ?_ (fun _ => ?_))
   | exact ih0 _ _ _ _ _ _ _
   | exact LeO.none _
   | refine LeO.ite ?_ ?_
   | refine LeO.bind ?_ (fun _ => ?_)
set_option maxHeartbeats 8000000 in
set_option maxRecDepth 100000 in
theorem step_next.calls (k : Nat) (A0_0 : Option Addr) (c0_0 : Nat) (l0_0 : List (S77)) (A0_1 : Option Addr) (c0_1 : Nat) (l0_1 : List (S118)) (A1 : Option Addr) (c1 : Nat) (l1 : List Int) (r : List Int) (w : World) (hr0_0 : Kd.C k77 w A0_0 l0_0.length l0_0) (hc0_0 : l0_0.length ≤ c0_0) (hr0_1 : Kd.C k118 w A0_1 l0_1.length l0_1) (hc0_1 : l0_1.length ≤ c0_1) (hr1 : Kd.C (Kd.int .i64) w A1 l1.length l1) (hc1 : l1.length ≤ c1) (hG_ : Glob w) (h : step_next.f k l0_0 l0_1 l1 = some r) :
  Calls Tryd.prog 33 #[.agg #[.slice A0_0 l0_0.length c0_0, .slice A0_1 l0_1.length c0_1], .slice A1 l1.length c1] w fun e w' => ∃ v0_ : Value, e = .returned (v0_) ∧ Kd.R (Kd.int .i64) 3 w' w.heap.size (fun _ => True) v0_ r ∧ Below w.heap.size w w' := by
 have hu30 := Tryd.underlying30
 have hu118 := Tryd.underlying118
 have HR0_0 := Aside0.mk hr0_0
 have HC0_0 := Aside0.mk hc0_0
 clear hr0_0 hc0_0
 have HR0_1 := Aside0.mk hr0_1
 have HC0_1 := Aside0.mk hc0_1
 clear hr0_1 hc0_1
 have HR1 := Aside0.mk hr1
 have HC1 := Aside0.mk hc1
 clear hr1 hc1
 have HB := Aside0.mk (Below.refl w.heap.size w)
 have H : (step_next.l0 k l1 ([] : List Int) l0_1 (l0_1.length : Int) 0 l0_0 l0_1) = some r := h
 clear h
 have H' := Aside0.mk H
 clear H
 go_enter Tryd.func33, Tryd.ntmps33
 go_wp2_with (first | ((with_reducible refine gate_dst (N := 2) rfl ?_); refine box_event ?hg (N := 2) ?hd (cs := #[.slice A0_0 l0_0.length c0_0, .slice A0_1 l0_1.length c0_1]) (t := 30) ?hr ?_; (case hd => rfl); (case hg => rfl); (case hr => first | (go_simp; done) | (go_simp; rfl)); intro gb429 hg w3 hbox hb; have n0_ := Aside0.mk (below_step (bQ) hb); have n1_ := Aside0.mk (hbox); have n2_ := Aside0.mk ((by rw [hg]; exact (below_size (bQ)) : w.heap.size ≤ gb429)); have n3_ := n2_; clear HB; have HB := n0_; have BK429 := n1_; have GW429 := n2_; have GE429 := n3_; clear n0_ n1_ n2_ n3_; clear hb hbox hg; have hcz4_0 : w3.cell? ⟨gb429, 0, none⟩ = some (.slice A0_0 l0_0.length c0_0) := (blk_cell BK429.out 0).trans rfl; have hcz4_1 : w3.cell? ⟨gb429, 1, none⟩ = some (.slice A0_1 l0_1.length c0_1) := (blk_cell BK429.out 1).trans rfl; have hfz4_0 := blk_frozen BK429.out 0; have hfz4_1 := blk_frozen BK429.out 1))
 go_loopg [5, 15] k (fun kq v5 v15 w' => ∃ (x5_1 : List Int) (x15_1 : Int), v15 = .int .i64 x15_1 ∧ Aside0 (step_next.l0 kq l1 x5_1 l0_1 (l0_1.length : Int) x15_1 l0_0 l0_1 = some r) ∧ Aside0 (kq ≤ k) ∧ Aside0 (Kd.R (Kd.int .i64) 3 w' w.heap.size (fun _ => True) v5 x5_1) ∧ Aside0 (w'.heap[gb429]? = some (.cells #[(.slice A0_0 l0_0.length c0_0), (.slice A0_1 l0_1.length c0_1)] 30 (0, 0))) ∧ Aside0 (Below w.heap.size w w'))
 case atStart => exact ⟨(([] : List Int)), (0), (by first | rfl | (simp; done) | (simp [*]; done)), H', ⟨Nat.le_refl _⟩, ⟨by first | exact Kd.R_nil _ _ _ _ _ | exact Kd.N_nil _ _ _ _ _ | exact Kd.V_nil _ _ _ _ _ | exact Kd.Q_nil _ _ _ _ _ | exact Kd.S_nil _ _ _ _ _⟩, ⟨by (with_reducible repeat (first | refine blk_drewN ?_ _ | refine blk_drew ?_ | refine blk_alloc ?_ _)); exact BK429.out⟩, ⟨bQ1 GE429.out⟩⟩
 case round =>
  clear H'
  try clear c1
  try clear p2
  try clear c3
  try clear hcz4_0
  try clear hcz4_1
  try clear hfz4_0
  try clear hfz4_1
  obtain ⟨x5_1, x15_1, rfl, HA, HK1, HO_5, BK429, HB⟩ := hrel
  cases gk with
  | zero => exact absurd HA.out (by simp [step_next.l0])
  | succ k1 =>
   have H := HA.out
   clear HA
   simp only [step_next.l0] at H
   by_cases c5 : x15_1 < (l0_1.length : Int)
   rotate_left
   ·
    rw [if_neg c5] at H
    have c5b0 : decide (x15_1 < (l0_1.length : Int)) = false := decide_eq_false c5
    clear c5
    by_cases cq_ : x5_1.length < 17592186044416
    ·
     rw [if_pos cq_] at H
     have LQ_ := Aside0.mk cq_
     clear cq_
     obtain rfl := Option.some.inj H
     clear H
     obtain ⟨Aq_, cq_, eq_⟩ := Kd.R_slice HO_5.out
     subst eq_
     go_wp2_with (first | (go_at_call 61; (refine (sort_own HO_5.out HB.out LQ_.out).mono ?_); rintro e w29 ⟨rfl, ho, hb, hg⟩; have n0_ := Aside0.mk ho; have n2_ := Aside0.mk hb; clear HO_5 HB ho hb hg; have HO_5 := n0_; have HB := n2_; clear n0_ n2_) | (go_at_call 62; (refine (compact_own HO_5.out (srt_len _).symm HB.out (by rw [srt_len]; exact LQ_.out)).mono ?_); rintro e w30 ⟨vq_, rfl, ho, hb, hg⟩; have HQ_ := Aside0.mk ho; have n2_ := Aside0.mk hb; clear HB ho hb hg; have HB := n2_; clear n2_))
     go_ret
     exact ⟨_, rfl, HQ_.out, HB.out⟩
    ·
     rw [if_neg cq_] at H
     exact absurd H (by simp)
   rw [if_pos c5] at H
   have c5b0 : decide (x15_1 < (l0_1.length : Int)) = true := decide_eq_true c5
   clear c5
   by_cases c6 : 0 ≤ x15_1
   rotate_left
   ·
    rw [if_neg c6] at H
    exact absurd H (by simp)
   rw [if_pos c6] at H
   have c6b0 : decide (0 ≤ x15_1) = true := decide_eq_true c6
   clear c6
   by_cases c7 : x15_1 < (l0_1.length : Int)
   rotate_left
   ·
    rw [if_neg c7] at H
    exact absurd H (by simp)
   rw [if_pos c7] at H
   have c7b0 : decide (x15_1 < (l0_1.length : Int)) = true := decide_eq_true c7
   clear c7
   replace H := Option.bind_eq_some_iff.mp H
   obtain ⟨⟨t436, t439⟩, A80, H⟩ := H
   replace H : (if t439 = true then ((model_Code.f k1 l0_0 l0_1 t436).bind fun bt440 => (if x5_1.length < 17592186044416 then (step_next.l0 k1 l1 (x5_1 ++ [bt440.1]) l0_1 (l0_1.length : Int) (wrap64 (x15_1 + 1)) l0_0 l0_1) else (none))) else (step_next.l0 k1 l1 x5_1 l0_1 (l0_1.length : Int) (wrap64 (x15_1 + 1)) l0_0 l0_1)) = some r := H
   have A8 := Aside0.mk A80
   clear A80
   by_cases c9 : t439 = true
   rotate_left
   ·
    replace c9 := Bool.eq_false_iff.mpr c9
    subst c9
    have H1 : (step_next.l0 k1 l1 x5_1 l0_1 (l0_1.length : Int) (wrap64 (x15_1 + 1)) l0_0 l0_1) = some r := by rw [if_neg (show ¬ (false = true) by decide)] at H; exact H
    clear H
    have H := H1
    clear H1
    have H' := Aside0.mk H
    clear H
    have p434 : 0 ≤ (x15_1 : Int) := of_decide_eq_true (by first | (with_reducible assumption) | assumption)
    have q434 : x15_1 < (l0_1.length : Int) := of_decide_eq_true (by first | (with_reducible assumption) | assumption)
    obtain ⟨ad434, A434_0, c434_0, A434_1, c434_1, e434, hx434_0, hx434_1, hl434_0, hi434_0, hl434_1, hi434_1⟩ := at_T118 HR0_1.out x15_1 p434 q434
    cases e434
    replace hx434_0 := (HB.out.cell (World.block_lt_of_cell? w _ hx434_0)).trans hx434_0
    replace hx434_1 := (HB.out.cell (World.block_lt_of_cell? w _ hx434_1)).trans hx434_1
    have HR434_0 := Aside0.mk hi434_0
    have HC434_0 := Aside0.mk hl434_0
    clear hi434_0 hl434_0
    have HR434_1 := Aside0.mk hi434_1
    have HC434_1 := Aside0.mk hl434_1
    clear hi434_1 hl434_1
    replace p434 := eq_true p434
    replace q434 := eq_true q434
    go_wp2_with (first | ((with_reducible refine gate_dst (N := 7) rfl ?_); refine box_event ?hg (N := 7) ?hd (cs := #[.slice none 0 0, .slice none 0 0]) (t := 118) ?hr ?_; (case hd => rfl); (case hg => rfl); (case hr => first | (go_simp; done) | (go_simp; rfl)); intro gb435 hg w21 hbox hb; have n0_ := Aside0.mk (Kd.R_below (rQR HO_5.out) hb); have n1_ := Aside0.mk (blk_below (kQ BK429.out) hb); have n2_ := Aside0.mk (below_step (bQ1 GE429.out) hb); have n3_ := Aside0.mk (hbox); have n4_ := Aside0.mk ((by rw [hg]; exact (below_size (bQ1 GE429.out)) : w.heap.size ≤ gb435)); have n5_ := n4_; have n6_ := Aside0.mk ((by rw [hg]; exact Nat.ne_of_lt (blk_lt (kQ BK429.out)) : gb429 ≠ gb435)); have n7_ := Aside0.mk ((by rw [hg]; exact Nat.ne_of_gt (blk_lt (kQ BK429.out)) : gb435 ≠ gb429)); clear HO_5; clear BK429; clear HB; have HO_5 := n0_; have BK429 := n1_; have HB := n2_; have BK435 := n3_; have GW435 := n4_; have GE435 := n5_; have NB429_435 := n6_; have NB435_429 := n7_; clear n0_ n1_ n2_ n3_ n4_ n5_ n6_ n7_; clear hb hbox hg; have hnb22 := NB435_429.out; have hnc22 := NB429_435.out; have hcz23_0 : w21.cell? ⟨gb435, 0, none⟩ = some (.slice none 0 0) := (blk_cell BK435.out 0).trans rfl; have hcz23_1 : w21.cell? ⟨gb435, 1, none⟩ = some (.slice none 0 0) := (blk_cell BK435.out 1).trans rfl; have hfz23_0 := blk_frozen BK435.out 0; have hfz23_1 := blk_frozen BK435.out 1; have hcz24_0 : w21.cell? ⟨gb429, 0, none⟩ = some (.slice A0_0 l0_0.length c0_0) := (blk_cell BK429.out 0).trans rfl; have hcz24_1 : w21.cell? ⟨gb429, 1, none⟩ = some (.slice (some ad434) l0_1.length c0_1) := (blk_cell BK429.out 1).trans rfl; have hfz24_0 := blk_frozen BK429.out 0; have hfz24_1 := blk_frozen BK429.out 1) | ((with_reducible refine gate_callee (f := 60) rfl ?_); refine goesL_ (some 23) rfl rfl Tryd.func60 (by kernel_rfl) rfl #[.agg #[.slice A0_0 l0_0.length c0_0, .slice (some ad434) l0_1.length c0_1], .agg #[.slice A434_0 ((rd_T118 l0_1 x15_1).f0).length c434_0, .slice A434_1 ((rd_T118 l0_1 x15_1).f1).length c434_1], .slice A1 l1.length c1] rfl mQ ?_; (with_reducible refine (step_after.calls k1 _ _ l0_0 _ _ l0_1 _ _ ((rd_T118 l0_1 x15_1).f0) _ _ ((rd_T118 l0_1 x15_1).f1) _ _ l1 t436 false _ ?side1 ?side2 ?side3 ?side4 ?side5 ?side6 ?side7 ?side8 ?side9 ?side10 ?side11 A8.out).mono ?_); (case side1 => exact Kd.C_below HR0_0.out (bQ2 GE429.out GE435.out)); (case side2 => exact HC0_0.out); (case side3 => exact Kd.C_below HR0_1.out (bQ2 GE429.out GE435.out)); (case side4 => exact HC0_1.out); (case side5 => exact Kd.C_below HR434_0.out (bQ2 GE429.out GE435.out)); (case side6 => exact HC434_0.out); (case side7 => exact Kd.C_below HR434_1.out (bQ2 GE429.out GE435.out)); (case side8 => exact HC434_1.out); (case side9 => exact Kd.C_below HR1.out (bQ2 GE429.out GE435.out)); (case side10 => exact HC1.out); (case side11 => first | exact hG_ | exact Glob.drewN hG_ _ | exact Glob.below hG_ (bQ2 GE429.out GE435.out)); rintro e w25 ⟨v437, rfl, ho0, hb⟩; refine ⟨_, rfl, ?_⟩; have n0_ := Aside0.mk (Kd.R_elder' (by (with_reducible repeat (first | apply Kd.R_alloc | apply Kd.R_drewN | apply Kd.R_drew)); exact (Kd.R_mono (Kd.R_far (p := ⟨gb435, 1, none⟩) (Kd.R_far (p := ⟨gb435, 0, none⟩) (Kd.R_types HO_5.out BK435.out (by decide)) (fun _ hk => hk.2) (.slice A434_0 ((rd_T118 l0_1 x15_1).f0).length c434_0)) (fun _ hk => hk.2) (.slice A434_1 ((rd_T118 l0_1 x15_1).f1).length c434_1)) (fun _ h_ => h_.1))) (Kd.R_base ho0) hb); have n1_ := Aside0.mk (Kd.R_lower (Kd.R_new' ho0 (Kd.R_lt (by (with_reducible repeat (first | apply Kd.R_alloc | apply Kd.R_drewN | apply Kd.R_drew)); exact (Kd.R_mono (Kd.R_far (p := ⟨gb435, 1, none⟩) (Kd.R_far (p := ⟨gb435, 0, none⟩) (Kd.R_types HO_5.out BK435.out (by decide)) (fun _ hk => hk.2) (.slice A434_0 ((rd_T118 l0_1 x15_1).f0).length c434_0)) (fun _ hk => hk.2) (.slice A434_1 ((rd_T118 l0_1 x15_1).f1).length c434_1)) (fun _ h_ => h_.1))))) (below_size (bQ2 GE429.out GE435.out))); have n2_ := Aside0.mk (blk_below (g := gb429) (o := .cells #[.slice A0_0 l0_0.length c0_0, .slice (some ad434) l0_1.length c0_1] 30 (0, 0)) (by (with_reducible repeat (first | refine blk_drewN ?_ _ | refine blk_drew ?_ | refine blk_alloc ?_ _)); refine blk_far ?_ NB429_435.out _; (with_reducible repeat (first | refine blk_drewN ?_ _ | refine blk_drew ?_ | refine blk_alloc ?_ _)); refine blk_far ?_ NB429_435.out _; (with_reducible repeat (first | refine blk_drewN ?_ _ | refine blk_drew ?_ | refine blk_alloc ?_ _)); exact BK429.out) hb); have n3_ := Aside0.mk (blk_below (g := gb435) (o := .cells #[.slice A434_0 ((rd_T118 l0_1 x15_1).f0).length c434_0, .slice A434_1 ((rd_T118 l0_1 x15_1).f1).length c434_1] 118 (0, 0)) (by (with_reducible repeat (first | refine blk_drewN ?_ _ | refine blk_drew ?_ | refine blk_alloc ?_ _)); refine blk_put (cs := #[.slice A434_0 ((rd_T118 l0_1 x15_1).f0).length c434_0, .slice none 0 0]) ?_ 1 _ rfl; (with_reducible repeat (first | refine blk_drewN ?_ _ | refine blk_drew ?_ | refine blk_alloc ?_ _)); refine blk_put (cs := #[.slice none 0 0, .slice none 0 0]) ?_ 0 _ rfl; (with_reducible repeat (first | refine blk_drewN ?_ _ | refine blk_drew ?_ | refine blk_alloc ?_ _)); exact BK435.out) hb); have n4_ := Aside0.mk (below_step (bQ2 GE429.out GE435.out) hb); clear HO_5; clear BK429; clear BK435; clear HB; have HO_5 := n0_; have HO438 := n1_; have BK429 := n2_; have BK435 := n3_; have HB := n4_; clear n0_ n1_ n2_ n3_ n4_; (try clear hb); (try clear hb2); (try clear hk); (try clear hi); (try clear ho0)))
    go_roundg k1
    case measure => have := HK1.out; omega
    case rel => exact ⟨(x5_1), (wrap64 (x15_1 + 1)), (by first | rfl | (simp; done) | (simp [*]; done)), H', ⟨by have := HK1.out; omega⟩, ⟨by (with_reducible repeat (first | apply Kd.R_alloc | apply Kd.R_drewN | apply Kd.R_drew)); exact Kd.R_mono HO_5.out (fun _ hk => trivial)⟩, ⟨by (with_reducible repeat (first | refine blk_drewN ?_ _ | refine blk_drew ?_ | refine blk_alloc ?_ _)); exact BK429.out⟩, ⟨bQ2 GE429.out GE435.out⟩⟩
   subst c9
   have H1 : ((model_Code.f k1 l0_0 l0_1 t436).bind fun bt440 => (if x5_1.length < 17592186044416 then (step_next.l0 k1 l1 (x5_1 ++ [bt440.1]) l0_1 (l0_1.length : Int) (wrap64 (x15_1 + 1)) l0_0 l0_1) else (none))) = some r := by rw [if_pos rfl] at H; exact H
   clear H
   have H := H1
   clear H1
   replace H := Option.bind_eq_some_iff.mp H
   obtain ⟨⟨t440, t441⟩, A100, H⟩ := H
   replace H : (if x5_1.length < 17592186044416 then (step_next.l0 k1 l1 (x5_1 ++ [t440]) l0_1 (l0_1.length : Int) (wrap64 (x15_1 + 1)) l0_0 l0_1) else (none)) = some r := H
   have A10 := Aside0.mk A100
   clear A100
   by_cases c11 : x5_1.length < 17592186044416
   rotate_left
   ·
    rw [if_neg c11] at H
    exact absurd H (by simp)
   rw [if_pos c11] at H
   have LMc11 := Aside0.mk c11
   clear c11
   obtain ⟨y442, hy442⟩ : ∃ y_ : List Int, y_ = (x5_1 ++ [t440]) := ⟨_, rfl⟩
   replace H : (step_next.l0 k1 l1 y442 l0_1 (l0_1.length : Int) (wrap64 (x15_1 + 1)) l0_0 l0_1) = some r := by first | (rw [hy442]; with_reducible exact H) | (have H2_ := (Option.bind_some _ _).symm.trans H; rw [hy442]; with_reducible exact H2_) | (have H2_ := (Option.bind_some _ _).symm.trans H; with_reducible exact H2_) | with_reducible exact H | (rw [hy442]; exact H) | exact H
   have Ny442 := Aside0.mk hy442
   clear hy442
   have H' := Aside0.mk H
   clear H
   have p434 : 0 ≤ (x15_1 : Int) := of_decide_eq_true (by first | (with_reducible assumption) | assumption)
   have q434 : x15_1 < (l0_1.length : Int) := of_decide_eq_true (by first | (with_reducible assumption) | assumption)
   obtain ⟨ad434, A434_0, c434_0, A434_1, c434_1, e434, hx434_0, hx434_1, hl434_0, hi434_0, hl434_1, hi434_1⟩ := at_T118 HR0_1.out x15_1 p434 q434
   cases e434
   replace hx434_0 := (HB.out.cell (World.block_lt_of_cell? w _ hx434_0)).trans hx434_0
   replace hx434_1 := (HB.out.cell (World.block_lt_of_cell? w _ hx434_1)).trans hx434_1
   have HR434_0 := Aside0.mk hi434_0
   have HC434_0 := Aside0.mk hl434_0
   clear hi434_0 hl434_0
   have HR434_1 := Aside0.mk hi434_1
   have HC434_1 := Aside0.mk hl434_1
   clear hi434_1 hl434_1
   replace p434 := eq_true p434
   replace q434 := eq_true q434
   go_wp2_with (first | ((with_reducible refine gate_dst (N := 7) rfl ?_); refine box_event ?hg (N := 7) ?hd (cs := #[.slice none 0 0, .slice none 0 0]) (t := 118) ?hr ?_; (case hd => rfl); (case hg => rfl); (case hr => first | (go_simp; done) | (go_simp; rfl)); intro gb435 hg w12 hbox hb; have n0_ := Aside0.mk (Kd.R_below (rQR HO_5.out) hb); have n1_ := Aside0.mk (blk_below (kQ BK429.out) hb); have n2_ := Aside0.mk (below_step (bQ1 GE429.out) hb); have n3_ := Aside0.mk (hbox); have n4_ := Aside0.mk ((by rw [hg]; exact (below_size (bQ1 GE429.out)) : w.heap.size ≤ gb435)); have n5_ := n4_; have n6_ := Aside0.mk ((by rw [hg]; exact Nat.ne_of_lt (blk_lt (kQ BK429.out)) : gb429 ≠ gb435)); have n7_ := Aside0.mk ((by rw [hg]; exact Nat.ne_of_gt (blk_lt (kQ BK429.out)) : gb435 ≠ gb429)); clear HO_5; clear BK429; clear HB; have HO_5 := n0_; have BK429 := n1_; have HB := n2_; have BK435 := n3_; have GW435 := n4_; have GE435 := n5_; have NB429_435 := n6_; have NB435_429 := n7_; clear n0_ n1_ n2_ n3_ n4_ n5_ n6_ n7_; clear hb hbox hg; have hnb13 := NB435_429.out; have hnc13 := NB429_435.out; have hcz14_0 : w12.cell? ⟨gb435, 0, none⟩ = some (.slice none 0 0) := (blk_cell BK435.out 0).trans rfl; have hcz14_1 : w12.cell? ⟨gb435, 1, none⟩ = some (.slice none 0 0) := (blk_cell BK435.out 1).trans rfl; have hfz14_0 := blk_frozen BK435.out 0; have hfz14_1 := blk_frozen BK435.out 1; have hcz15_0 : w12.cell? ⟨gb429, 0, none⟩ = some (.slice A0_0 l0_0.length c0_0) := (blk_cell BK429.out 0).trans rfl; have hcz15_1 : w12.cell? ⟨gb429, 1, none⟩ = some (.slice (some ad434) l0_1.length c0_1) := (blk_cell BK429.out 1).trans rfl; have hfz15_0 := blk_frozen BK429.out 0; have hfz15_1 := blk_frozen BK429.out 1) | ((with_reducible refine gate_callee (f := 60) rfl ?_); refine goesL_ (some 23) rfl rfl Tryd.func60 (by kernel_rfl) rfl #[.agg #[.slice A0_0 l0_0.length c0_0, .slice (some ad434) l0_1.length c0_1], .agg #[.slice A434_0 ((rd_T118 l0_1 x15_1).f0).length c434_0, .slice A434_1 ((rd_T118 l0_1 x15_1).f1).length c434_1], .slice A1 l1.length c1] rfl mQ ?_; (with_reducible refine (step_after.calls k1 _ _ l0_0 _ _ l0_1 _ _ ((rd_T118 l0_1 x15_1).f0) _ _ ((rd_T118 l0_1 x15_1).f1) _ _ l1 t436 true _ ?side1 ?side2 ?side3 ?side4 ?side5 ?side6 ?side7 ?side8 ?side9 ?side10 ?side11 A8.out).mono ?_); (case side1 => exact Kd.C_below HR0_0.out (bQ2 GE429.out GE435.out)); (case side2 => exact HC0_0.out); (case side3 => exact Kd.C_below HR0_1.out (bQ2 GE429.out GE435.out)); (case side4 => exact HC0_1.out); (case side5 => exact Kd.C_below HR434_0.out (bQ2 GE429.out GE435.out)); (case side6 => exact HC434_0.out); (case side7 => exact Kd.C_below HR434_1.out (bQ2 GE429.out GE435.out)); (case side8 => exact HC434_1.out); (case side9 => exact Kd.C_below HR1.out (bQ2 GE429.out GE435.out)); (case side10 => exact HC1.out); (case side11 => first | exact hG_ | exact Glob.drewN hG_ _ | exact Glob.below hG_ (bQ2 GE429.out GE435.out)); rintro e w16 ⟨v437, rfl, ho0, hb⟩; refine ⟨_, rfl, ?_⟩; have n0_ := Aside0.mk (Kd.R_elder' (by (with_reducible repeat (first | apply Kd.R_alloc | apply Kd.R_drewN | apply Kd.R_drew)); exact (Kd.R_mono (Kd.R_far (p := ⟨gb435, 1, none⟩) (Kd.R_far (p := ⟨gb435, 0, none⟩) (Kd.R_types HO_5.out BK435.out (by decide)) (fun _ hk => hk.2) (.slice A434_0 ((rd_T118 l0_1 x15_1).f0).length c434_0)) (fun _ hk => hk.2) (.slice A434_1 ((rd_T118 l0_1 x15_1).f1).length c434_1)) (fun _ h_ => h_.1))) (Kd.R_base ho0) hb); have n1_ := Aside0.mk (Kd.R_lower (Kd.R_new' ho0 (Kd.R_lt (by (with_reducible repeat (first | apply Kd.R_alloc | apply Kd.R_drewN | apply Kd.R_drew)); exact (Kd.R_mono (Kd.R_far (p := ⟨gb435, 1, none⟩) (Kd.R_far (p := ⟨gb435, 0, none⟩) (Kd.R_types HO_5.out BK435.out (by decide)) (fun _ hk => hk.2) (.slice A434_0 ((rd_T118 l0_1 x15_1).f0).length c434_0)) (fun _ hk => hk.2) (.slice A434_1 ((rd_T118 l0_1 x15_1).f1).length c434_1)) (fun _ h_ => h_.1))))) (below_size (bQ2 GE429.out GE435.out))); have n2_ := Aside0.mk (blk_below (g := gb429) (o := .cells #[.slice A0_0 l0_0.length c0_0, .slice (some ad434) l0_1.length c0_1] 30 (0, 0)) (by (with_reducible repeat (first | refine blk_drewN ?_ _ | refine blk_drew ?_ | refine blk_alloc ?_ _)); refine blk_far ?_ NB429_435.out _; (with_reducible repeat (first | refine blk_drewN ?_ _ | refine blk_drew ?_ | refine blk_alloc ?_ _)); refine blk_far ?_ NB429_435.out _; (with_reducible repeat (first | refine blk_drewN ?_ _ | refine blk_drew ?_ | refine blk_alloc ?_ _)); exact BK429.out) hb); have n3_ := Aside0.mk (blk_below (g := gb435) (o := .cells #[.slice A434_0 ((rd_T118 l0_1 x15_1).f0).length c434_0, .slice A434_1 ((rd_T118 l0_1 x15_1).f1).length c434_1] 118 (0, 0)) (by (with_reducible repeat (first | refine blk_drewN ?_ _ | refine blk_drew ?_ | refine blk_alloc ?_ _)); refine blk_put (cs := #[.slice A434_0 ((rd_T118 l0_1 x15_1).f0).length c434_0, .slice none 0 0]) ?_ 1 _ rfl; (with_reducible repeat (first | refine blk_drewN ?_ _ | refine blk_drew ?_ | refine blk_alloc ?_ _)); refine blk_put (cs := #[.slice none 0 0, .slice none 0 0]) ?_ 0 _ rfl; (with_reducible repeat (first | refine blk_drewN ?_ _ | refine blk_drew ?_ | refine blk_alloc ?_ _)); exact BK435.out) hb); have n4_ := Aside0.mk (below_step (bQ2 GE429.out GE435.out) hb); clear HO_5; clear BK429; clear BK435; clear HB; have HO_5 := n0_; have HO438 := n1_; have BK429 := n2_; have BK435 := n3_; have HB := n4_; clear n0_ n1_ n2_ n3_ n4_; (try clear hb); (try clear hb2); (try clear hk); (try clear hi); (try clear ho0); have hcz17_0 : w16.cell? ⟨gb429, 0, none⟩ = some (.slice A0_0 l0_0.length c0_0) := (blk_cell BK429.out 0).trans rfl; have hcz17_1 : w16.cell? ⟨gb429, 1, none⟩ = some (.slice (some ad434) l0_1.length c0_1) := (blk_cell BK429.out 1).trans rfl; have hfz17_0 := blk_frozen BK429.out 0; have hfz17_1 := blk_frozen BK429.out 1; obtain ⟨Ao18, co18, eo18⟩ := Kd.R_slice HO438.out; subst eo18) | ((with_reducible refine gate_callee (f := 30) rfl ?_); refine goesL_ (some 30) rfl rfl Tryd.func30 (by kernel_rfl) rfl #[.agg #[.slice A0_0 l0_0.length c0_0, .slice (some ad434) l0_1.length c0_1], .slice Ao18 t436.length co18] rfl mQ ?_; (with_reducible refine (model_Code.calls k1 _ _ l0_0 _ _ l0_1 _ _ t436 t440 t441 _ ?side1 ?side2 ?side3 ?side4 ?side5 ?side6 ?side7 A10.out).mono ?_); (case side1 => exact cQ HR0_0.out); (case side2 => exact HC0_0.out); (case side3 => exact cQ HR0_1.out); (case side4 => exact HC0_1.out); (case side5 => repeat (first | exact (Kd.R_reads' HO438.out).2.2 | (with_reducible refine Kd.C_alloc ?_ _) | (with_reducible refine Kd.C_drewN ?_ _) | (with_reducible refine Kd.C_drew ?_))); (case side6 => exact (Kd.R_reads' HO438.out).2.1); (case side7 => first | exact hG_ | exact Glob.drewN hG_ _ | exact Glob.below hG_ (bQ2 GE429.out GE435.out)); rintro e w19 ⟨rfl, hb⟩; refine ⟨_, rfl, ?_⟩; have n0_ := Aside0.mk (Kd.R_below (rQR HO_5.out) hb); have n1_ := Aside0.mk (Kd.R_below (rQR HO438.out) hb); have n2_ := Aside0.mk (blk_below (kQ BK429.out) hb); have n3_ := Aside0.mk (blk_below (kQ BK435.out) hb); have n4_ := Aside0.mk (below_step (bQ2 GE429.out GE435.out) hb); clear HO_5; clear HO438; clear BK429; clear BK435; clear HB; have HO_5 := n0_; have HO438 := n1_; have BK429 := n2_; have BK435 := n3_; have HB := n4_; clear n0_ n1_ n2_ n3_ n4_; (try clear hb); (try clear hb2); (try clear hk); (try clear hi)) | ((with_reducible refine gate_builtin (b := .append) (xs := #[.tmp 33, .tmp 35]) rfl ?_); at_builtin; refine Kd.R_append (Kd.int .i64) (w0 := w) w.heap.size rfl (.tmp 33) (.tmp 35) 43 3 (.int .i64 0) 8 rfl Tryd.underlying43 info3 rfl (by decide) (by omega) u5 x5_1 t440 [.int .i64 t440] (fun k_ => some k_ ≠ (.slice Ao18 t436.length co18 : Value).ownBlock) (fun _ => False) rfl rfl ?aP (fun _ hk => hk.elim) ?aF ?aO ?aB ?aS ?aL ?_; (case aP => exact rfl); (case aB => exact (bQ2 GE429.out GE435.out)); (case aF => exact (fun k_ hk => Kd.fresh' (Kd.R_lt (rQR HO438.out)) k_ hk)); (case aO => exact (by (with_reducible repeat (first | apply Kd.R_alloc | apply Kd.R_drewN | apply Kd.R_drew)); exact Kd.R_mono HO_5.out (fun _ hk => hk.2))); (case aS => exact (below_size (bQ2 GE429.out GE435.out))); (case aL => have := LMc11.out; omega); intro v443 w20 ho hb hg hat; rw [← Ny442.out] at ho; have n0_ := Aside0.mk (blk_grown (g := gb429) (o := .cells #[.slice A0_0 l0_0.length c0_0, .slice (some ad434) l0_1.length c0_1] 30 (0, 0)) (kQ BK429.out) hg (Kd.R_ne HO_5.out BK429.out (by decide))); have n1_ := Aside0.mk (blk_grown (g := gb435) (o := .cells #[.slice A434_0 ((rd_T118 l0_1 x15_1).f0).length c434_0, .slice A434_1 ((rd_T118 l0_1 x15_1).f1).length c434_1] 118 (0, 0)) (kQ BK435.out) hg (Kd.R_ne HO_5.out BK435.out (by decide))); have n2_ := Aside0.mk (Kd.R_after (ok := (fun _ => True)) (rQR HO438.out) hg hat); have n3_ := Aside0.mk (hb); have n4_ := Aside0.mk (ho); clear BK429; clear BK435; clear HO438; clear HB; clear HO_5; have BK429 := n0_; have BK435 := n1_; have HO438 := n2_; have HB := n3_; have HO444 := n4_; clear n0_ n1_ n2_ n3_ n4_; clear ho hb hg hat))
   go_roundg k1
   case measure => have := HK1.out; omega
   case rel => exact ⟨(y442), (wrap64 (x15_1 + 1)), (by first | rfl | (simp; done) | (simp [*]; done)), H', ⟨by have := HK1.out; omega⟩, ⟨by (with_reducible repeat (first | apply Kd.R_alloc | apply Kd.R_drewN | apply Kd.R_drew)); exact Kd.R_mono HO444.out (fun _ hk => trivial)⟩, ⟨by (with_reducible repeat (first | refine blk_drewN ?_ _ | refine blk_drew ?_ | refine blk_alloc ?_ _)); exact BK429.out⟩, ⟨bQ2 GE429.out GE435.out⟩⟩

end Go.Proofs.YtbokbbcoekeoaaaDoor.P
end
