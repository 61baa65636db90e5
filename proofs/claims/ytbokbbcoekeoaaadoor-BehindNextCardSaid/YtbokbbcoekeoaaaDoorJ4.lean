-- PACKED by pack.py of this repo: FForetellkeepTruth FExprOp Shelf Sort Compact FLogicFits FTruthsIn FLogicPairKeeps FForetellkeepHas Q QTerm QTake QLies QVals QVars QGen QJoin QSrt QUniq QHas O
import Derived.WalkSpells
import Derived.Shelf.Strings.Search1
import Derived.Shelf.Strings.Search2
import Derived.Shelf.Strings.Search3
import Derived.Shelf.Sort.Plain
import Derived.Shelf.Slices.Clone
import Derived.Shelf.Slices.CompactI
import Derived.Shelf.Slices.SearchI
import Derived.Shelf.Slices.Cells
import Derived.Shelf.Slices.In.SortNone
import Derived.Test.YtbokbbcoekeoaaaDoorProg
import Derived.Sort.OwnSortedInts
import Derived.StillTailTactics
import Derived.Deep.QuietTactic
import Derived.BigQuiet
import Derived.OpenShut
import Derived.ProofKit
import Derived.Deep.Slices
import Derived.Test.YtbokbbcoekeoaaaDoorJ1
import Derived.Test.YtbokbbcoekeoaaaDoorJ3
import Derived.Test.YtbokbbcoekeoaaaDoorJ2
import Derived.Test.YtbokbbcoekeoaaaDoorJ0
section
namespace Go.Proofs.YtbokbbcoekeoaaaDoor.P
open Go.RowKit Go.Proofs.YtbokbbcoekeoaaaDoorW.PrintWords Go.Proofs.YtbokbbcoekeoaaaDoorW.PrintLast Go.Proofs.YtbokbbcoekeoaaaDoorW.PrintMore Go.Proofs.YtbokbbcoekeoaaaDoor.G
attribute [local go_sem] max2_int min2_int max_two min_two max_three min_three max_four min_four
set_option linter.unusedVariables false
set_option linter.unusedSimpArgs false

--IMPORT FGrownTake
--IMPORT Derived.WalkSpells
def foretellkeep_Truth.f (k : Nat) (l0 : List (S152)) (a1 : Int) : Option ((List (S72))) := (grown_truth.f k l0 a1 ⟨0, 0, []⟩ 3).bind fun st => some st.out
theorem foretellkeep_Truth.mono : ∀ a0 a1 k, LeO (foretellkeep_Truth.f k a0 a1) (foretellkeep_Truth.f (k + 1) a0 a1) := by
 intro a0 a1 k
 unfold foretellkeep_Truth.f
 exact LeO.bind (grown_truth.mono_f k _ _ _ _) (fun _ => LeO.refl _)
set_option maxHeartbeats 8000000 in
set_option maxRecDepth 100000 in
theorem foretellkeep_Truth.calls (k : Nat) (A0 : Option Addr) (c0 : Nat) (l0 : List (S152)) (a1 : Int) (r : List (S72)) (w : World) (hr0 : Kd.C k152 w A0 l0.length l0) (hc0 : l0.length ≤ c0) (h : foretellkeep_Truth.f k l0 a1 = some r) :
  Calls Tryd.prog 51 #[.slice A0 l0.length c0, .int .i64 a1] w fun e w' => ∃ v0_ : Value, e = .returned (v0_) ∧ Kd.R k72 72 w' w.heap.size (fun _ => True) v0_ r ∧ Below w.heap.size w w' := by
 have R0 := Aside0.mk hr0
 clear hr0 hc0
 unfold foretellkeep_Truth.f at h
 obtain ⟨st, h1, h⟩ := Option.bind_eq_some_iff.mp h
 obtain rfl := Option.some.inj h
 have H1 := Aside0.mk h1
 clear h h1
 go_enter Tryd.func51, Tryd.ntmps51
 go_wp2_with (first | ((with_reducible refine gate_dst (N := 9) rfl ?_); go_must (refine box_event ?hg (N := 9) ?hd (cs := #[.slice A0 l0.length c0, .int .i64 0, .int .i64 a1, .int .i64 0, .int .i64 0, .slice none 0 0]) (t := 128) ?hr ?_; (case hd => rfl); (case hg => rfl); (case hr => first | (go_simp; done) | (go_simp; rfl)); intro g hg w1 hbox hb; have HV := Aside0.mk (show GrownAt w w1 g A0 l0.length c0 a1 0 ⟨0, 0, []⟩ from ⟨_, hbox, Kd.R_nil _ _ _ _ _, hb⟩); have BG := Aside0.mk (show w.heap.size ≤ g by rw [hg]; exact Nat.le_refl _); clear hb hbox hg)) | (go_at_call 76; go_must (refine (grown_truth.calls w A0 c0 l0 g a1 0 R0.out BG.out k _ _ _ _ HV.out H1.out).mono ?_; rintro e w2 ⟨rfl, hv⟩; obtain ⟨vo, k2, ro, b2⟩ := hv; have K2 := Aside0.mk k2; have RO := Aside0.mk ro; have HB := Aside0.mk b2; clear k2 ro b2; have hcz5 : w2.cell? ⟨g, 5, none⟩ = some vo := (blk_cell K2.out 5).trans rfl)))
 go_ret
 exact ⟨_, rfl, RO.out, HB.out⟩

def expr_op.f (k : Nat) (a0_0 : Int) (a0_1 : Int) (a1 : Int) : Option (Int) := (expr_truth.f k a0_0).bind fun bt126 => (if bt126.2.2 = true then (if a0_0 = 1 then (if a0_1 < (-1000) then (some 2) else (if a0_1 > 1000 then (some 2) else (some 0))) else (if a0_0 = 2 then (if a0_1 < 0 then (some 2) else (if a0_1 > (wrap64 (a1 - 1)) then (some 2) else (some 0))) else (if a0_1 < 0 then (some 2) else (if a0_1 > 0 then (some 2) else (some 0))))) else (some 13))
theorem expr_op.mono : ∀ a0 a1 a2 k, LeO (expr_op.f k a0 a1 a2) (expr_op.f (k + 1) a0 a1 a2) := by
 intro a0 a1 a2 k
 unfold expr_op.f
 repeat' first
   | (with_reducible exact expr_truth.mono _ _)
   | (with_reducible exact LeO.refl _)
   | (with_reducible exact LeO.none _)
   | (with_reducible refine LeO.ite ?_ ?_)
   | (with_reducible refine LeO.bind ?_ (fun _ => ?_))
   | exact expr_truth.mono _ _
   | exact LeO.none _
   | refine LeO.ite ?_ ?_
   | refine LeO.bind ?_ (fun _ => ?_)
set_option maxHeartbeats 8000000 in
set_option maxRecDepth 100000 in
theorem expr_op.calls (k : Nat) (a0_0 : Int) (a0_1 : Int) (a1 : Int) (r : Int) (w : World) (h : expr_op.f k a0_0 a0_1 a1 = some r) :
  Calls Tryd.prog 100 #[.agg #[.int .i64 a0_0, .int .i64 a0_1], .int .i64 a1] w fun e w' => e = .returned (.int .i64 r) ∧ Below w.heap.size w w' := by
 have hu72 := Tryd.underlying72
 have HB := Aside0.mk (Below.refl w.heap.size w)
 have H : ((expr_truth.f k a0_0).bind fun bt126 => (if bt126.2.2 = true then (if a0_0 = 1 then (if a0_1 < (-1000) then (some 2) else (if a0_1 > 1000 then (some 2) else (some 0))) else (if a0_0 = 2 then (if a0_1 < 0 then (some 2) else (if a0_1 > (wrap64 (a1 - 1)) then (some 2) else (some 0))) else (if a0_1 < 0 then (some 2) else (if a0_1 > 0 then (some 2) else (some 0))))) else (some 13))) = some r := h
 clear h
 replace H := Option.bind_eq_some_iff.mp H
 obtain ⟨⟨t126, t127, t128⟩, A30, H⟩ := H
 replace H : (if t128 = true then (if a0_0 = 1 then (if a0_1 < (-1000) then (some 2) else (if a0_1 > 1000 then (some 2) else (some 0))) else (if a0_0 = 2 then (if a0_1 < 0 then (some 2) else (if a0_1 > (wrap64 (a1 - 1)) then (some 2) else (some 0))) else (if a0_1 < 0 then (some 2) else (if a0_1 > 0 then (some 2) else (some 0))))) else (some 13)) = some r := H
 have A3 := Aside0.mk A30
 clear A30
 by_cases c4 : t128 = true
 rotate_left
 ·
  replace c4 := Bool.eq_false_iff.mpr c4
  subst c4
  have H1 : (some 13) = some r := by rw [if_neg (show ¬ (false = true) by decide)] at H; exact H
  clear H
  have H := H1
  clear H1
  obtain rfl := Option.some.inj H
  go_enter Tryd.func100, Tryd.ntmps100
  go_wp2_with (first | ((with_reducible refine gate_dst (N := 2) rfl ?_); refine box_event ?hg (N := 2) ?hd (cs := #[.int .i64 a0_0, .int .i64 a0_1]) (t := 72) ?hr ?_; (case hd => rfl); (case hg => rfl); (case hr => first | (go_simp; done) | (go_simp; rfl)); intro gb125 hg w31 hbox hb; have n0_ := Aside0.mk (below_step (bQ) hb); have n1_ := Aside0.mk (hbox); have n2_ := Aside0.mk ((by rw [hg]; exact (below_size (bQ)) : w.heap.size ≤ gb125)); have n3_ := n2_; clear HB; have HB := n0_; have BK125 := n1_; have GW125 := n2_; have GE125 := n3_; clear n0_ n1_ n2_ n3_; clear hb hbox hg; have hcz32_0 : w31.cell? ⟨gb125, 0, none⟩ = some (.int .i64 a0_0) := (blk_cell BK125.out 0).trans rfl; have hcz32_1 : w31.cell? ⟨gb125, 1, none⟩ = some (.int .i64 a0_1) := (blk_cell BK125.out 1).trans rfl; have hfz32_0 := blk_frozen BK125.out 0; have hfz32_1 := blk_frozen BK125.out 1) | ((with_reducible refine gate_callee (f := 101) rfl ?_); refine goesL_ (some 13) rfl rfl Tryd.func101 (by kernel_rfl) rfl #[.int .i64 a0_0] rfl mQ ?_; (with_reducible refine (expr_truth.calls k a0_0 t126 t127 false _ A3.out).mono ?_); rintro e w' ⟨rfl, ⟨nd, rfl⟩⟩; refine ⟨_, rfl, ?_⟩))
  go_ret
  exact ⟨by first | rfl | (simp [errW_none, errW_some] <;> rfl) | (simp [*, errW_none, errW_some] <;> rfl), bQ1 GE125.out⟩
 subst c4
 have H1 : (if a0_0 = 1 then (if a0_1 < (-1000) then (some 2) else (if a0_1 > 1000 then (some 2) else (some 0))) else (if a0_0 = 2 then (if a0_1 < 0 then (some 2) else (if a0_1 > (wrap64 (a1 - 1)) then (some 2) else (some 0))) else (if a0_1 < 0 then (some 2) else (if a0_1 > 0 then (some 2) else (some 0))))) = some r := by rw [if_pos rfl] at H; exact H
 clear H
 have H := H1
 clear H1
 by_cases c5 : a0_0 = 1
 ·
  rw [if_pos c5] at H
  have c5b0 : (a0_0 == 1) = true := beq_iff_eq.mpr c5
  have c5b1 : (a0_0 != 1) = false := bne_eq_false_iff_eq.mpr c5
  clear c5
  by_cases c6 : a0_1 < (-1000)
  ·
   rw [if_pos c6] at H
   have c6b0 : decide (a0_1 < (-1000)) = true := decide_eq_true c6
   clear c6
   obtain rfl := Option.some.inj H
   go_enter Tryd.func100, Tryd.ntmps100
   go_wp2_with (first | ((with_reducible refine gate_dst (N := 2) rfl ?_); refine box_event ?hg (N := 2) ?hd (cs := #[.int .i64 a0_0, .int .i64 a0_1]) (t := 72) ?hr ?_; (case hd => rfl); (case hg => rfl); (case hr => first | (go_simp; done) | (go_simp; rfl)); intro gb125 hg w7 hbox hb; have n0_ := Aside0.mk (below_step (bQ) hb); have n1_ := Aside0.mk (hbox); have n2_ := Aside0.mk ((by rw [hg]; exact (below_size (bQ)) : w.heap.size ≤ gb125)); have n3_ := n2_; clear HB; have HB := n0_; have BK125 := n1_; have GW125 := n2_; have GE125 := n3_; clear n0_ n1_ n2_ n3_; clear hb hbox hg; have hcz8_0 : w7.cell? ⟨gb125, 0, none⟩ = some (.int .i64 a0_0) := (blk_cell BK125.out 0).trans rfl; have hcz8_1 : w7.cell? ⟨gb125, 1, none⟩ = some (.int .i64 a0_1) := (blk_cell BK125.out 1).trans rfl; have hfz8_0 := blk_frozen BK125.out 0; have hfz8_1 := blk_frozen BK125.out 1) | ((with_reducible refine gate_callee (f := 101) rfl ?_); refine goesL_ (some 13) rfl rfl Tryd.func101 (by kernel_rfl) rfl #[.int .i64 a0_0] rfl mQ ?_; (with_reducible refine (expr_truth.calls k a0_0 t126 t127 true _ A3.out).mono ?_); rintro e w' ⟨rfl, ⟨nd, rfl⟩⟩; refine ⟨_, rfl, ?_⟩))
   go_ret
   exact ⟨by first | rfl | (simp [errW_none, errW_some] <;> rfl) | (simp [*, errW_none, errW_some] <;> rfl), bQ1 GE125.out⟩
  rw [if_neg c6] at H
  have c6b0 : decide (a0_1 < (-1000)) = false := decide_eq_false c6
  clear c6
  by_cases c9 : a0_1 > 1000
  ·
   rw [if_pos c9] at H
   have c9b0 : decide (1000 < a0_1) = true := decide_eq_true c9
   clear c9
   obtain rfl := Option.some.inj H
   go_enter Tryd.func100, Tryd.ntmps100
   go_wp2_with (first | ((with_reducible refine gate_dst (N := 2) rfl ?_); refine box_event ?hg (N := 2) ?hd (cs := #[.int .i64 a0_0, .int .i64 a0_1]) (t := 72) ?hr ?_; (case hd => rfl); (case hg => rfl); (case hr => first | (go_simp; done) | (go_simp; rfl)); intro gb125 hg w10 hbox hb; have n0_ := Aside0.mk (below_step (bQ) hb); have n1_ := Aside0.mk (hbox); have n2_ := Aside0.mk ((by rw [hg]; exact (below_size (bQ)) : w.heap.size ≤ gb125)); have n3_ := n2_; clear HB; have HB := n0_; have BK125 := n1_; have GW125 := n2_; have GE125 := n3_; clear n0_ n1_ n2_ n3_; clear hb hbox hg; have hcz11_0 : w10.cell? ⟨gb125, 0, none⟩ = some (.int .i64 a0_0) := (blk_cell BK125.out 0).trans rfl; have hcz11_1 : w10.cell? ⟨gb125, 1, none⟩ = some (.int .i64 a0_1) := (blk_cell BK125.out 1).trans rfl; have hfz11_0 := blk_frozen BK125.out 0; have hfz11_1 := blk_frozen BK125.out 1) | ((with_reducible refine gate_callee (f := 101) rfl ?_); refine goesL_ (some 13) rfl rfl Tryd.func101 (by kernel_rfl) rfl #[.int .i64 a0_0] rfl mQ ?_; (with_reducible refine (expr_truth.calls k a0_0 t126 t127 true _ A3.out).mono ?_); rintro e w' ⟨rfl, ⟨nd, rfl⟩⟩; refine ⟨_, rfl, ?_⟩))
   go_ret
   exact ⟨by first | rfl | (simp [errW_none, errW_some] <;> rfl) | (simp [*, errW_none, errW_some] <;> rfl), bQ1 GE125.out⟩
  rw [if_neg c9] at H
  have c9b0 : decide (1000 < a0_1) = false := decide_eq_false c9
  clear c9
  obtain rfl := Option.some.inj H
  go_enter Tryd.func100, Tryd.ntmps100
  go_wp2_with (first | ((with_reducible refine gate_dst (N := 2) rfl ?_); refine box_event ?hg (N := 2) ?hd (cs := #[.int .i64 a0_0, .int .i64 a0_1]) (t := 72) ?hr ?_; (case hd => rfl); (case hg => rfl); (case hr => first | (go_simp; done) | (go_simp; rfl)); intro gb125 hg w12 hbox hb; have n0_ := Aside0.mk (below_step (bQ) hb); have n1_ := Aside0.mk (hbox); have n2_ := Aside0.mk ((by rw [hg]; exact (below_size (bQ)) : w.heap.size ≤ gb125)); have n3_ := n2_; clear HB; have HB := n0_; have BK125 := n1_; have GW125 := n2_; have GE125 := n3_; clear n0_ n1_ n2_ n3_; clear hb hbox hg; have hcz13_0 : w12.cell? ⟨gb125, 0, none⟩ = some (.int .i64 a0_0) := (blk_cell BK125.out 0).trans rfl; have hcz13_1 : w12.cell? ⟨gb125, 1, none⟩ = some (.int .i64 a0_1) := (blk_cell BK125.out 1).trans rfl; have hfz13_0 := blk_frozen BK125.out 0; have hfz13_1 := blk_frozen BK125.out 1) | ((with_reducible refine gate_callee (f := 101) rfl ?_); refine goesL_ (some 13) rfl rfl Tryd.func101 (by kernel_rfl) rfl #[.int .i64 a0_0] rfl mQ ?_; (with_reducible refine (expr_truth.calls k a0_0 t126 t127 true _ A3.out).mono ?_); rintro e w' ⟨rfl, ⟨nd, rfl⟩⟩; refine ⟨_, rfl, ?_⟩))
  go_ret
  exact ⟨by first | rfl | (simp [errW_none, errW_some] <;> rfl) | (simp [*, errW_none, errW_some] <;> rfl), bQ1 GE125.out⟩
 rw [if_neg c5] at H
 have c5b0 : (a0_0 == 1) = false := beq_eq_false_iff_ne.mpr c5
 have c5b1 : (a0_0 != 1) = true := bne_iff_ne.mpr c5
 by_cases c14 : a0_0 = 2
 rotate_left
 ·
  rw [if_neg c14] at H
  have c14b0 : (a0_0 == 2) = false := beq_eq_false_iff_ne.mpr c14
  have c14b1 : (a0_0 != 2) = true := bne_iff_ne.mpr c14
  by_cases c23 : a0_1 < 0
  ·
   rw [if_pos c23] at H
   have c23b0 : decide (a0_1 < 0) = true := decide_eq_true c23
   clear c23
   obtain rfl := Option.some.inj H
   go_enter Tryd.func100, Tryd.ntmps100
   go_wp2_with (first | ((with_reducible refine gate_dst (N := 2) rfl ?_); refine box_event ?hg (N := 2) ?hd (cs := #[.int .i64 a0_0, .int .i64 a0_1]) (t := 72) ?hr ?_; (case hd => rfl); (case hg => rfl); (case hr => first | (go_simp; done) | (go_simp; rfl)); intro gb125 hg w24 hbox hb; have n0_ := Aside0.mk (below_step (bQ) hb); have n1_ := Aside0.mk (hbox); have n2_ := Aside0.mk ((by rw [hg]; exact (below_size (bQ)) : w.heap.size ≤ gb125)); have n3_ := n2_; clear HB; have HB := n0_; have BK125 := n1_; have GW125 := n2_; have GE125 := n3_; clear n0_ n1_ n2_ n3_; clear hb hbox hg; have hcz25_0 : w24.cell? ⟨gb125, 0, none⟩ = some (.int .i64 a0_0) := (blk_cell BK125.out 0).trans rfl; have hcz25_1 : w24.cell? ⟨gb125, 1, none⟩ = some (.int .i64 a0_1) := (blk_cell BK125.out 1).trans rfl; have hfz25_0 := blk_frozen BK125.out 0; have hfz25_1 := blk_frozen BK125.out 1) | ((with_reducible refine gate_callee (f := 101) rfl ?_); refine goesL_ (some 13) rfl rfl Tryd.func101 (by kernel_rfl) rfl #[.int .i64 a0_0] rfl mQ ?_; (with_reducible refine (expr_truth.calls k a0_0 t126 t127 true _ A3.out).mono ?_); rintro e w' ⟨rfl, ⟨nd, rfl⟩⟩; refine ⟨_, rfl, ?_⟩))
   go_ret
   exact ⟨by first | rfl | (simp [errW_none, errW_some] <;> rfl) | (simp [*, errW_none, errW_some] <;> rfl), bQ1 GE125.out⟩
  rw [if_neg c23] at H
  have c23b0 : decide (a0_1 < 0) = false := decide_eq_false c23
  clear c23
  by_cases c26 : a0_1 > 0
  ·
   rw [if_pos c26] at H
   have c26b0 : decide (0 < a0_1) = true := decide_eq_true c26
   clear c26
   obtain rfl := Option.some.inj H
   go_enter Tryd.func100, Tryd.ntmps100
   go_wp2_with (first | ((with_reducible refine gate_dst (N := 2) rfl ?_); refine box_event ?hg (N := 2) ?hd (cs := #[.int .i64 a0_0, .int .i64 a0_1]) (t := 72) ?hr ?_; (case hd => rfl); (case hg => rfl); (case hr => first | (go_simp; done) | (go_simp; rfl)); intro gb125 hg w27 hbox hb; have n0_ := Aside0.mk (below_step (bQ) hb); have n1_ := Aside0.mk (hbox); have n2_ := Aside0.mk ((by rw [hg]; exact (below_size (bQ)) : w.heap.size ≤ gb125)); have n3_ := n2_; clear HB; have HB := n0_; have BK125 := n1_; have GW125 := n2_; have GE125 := n3_; clear n0_ n1_ n2_ n3_; clear hb hbox hg; have hcz28_0 : w27.cell? ⟨gb125, 0, none⟩ = some (.int .i64 a0_0) := (blk_cell BK125.out 0).trans rfl; have hcz28_1 : w27.cell? ⟨gb125, 1, none⟩ = some (.int .i64 a0_1) := (blk_cell BK125.out 1).trans rfl; have hfz28_0 := blk_frozen BK125.out 0; have hfz28_1 := blk_frozen BK125.out 1) | ((with_reducible refine gate_callee (f := 101) rfl ?_); refine goesL_ (some 13) rfl rfl Tryd.func101 (by kernel_rfl) rfl #[.int .i64 a0_0] rfl mQ ?_; (with_reducible refine (expr_truth.calls k a0_0 t126 t127 true _ A3.out).mono ?_); rintro e w' ⟨rfl, ⟨nd, rfl⟩⟩; refine ⟨_, rfl, ?_⟩))
   go_ret
   exact ⟨by first | rfl | (simp [errW_none, errW_some] <;> rfl) | (simp [*, errW_none, errW_some] <;> rfl), bQ1 GE125.out⟩
  rw [if_neg c26] at H
  have c26b0 : decide (0 < a0_1) = false := decide_eq_false c26
  clear c26
  obtain rfl := Option.some.inj H
  go_enter Tryd.func100, Tryd.ntmps100
  go_wp2_with (first | ((with_reducible refine gate_dst (N := 2) rfl ?_); refine box_event ?hg (N := 2) ?hd (cs := #[.int .i64 a0_0, .int .i64 a0_1]) (t := 72) ?hr ?_; (case hd => rfl); (case hg => rfl); (case hr => first | (go_simp; done) | (go_simp; rfl)); intro gb125 hg w29 hbox hb; have n0_ := Aside0.mk (below_step (bQ) hb); have n1_ := Aside0.mk (hbox); have n2_ := Aside0.mk ((by rw [hg]; exact (below_size (bQ)) : w.heap.size ≤ gb125)); have n3_ := n2_; clear HB; have HB := n0_; have BK125 := n1_; have GW125 := n2_; have GE125 := n3_; clear n0_ n1_ n2_ n3_; clear hb hbox hg; have hcz30_0 : w29.cell? ⟨gb125, 0, none⟩ = some (.int .i64 a0_0) := (blk_cell BK125.out 0).trans rfl; have hcz30_1 : w29.cell? ⟨gb125, 1, none⟩ = some (.int .i64 a0_1) := (blk_cell BK125.out 1).trans rfl; have hfz30_0 := blk_frozen BK125.out 0; have hfz30_1 := blk_frozen BK125.out 1) | ((with_reducible refine gate_callee (f := 101) rfl ?_); refine goesL_ (some 13) rfl rfl Tryd.func101 (by kernel_rfl) rfl #[.int .i64 a0_0] rfl mQ ?_; (with_reducible refine (expr_truth.calls k a0_0 t126 t127 true _ A3.out).mono ?_); rintro e w' ⟨rfl, ⟨nd, rfl⟩⟩; refine ⟨_, rfl, ?_⟩))
  go_ret
  exact ⟨by first | rfl | (simp [errW_none, errW_some] <;> rfl) | (simp [*, errW_none, errW_some] <;> rfl), bQ1 GE125.out⟩
 rw [if_pos c14] at H
 have c14b0 : (a0_0 == 2) = true := beq_iff_eq.mpr c14
 have c14b1 : (a0_0 != 2) = false := bne_eq_false_iff_eq.mpr c14
 clear c14
 by_cases c15 : a0_1 < 0
 ·
  rw [if_pos c15] at H
  have c15b0 : decide (a0_1 < 0) = true := decide_eq_true c15
  clear c15
  obtain rfl := Option.some.inj H
  go_enter Tryd.func100, Tryd.ntmps100
  go_wp2_with (first | ((with_reducible refine gate_dst (N := 2) rfl ?_); refine box_event ?hg (N := 2) ?hd (cs := #[.int .i64 a0_0, .int .i64 a0_1]) (t := 72) ?hr ?_; (case hd => rfl); (case hg => rfl); (case hr => first | (go_simp; done) | (go_simp; rfl)); intro gb125 hg w16 hbox hb; have n0_ := Aside0.mk (below_step (bQ) hb); have n1_ := Aside0.mk (hbox); have n2_ := Aside0.mk ((by rw [hg]; exact (below_size (bQ)) : w.heap.size ≤ gb125)); have n3_ := n2_; clear HB; have HB := n0_; have BK125 := n1_; have GW125 := n2_; have GE125 := n3_; clear n0_ n1_ n2_ n3_; clear hb hbox hg; have hcz17_0 : w16.cell? ⟨gb125, 0, none⟩ = some (.int .i64 a0_0) := (blk_cell BK125.out 0).trans rfl; have hcz17_1 : w16.cell? ⟨gb125, 1, none⟩ = some (.int .i64 a0_1) := (blk_cell BK125.out 1).trans rfl; have hfz17_0 := blk_frozen BK125.out 0; have hfz17_1 := blk_frozen BK125.out 1) | ((with_reducible refine gate_callee (f := 101) rfl ?_); refine goesL_ (some 13) rfl rfl Tryd.func101 (by kernel_rfl) rfl #[.int .i64 a0_0] rfl mQ ?_; (with_reducible refine (expr_truth.calls k a0_0 t126 t127 true _ A3.out).mono ?_); rintro e w' ⟨rfl, ⟨nd, rfl⟩⟩; refine ⟨_, rfl, ?_⟩))
  go_ret
  exact ⟨by first | rfl | (simp [errW_none, errW_some] <;> rfl) | (simp [*, errW_none, errW_some] <;> rfl), bQ1 GE125.out⟩
 rw [if_neg c15] at H
 have c15b0 : decide (a0_1 < 0) = false := decide_eq_false c15
 clear c15
 by_cases c18 : a0_1 > (wrap64 (a1 - 1))
 ·
  rw [if_pos c18] at H
  have c18b0 : decide ((wrap64 (a1 - 1)) < a0_1) = true := decide_eq_true c18
  clear c18
  obtain rfl := Option.some.inj H
  go_enter Tryd.func100, Tryd.ntmps100
  go_wp2_with (first | ((with_reducible refine gate_dst (N := 2) rfl ?_); refine box_event ?hg (N := 2) ?hd (cs := #[.int .i64 a0_0, .int .i64 a0_1]) (t := 72) ?hr ?_; (case hd => rfl); (case hg => rfl); (case hr => first | (go_simp; done) | (go_simp; rfl)); intro gb125 hg w19 hbox hb; have n0_ := Aside0.mk (below_step (bQ) hb); have n1_ := Aside0.mk (hbox); have n2_ := Aside0.mk ((by rw [hg]; exact (below_size (bQ)) : w.heap.size ≤ gb125)); have n3_ := n2_; clear HB; have HB := n0_; have BK125 := n1_; have GW125 := n2_; have GE125 := n3_; clear n0_ n1_ n2_ n3_; clear hb hbox hg; have hcz20_0 : w19.cell? ⟨gb125, 0, none⟩ = some (.int .i64 a0_0) := (blk_cell BK125.out 0).trans rfl; have hcz20_1 : w19.cell? ⟨gb125, 1, none⟩ = some (.int .i64 a0_1) := (blk_cell BK125.out 1).trans rfl; have hfz20_0 := blk_frozen BK125.out 0; have hfz20_1 := blk_frozen BK125.out 1) | ((with_reducible refine gate_callee (f := 101) rfl ?_); refine goesL_ (some 13) rfl rfl Tryd.func101 (by kernel_rfl) rfl #[.int .i64 a0_0] rfl mQ ?_; (with_reducible refine (expr_truth.calls k a0_0 t126 t127 true _ A3.out).mono ?_); rintro e w' ⟨rfl, ⟨nd, rfl⟩⟩; refine ⟨_, rfl, ?_⟩))
  go_ret
  exact ⟨by first | rfl | (simp [errW_none, errW_some] <;> rfl) | (simp [*, errW_none, errW_some] <;> rfl), bQ1 GE125.out⟩
 rw [if_neg c18] at H
 have c18b0 : decide ((wrap64 (a1 - 1)) < a0_1) = false := decide_eq_false c18
 clear c18
 obtain rfl := Option.some.inj H
 go_enter Tryd.func100, Tryd.ntmps100
 go_wp2_with (first | ((with_reducible refine gate_dst (N := 2) rfl ?_); refine box_event ?hg (N := 2) ?hd (cs := #[.int .i64 a0_0, .int .i64 a0_1]) (t := 72) ?hr ?_; (case hd => rfl); (case hg => rfl); (case hr => first | (go_simp; done) | (go_simp; rfl)); intro gb125 hg w21 hbox hb; have n0_ := Aside0.mk (below_step (bQ) hb); have n1_ := Aside0.mk (hbox); have n2_ := Aside0.mk ((by rw [hg]; exact (below_size (bQ)) : w.heap.size ≤ gb125)); have n3_ := n2_; clear HB; have HB := n0_; have BK125 := n1_; have GW125 := n2_; have GE125 := n3_; clear n0_ n1_ n2_ n3_; clear hb hbox hg; have hcz22_0 : w21.cell? ⟨gb125, 0, none⟩ = some (.int .i64 a0_0) := (blk_cell BK125.out 0).trans rfl; have hcz22_1 : w21.cell? ⟨gb125, 1, none⟩ = some (.int .i64 a0_1) := (blk_cell BK125.out 1).trans rfl; have hfz22_0 := blk_frozen BK125.out 0; have hfz22_1 := blk_frozen BK125.out 1) | ((with_reducible refine gate_callee (f := 101) rfl ?_); refine goesL_ (some 13) rfl rfl Tryd.func101 (by kernel_rfl) rfl #[.int .i64 a0_0] rfl mQ ?_; (with_reducible refine (expr_truth.calls k a0_0 t126 t127 true _ A3.out).mono ?_); rintro e w' ⟨rfl, ⟨nd, rfl⟩⟩; refine ⟨_, rfl, ?_⟩))
 go_ret
 exact ⟨by first | rfl | (simp [errW_none, errW_some] <;> rfl) | (simp [*, errW_none, errW_some] <;> rfl), bQ1 GE125.out⟩

end Go.Proofs.YtbokbbcoekeoaaaDoor.P
end
section
/- The library's contracts at this program, laid by the kit's shelf in plain words; what this seat needs of them. -/
namespace Go.Proofs
open Go.Shelf
def Tryd.lays189_ren : Go.Shelf.Ren := ⟨fun | 189 => 61 | 125 => 89 | 257 => 88 | 128 => 120 | 129 => 121 | 294 => 111 | 295 => 112 | 296 => 113 | 297 => 114 | 298 => 115 | 299 => 116 | 216 => 117 | 300 => 118 | 301 => 119 | 328 => 137 | 329 => 138 | 330 => 139 | 331 => 140 | 332 => 141 | 215 => 142 | 343 => 155 | n => n, fun | 28 => 43 | 3 => 3 | 46 => 171 | 0 => 0 | 51 => 194 | 53 => 196 | 4 => 4 | 183 => 187 | 182 => 186 | 131 => 89 | 5 => 5 | 9 => 9 | 218 => 212 | 222 => 216 | 228 => 226 | 229 => 227 | n => n, fun | n => n⟩
theorem Tryd.lays189 : Go.Proofs.Lays.n189 Tryd.prog Tryd.lays189_ren := {
  mixed := by kernel_rfl
  f125 := Tryd.func89.trans (congrArg some (by kernel_rfl))
  f128 := Tryd.func120.trans (congrArg some (by kernel_rfl))
  f129 := Tryd.func121.trans (congrArg some (by kernel_rfl))
  f189 := Tryd.func61.trans (congrArg some (by kernel_rfl))
  f215 := Tryd.func142.trans (congrArg some (by kernel_rfl))
  f216 := Tryd.func117.trans (congrArg some (by kernel_rfl))
  f257 := Tryd.func88.trans (congrArg some (by kernel_rfl))
  f294 := Tryd.func111.trans (congrArg some (by kernel_rfl))
  f295 := Tryd.func112.trans (congrArg some (by kernel_rfl))
  f296 := Tryd.func113.trans (congrArg some (by kernel_rfl))
  f297 := Tryd.func114.trans (congrArg some (by kernel_rfl))
  f298 := Tryd.func115.trans (congrArg some (by kernel_rfl))
  f299 := Tryd.func116.trans (congrArg some (by kernel_rfl))
  f300 := Tryd.func118.trans (congrArg some (by kernel_rfl))
  f301 := Tryd.func119.trans (congrArg some (by kernel_rfl))
  f328 := Tryd.func137.trans (congrArg some (by kernel_rfl))
  f329 := Tryd.func138.trans (congrArg some (by kernel_rfl))
  f330 := Tryd.func139.trans (congrArg some (by kernel_rfl))
  f331 := Tryd.func140.trans (congrArg some (by kernel_rfl))
  f332 := Tryd.func141.trans (congrArg some (by kernel_rfl))
  f343 := Tryd.func155.trans (congrArg some (by kernel_rfl))
  t0 := Tryd.underlying0
  a0 := Tryd.isAgg0
  z0 := Tryd.sizeOf0
  v0 := Tryd.zeroValue0
  t3 := Tryd.underlying3
  a3 := Tryd.isAgg3
  z3 := Tryd.sizeOf3
  v3 := Tryd.zeroValue3
  t4 := Tryd.underlying4
  a4 := Tryd.isAgg4
  z4 := Tryd.sizeOf4
  v4 := Tryd.zeroValue4
  t5 := Tryd.underlying5
  a5 := Tryd.isAgg5
  z5 := Tryd.sizeOf5
  v5 := Tryd.zeroValue5
  t9 := Tryd.underlying9
  a9 := Tryd.isAgg9
  z9 := Tryd.sizeOf9
  v9 := Tryd.zeroValue9
  t28 := Tryd.underlying43
  a28 := Tryd.isAgg43
  z28 := Tryd.sizeOf43
  v28 := Tryd.zeroValue43
  t46 := Tryd.underlying171
  a46 := Tryd.isAgg171
  z46 := Tryd.sizeOf171
  v46 := Tryd.zeroValue171
  t51 := Tryd.underlying194
  a51 := Tryd.isAgg194
  z51 := Tryd.sizeOf194
  v51 := Tryd.zeroValue194
  t53 := Tryd.underlying196
  a53 := Tryd.isAgg196
  z53 := Tryd.sizeOf196
  v53 := Tryd.zeroValue196
  t131 := Tryd.underlying89
  a131 := Tryd.isAgg89
  z131 := Tryd.sizeOf89
  v131 := Tryd.zeroValue89
  t182 := Tryd.underlying186
  a182 := Tryd.isAgg186
  z182 := Tryd.sizeOf186
  v182 := Tryd.zeroValue186
  t183 := Tryd.underlying187
  a183 := Tryd.isAgg187
  z183 := Tryd.sizeOf187
  v183 := Tryd.zeroValue187
  t218 := Tryd.underlying212
  a218 := Tryd.isAgg212
  z218 := Tryd.sizeOf212
  v218 := Tryd.zeroValue212
  t222 := Tryd.underlying216
  a222 := Tryd.isAgg216
  z222 := Tryd.sizeOf216
  v222 := Tryd.zeroValue216
  t228 := Tryd.underlying226
  a228 := Tryd.isAgg226
  z228 := Tryd.sizeOf226
  v228 := Tryd.zeroValue226
  t229 := Tryd.underlying227
  a229 := Tryd.isAgg227
  z229 := Tryd.sizeOf227
  v229 := Tryd.zeroValue227 }
def Tryd.laysNm220_ren : Go.Shelf.Ren := ⟨fun | 20 => 62 | n => n, fun | 22 => 43 | 3 => 3 | 4 => 4 | 0 => 0 | n => n, fun | n => n⟩
theorem Tryd.laysNm220 : Go.Proofs.Lays2.n20 Tryd.prog Tryd.laysNm220_ren := {
  mixed := by kernel_rfl
  f20 := Tryd.func62.trans (congrArg some (by kernel_rfl))
  t0 := Tryd.underlying0
  a0 := Tryd.isAgg0
  z0 := Tryd.sizeOf0
  v0 := Tryd.zeroValue0
  t3 := Tryd.underlying3
  a3 := Tryd.isAgg3
  z3 := Tryd.sizeOf3
  v3 := Tryd.zeroValue3
  t4 := Tryd.underlying4
  a4 := Tryd.isAgg4
  z4 := Tryd.sizeOf4
  v4 := Tryd.zeroValue4
  t22 := Tryd.underlying43
  a22 := Tryd.isAgg43
  z22 := Tryd.sizeOf43
  v22 := Tryd.zeroValue43
  i3 := by kernel_rfl }
open Go.Sort Go.RowKit in
theorem Tryd.slices_Sort_int (blk off cap : Nat) (zs : List Int) (w : World) (hH : Holds (Value.int .i64) w blk off zs.toArray) (hblk : blk < w.heap.size) (hsz : zs.length < 4611686018427387904) :
    Calls Tryd.prog 61 #[.slice (some ⟨blk, off, none⟩) zs.length cap] w fun e w' =>
      e = .returned (.tuple #[]) ∧ ∃ n os, w' = grow (putRow (Value.int .i64) (Sort.ahead w n) blk off (zs.mergeSort fun x y => decide (x ≤ y)).toArray) os := Any.slices_Sort_int Tryd.lays189 blk off cap zs w hH hblk hsz
open Go.RowKit Go.Lib Go.Sort in
theorem Tryd.slices_Compact_int_arr (blk off cap : Nat) (d : Array Int) (w : World) (hH : Holds encI w blk off d) (hsz : d.size ≤ 9223372036854775807) (hcap : d.size ≤ cap) :
    Calls Tryd.prog 62 #[.slice (some ⟨blk, off, none⟩) d.size cap] w fun e w' => e = .returned (.slice (some ⟨blk, off, none⟩) (compactUpTo d d.size).length cap) ∧ ∃ q, w' = putRow encI (Sort.ahead w q) blk off (compactUpTo d d.size ++ List.replicate (d.size - (compactUpTo d d.size).length) 0).toArray := Any.slices_Compact_int_arr Tryd.laysNm220 blk off cap d w hH hsz hcap
open Go.RowKit Go.Lib Go.Sort in
theorem Tryd.slices_Compact_int (blk off cap : Nat) (zs : List Int) (w : World) (hH : Holds (Value.int .i64) w blk off zs.toArray) (hsz : zs.length ≤ 9223372036854775807) (hcap : zs.length ≤ cap) :
    Calls Tryd.prog 62 #[.slice (some ⟨blk, off, none⟩) zs.length cap] w fun e w' => e = .returned (.slice (some ⟨blk, off, none⟩) (Lib.compact zs).length cap) ∧ ∃ q, w' = putRow (Value.int .i64) (Sort.ahead w q) blk off (Lib.compact zs ++ List.replicate (zs.length - (Lib.compact zs).length) 0).toArray := Any.slices_Compact_int Tryd.laysNm220 blk off cap zs w hH hsz hcap
open Go.RowKit Go.Lib Go.Sort in
theorem Tryd.slices_Compact_int_empty (a : Option Addr) (cap : Nat) (w : World) :
    Calls Tryd.prog 62 #[.slice a 0 cap] w fun e w' => e = .returned (.slice a 0 cap) ∧ w' = w := Any.slices_Compact_int_empty Tryd.laysNm220 a cap w
open Go.RowKit Go.Lib Go.Sort in
theorem Tryd.slices_Compact_int_cells (b off n c : Nat) (zs : List Int) (w : World) (hz : n ≤ zs.length) (hbig : n ≤ 9223372036854775807) (hcap : n ≤ c) (hc : ∀ j, j < zs.length → w.cell? ⟨b, off + j, none⟩ = some (.int .i64 (zs.getD j 0))) (hf : ∀ j, j < n → w.frozen? ⟨b, off + j, none⟩ = false) :
    Calls Tryd.prog 62 #[.slice (some ⟨b, off, none⟩) n c] w fun e w' => e = .returned (.slice (some ⟨b, off, none⟩) (Lib.compact (zs.take n)).length c) ∧ ∃ q, w' = (w.drewN q).setCells b off ((Lib.compact (zs.take n) ++ List.replicate (n - (Lib.compact (zs.take n)).length) 0).map (Value.int .i64)) := Any.slices_Compact_int_cells Tryd.laysNm220 b off n c zs w hz hbig hcap hc hf
open Go.RowKit Go.Sort in
theorem Tryd.slices_Sort_int_none (p : Option Addr) (cap : Nat) (w : World) :
    Calls Tryd.prog 61 #[.slice p 0 cap] w fun e w' => e = .returned (.tuple #[]) ∧ w' = w := Any.slices_Sort_int_none Tryd.lays189 p cap w
end Go.Proofs
end
section
/- slices.Sort at []int over a row of the call's own. -/
namespace Go.Proofs.YtbokbbcoekeoaaaDoor.P
open Go.RowKit Go.Sort Go.Proofs Go.Proofs.YtbokbbcoekeoaaaDoorW.PrintWords Go.Proofs.YtbokbbcoekeoaaaDoorW.PrintLast Go.Proofs.YtbokbbcoekeoaaaDoorW.PrintMore Go.Proofs.YtbokbbcoekeoaaaDoor.G
set_option linter.unusedVariables false
/-- The list, sorted. -/
def srt (l : List Int) : List Int := l.mergeSort fun x y => decide (x ≤ y)
theorem srt_len (l : List Int) : (srt l).length = l.length := List.length_mergeSort ..
theorem srt_nil : srt [] = [] := by simp [srt]
theorem sort_own {A : Option Addr} {c base : Nat} {ok : Nat → Prop} {l : List Int} {w0 w : World} (h : Kd.R (Kd.int .i64) 3 w base ok (.slice A l.length c) l) (hb : Below base w0 w) (hl : l.length < 17592186044416) :
    Calls Tryd.prog 61 #[.slice A l.length c] w fun e w' => e = .returned (.tuple #[]) ∧ Kd.R (Kd.int .i64) 3 w' base ok (.slice A l.length c) (srt l) ∧ Below base w0 w' ∧ w.grownBy w' (Value.slice A l.length c).ownBlock := by
  have own := Kd.own_of_R h
  have hrefl : w.grownBy w (Value.slice A l.length c).ownBlock := ⟨rfl, rfl, rfl, Nat.le_refl _, fun _ _ _ => rfl⟩
  rcases Nat.eq_zero_or_pos l.length with h0 | h0
  · have hnil : l = [] := List.eq_nil_of_length_eq_zero h0
    subst hnil
    refine (Tryd.slices_Sort_int_none A c w).mono ?_
    rintro e w' ⟨rfl, rfl⟩
    exact ⟨rfl, by rw [srt_nil]; exact h, hb, hrefl⟩
  · rcases own.2 with ⟨_, hn⟩ | ⟨g, cap, cur, hv, hg, hh, hn, hcap, hsz, ht⟩
    · omega
    · cases hv
      have hlt : g < w.heap.size := (Array.getElem?_eq_some_iff.1 hh).1
      have hH : Holds (Value.int .i64) w g 0 l.toArray := holds_of_blockI hh (by rw [Nat.mul_one] at ht; exact ht)
      refine (Tryd.slices_Sort_int g 0 c l w hH hlt (by omega)).mono ?_
      rintro e w' ⟨rfl, n, os, rfl⟩
      have hrow := ownsRow_sortedI (n := n) (os := os) (ss := l) (ts := srt l) (srt_len l) hg hh hn hcap hsz
      have hgr : w.grownBy (grow (putRow (Value.int .i64) (Sort.ahead w n) g 0 (srt l).toArray) os) (some g) := grownBy_sortedI _
      exact ⟨rfl, Kd.R_of_own (by rw [srt_len]; exact hrow) h.1, hb.grown hgr (Nat.le_trans hg (Nat.le_of_lt hlt)) (fun k hk => by obtain rfl := Option.some.inj hk; exact hg), hgr⟩
end Go.Proofs.YtbokbbcoekeoaaaDoor.P
end
section
/- slices.Compact at []int over a row of the call's own. -/
namespace Go.Proofs.YtbokbbcoekeoaaaDoor.P
open Go.RowKit Go.Sort Go.Proofs Go.Proofs.YtbokbbcoekeoaaaDoorW.PrintWords Go.Proofs.YtbokbbcoekeoaaaDoorW.PrintLast Go.Proofs.YtbokbbcoekeoaaaDoorW.PrintMore Go.Proofs.YtbokbbcoekeoaaaDoor.G
set_option linter.unusedVariables false
/-- The list, sorted, each number once. -/
def uniq (l : List Int) : List Int := Lib.compact (srt l)
theorem uniq_nil : uniq [] = [] := by unfold uniq; rw [srt_nil]; rfl
theorem compact_len (l : List Int) : (Lib.compact l).length ≤ l.length := by
  unfold Lib.compact Lib.compactUpTo
  rw [List.length_map]
  exact Nat.le_trans (List.length_filter_le ..) (by simp)
theorem compact_own {A : Option Addr} {c base : Nat} {ok : Nat → Prop} {l : List Int} {n : Nat} {w0 w : World} (h : Kd.R (Kd.int .i64) 3 w base ok (.slice A n c) l) (hn : n = l.length) (hb : Below base w0 w) (hl : l.length < 17592186044416) :
    Calls Tryd.prog 62 #[.slice A n c] w fun e w' => ∃ v, e = .returned v ∧ Kd.R (Kd.int .i64) 3 w' base ok v (Lib.compact l) ∧ Below base w0 w' ∧ w.grownBy w' (Value.slice A n c).ownBlock := by
  subst hn
  have own := Kd.own_of_R h
  have hrefl : w.grownBy w (Value.slice A l.length c).ownBlock := ⟨rfl, rfl, rfl, Nat.le_refl _, fun _ _ _ => rfl⟩
  rcases Nat.eq_zero_or_pos l.length with h0 | h0
  · have hnil : l = [] := List.eq_nil_of_length_eq_zero h0
    subst hnil
    refine (Tryd.slices_Compact_int_empty A c w).mono ?_
    rintro e w' ⟨rfl, rfl⟩
    exact ⟨_, rfl, h, hb, hrefl⟩
  · rcases own.2 with ⟨_, hn⟩ | ⟨g, cap, cur, hv, hg, hh, hn, hcap, hsz, ht⟩
    · omega
    · cases hv
      have hlt : g < w.heap.size := (Array.getElem?_eq_some_iff.1 hh).1
      have hH : Holds (Value.int .i64) w g 0 l.toArray := holds_of_blockI hh (by rw [Nat.mul_one] at ht; exact ht)
      have hcl := compact_len l
      refine (Tryd.slices_Compact_int g 0 c l w hH (by omega) hn).mono ?_
      rintro e w' ⟨rfl, q, rfl⟩
      have hlen : (Lib.compact l ++ List.replicate (l.length - (Lib.compact l).length) 0).length = l.length := by simp; omega
      have hrow := ownsRow_sortedI (n := q) (os := #[]) (ss := l) (ts := Lib.compact l ++ List.replicate (l.length - (Lib.compact l).length) 0) hlen hg hh hn hcap hsz
      have hgr : w.grownBy (grow (putRow (Value.int .i64) (Sort.ahead w q) g 0 (Lib.compact l ++ List.replicate (l.length - (Lib.compact l).length) 0).toArray) #[]) (some g) := grownBy_sortedI _
      have e0 : ∀ W : World, grow W #[] = W := fun W => by simp [grow]
      rw [e0] at hrow hgr
      have hR := Kd.R_of_own (h1 := fun _ => rfl) (by rw [hlen]; exact hrow) h.1
      have hT := Kd.R_take (m := (Lib.compact l).length) hR (by simp)
      rw [List.take_append_of_le_length (Nat.le_refl _), List.take_length] at hT
      exact ⟨_, rfl, hT, hb.grown hgr (Nat.le_trans hg (Nat.le_of_lt hlt)) (fun k hk => by obtain rfl := Option.some.inj hk; exact hg), hgr⟩
end Go.Proofs.YtbokbbcoekeoaaaDoor.P
end
section
namespace Go.Proofs.YtbokbbcoekeoaaaDoor.P
open Go.RowKit Go.Proofs.YtbokbbcoekeoaaaDoorW.PrintWords Go.Proofs.YtbokbbcoekeoaaaDoorW.PrintLast Go.Proofs.YtbokbbcoekeoaaaDoorW.PrintMore Go.Proofs.YtbokbbcoekeoaaaDoor.G
attribute [local go_sem] max2_int min2_int max_two min_two max_three min_three max_four min_four
set_option linter.unusedVariables false
set_option linter.unusedSimpArgs false

def logic_fits.f (a0_0 : Int) (a0_1 : Int) (a1 : Int) : Option (Int) := if a0_0 < 8 then (some 13) else (if a0_0 = 13 then (if a0_1 < 0 then (some 2) else (if a0_1 ≥ a1 then (some 2) else (some 0))) else (if a0_1 = 0 then (some 0) else (some 2)))
set_option maxHeartbeats 8000000 in
set_option maxRecDepth 100000 in
theorem logic_fits.calls (a0_0 : Int) (a0_1 : Int) (a1 : Int) (r : Int) (w : World) (h : logic_fits.f a0_0 a0_1 a1 = some r) :
  Calls Tryd.prog 66 #[.agg #[.int .i64 a0_0, .int .i64 a0_1], .int .i64 a1] w fun e w' => e = .returned (.int .i64 r) ∧ Below w.heap.size w w' := by
 have hu72 := Tryd.underlying72
 have HB := Aside0.mk (Below.refl w.heap.size w)
 have H : (if a0_0 < 8 then (some 13) else (if a0_0 = 13 then (if a0_1 < 0 then (some 2) else (if a0_1 ≥ a1 then (some 2) else (some 0))) else (if a0_1 = 0 then (some 0) else (some 2)))) = some r := h
 clear h
 by_cases c3 : a0_0 < 8
 ·
  rw [if_pos c3] at H
  have c3b0 : decide (a0_0 < 8) = true := decide_eq_true c3
  clear c3
  obtain rfl := Option.some.inj H
  go_enter Tryd.func66, Tryd.ntmps66
  go_wp2_with (first | ((with_reducible refine gate_dst (N := 2) rfl ?_); refine box_event ?hg (N := 2) ?hd (cs := #[.int .i64 a0_0, .int .i64 a0_1]) (t := 72) ?hr ?_; (case hd => rfl); (case hg => rfl); (case hr => first | (go_simp; done) | (go_simp; rfl)); intro gb177 hg w4 hbox hb; have n0_ := Aside0.mk (below_step (bQ) hb); have n1_ := Aside0.mk (hbox); have n2_ := Aside0.mk ((by rw [hg]; exact (below_size (bQ)) : w.heap.size ≤ gb177)); have n3_ := n2_; clear HB; have HB := n0_; have BK177 := n1_; have GW177 := n2_; have GE177 := n3_; clear n0_ n1_ n2_ n3_; clear hb hbox hg; have hcz5_0 : w4.cell? ⟨gb177, 0, none⟩ = some (.int .i64 a0_0) := (blk_cell BK177.out 0).trans rfl; have hcz5_1 : w4.cell? ⟨gb177, 1, none⟩ = some (.int .i64 a0_1) := (blk_cell BK177.out 1).trans rfl; have hfz5_0 := blk_frozen BK177.out 0; have hfz5_1 := blk_frozen BK177.out 1))
  go_ret
  exact ⟨by first | rfl | (simp [errW_none, errW_some] <;> rfl) | (simp [*, errW_none, errW_some] <;> rfl), bQ1 GE177.out⟩
 rw [if_neg c3] at H
 have c3b0 : decide (a0_0 < 8) = false := decide_eq_false c3
 clear c3
 by_cases c6 : a0_0 = 13
 rotate_left
 ·
  rw [if_neg c6] at H
  have c6b0 : (a0_0 == 13) = false := beq_eq_false_iff_ne.mpr c6
  have c6b1 : (a0_0 != 13) = true := bne_iff_ne.mpr c6
  by_cases c15 : a0_1 = 0
  rotate_left
  ·
   rw [if_neg c15] at H
   have c15b0 : (a0_1 == 0) = false := beq_eq_false_iff_ne.mpr c15
   have c15b1 : (a0_1 != 0) = true := bne_iff_ne.mpr c15
   obtain rfl := Option.some.inj H
   go_enter Tryd.func66, Tryd.ntmps66
   go_wp2_with (first | ((with_reducible refine gate_dst (N := 2) rfl ?_); refine box_event ?hg (N := 2) ?hd (cs := #[.int .i64 a0_0, .int .i64 a0_1]) (t := 72) ?hr ?_; (case hd => rfl); (case hg => rfl); (case hr => first | (go_simp; done) | (go_simp; rfl)); intro gb177 hg w18 hbox hb; have n0_ := Aside0.mk (below_step (bQ) hb); have n1_ := Aside0.mk (hbox); have n2_ := Aside0.mk ((by rw [hg]; exact (below_size (bQ)) : w.heap.size ≤ gb177)); have n3_ := n2_; clear HB; have HB := n0_; have BK177 := n1_; have GW177 := n2_; have GE177 := n3_; clear n0_ n1_ n2_ n3_; clear hb hbox hg; have hcz19_0 : w18.cell? ⟨gb177, 0, none⟩ = some (.int .i64 a0_0) := (blk_cell BK177.out 0).trans rfl; have hcz19_1 : w18.cell? ⟨gb177, 1, none⟩ = some (.int .i64 a0_1) := (blk_cell BK177.out 1).trans rfl; have hfz19_0 := blk_frozen BK177.out 0; have hfz19_1 := blk_frozen BK177.out 1))
   go_ret
   exact ⟨by first | rfl | (simp [errW_none, errW_some] <;> rfl) | (simp [*, errW_none, errW_some] <;> rfl), bQ1 GE177.out⟩
  rw [if_pos c15] at H
  have c15b0 : (a0_1 == 0) = true := beq_iff_eq.mpr c15
  have c15b1 : (a0_1 != 0) = false := bne_eq_false_iff_eq.mpr c15
  clear c15
  obtain rfl := Option.some.inj H
  go_enter Tryd.func66, Tryd.ntmps66
  go_wp2_with (first | ((with_reducible refine gate_dst (N := 2) rfl ?_); refine box_event ?hg (N := 2) ?hd (cs := #[.int .i64 a0_0, .int .i64 a0_1]) (t := 72) ?hr ?_; (case hd => rfl); (case hg => rfl); (case hr => first | (go_simp; done) | (go_simp; rfl)); intro gb177 hg w16 hbox hb; have n0_ := Aside0.mk (below_step (bQ) hb); have n1_ := Aside0.mk (hbox); have n2_ := Aside0.mk ((by rw [hg]; exact (below_size (bQ)) : w.heap.size ≤ gb177)); have n3_ := n2_; clear HB; have HB := n0_; have BK177 := n1_; have GW177 := n2_; have GE177 := n3_; clear n0_ n1_ n2_ n3_; clear hb hbox hg; have hcz17_0 : w16.cell? ⟨gb177, 0, none⟩ = some (.int .i64 a0_0) := (blk_cell BK177.out 0).trans rfl; have hcz17_1 : w16.cell? ⟨gb177, 1, none⟩ = some (.int .i64 a0_1) := (blk_cell BK177.out 1).trans rfl; have hfz17_0 := blk_frozen BK177.out 0; have hfz17_1 := blk_frozen BK177.out 1))
  go_ret
  exact ⟨by first | rfl | (simp [errW_none, errW_some] <;> rfl) | (simp [*, errW_none, errW_some] <;> rfl), bQ1 GE177.out⟩
 rw [if_pos c6] at H
 have c6b0 : (a0_0 == 13) = true := beq_iff_eq.mpr c6
 have c6b1 : (a0_0 != 13) = false := bne_eq_false_iff_eq.mpr c6
 clear c6
 by_cases c7 : a0_1 < 0
 ·
  rw [if_pos c7] at H
  have c7b0 : decide (a0_1 < 0) = true := decide_eq_true c7
  clear c7
  obtain rfl := Option.some.inj H
  go_enter Tryd.func66, Tryd.ntmps66
  go_wp2_with (first | ((with_reducible refine gate_dst (N := 2) rfl ?_); refine box_event ?hg (N := 2) ?hd (cs := #[.int .i64 a0_0, .int .i64 a0_1]) (t := 72) ?hr ?_; (case hd => rfl); (case hg => rfl); (case hr => first | (go_simp; done) | (go_simp; rfl)); intro gb177 hg w8 hbox hb; have n0_ := Aside0.mk (below_step (bQ) hb); have n1_ := Aside0.mk (hbox); have n2_ := Aside0.mk ((by rw [hg]; exact (below_size (bQ)) : w.heap.size ≤ gb177)); have n3_ := n2_; clear HB; have HB := n0_; have BK177 := n1_; have GW177 := n2_; have GE177 := n3_; clear n0_ n1_ n2_ n3_; clear hb hbox hg; have hcz9_0 : w8.cell? ⟨gb177, 0, none⟩ = some (.int .i64 a0_0) := (blk_cell BK177.out 0).trans rfl; have hcz9_1 : w8.cell? ⟨gb177, 1, none⟩ = some (.int .i64 a0_1) := (blk_cell BK177.out 1).trans rfl; have hfz9_0 := blk_frozen BK177.out 0; have hfz9_1 := blk_frozen BK177.out 1))
  go_ret
  exact ⟨by first | rfl | (simp [errW_none, errW_some] <;> rfl) | (simp [*, errW_none, errW_some] <;> rfl), bQ1 GE177.out⟩
 rw [if_neg c7] at H
 have c7b0 : decide (a0_1 < 0) = false := decide_eq_false c7
 clear c7
 by_cases c10 : a0_1 ≥ a1
 ·
  rw [if_pos c10] at H
  have c10b0 : decide (a1 ≤ a0_1) = true := decide_eq_true c10
  clear c10
  obtain rfl := Option.some.inj H
  go_enter Tryd.func66, Tryd.ntmps66
  go_wp2_with (first | ((with_reducible refine gate_dst (N := 2) rfl ?_); refine box_event ?hg (N := 2) ?hd (cs := #[.int .i64 a0_0, .int .i64 a0_1]) (t := 72) ?hr ?_; (case hd => rfl); (case hg => rfl); (case hr => first | (go_simp; done) | (go_simp; rfl)); intro gb177 hg w11 hbox hb; have n0_ := Aside0.mk (below_step (bQ) hb); have n1_ := Aside0.mk (hbox); have n2_ := Aside0.mk ((by rw [hg]; exact (below_size (bQ)) : w.heap.size ≤ gb177)); have n3_ := n2_; clear HB; have HB := n0_; have BK177 := n1_; have GW177 := n2_; have GE177 := n3_; clear n0_ n1_ n2_ n3_; clear hb hbox hg; have hcz12_0 : w11.cell? ⟨gb177, 0, none⟩ = some (.int .i64 a0_0) := (blk_cell BK177.out 0).trans rfl; have hcz12_1 : w11.cell? ⟨gb177, 1, none⟩ = some (.int .i64 a0_1) := (blk_cell BK177.out 1).trans rfl; have hfz12_0 := blk_frozen BK177.out 0; have hfz12_1 := blk_frozen BK177.out 1))
  go_ret
  exact ⟨by first | rfl | (simp [errW_none, errW_some] <;> rfl) | (simp [*, errW_none, errW_some] <;> rfl), bQ1 GE177.out⟩
 rw [if_neg c10] at H
 have c10b0 : decide (a1 ≤ a0_1) = false := decide_eq_false c10
 clear c10
 obtain rfl := Option.some.inj H
 go_enter Tryd.func66, Tryd.ntmps66
 go_wp2_with (first | ((with_reducible refine gate_dst (N := 2) rfl ?_); refine box_event ?hg (N := 2) ?hd (cs := #[.int .i64 a0_0, .int .i64 a0_1]) (t := 72) ?hr ?_; (case hd => rfl); (case hg => rfl); (case hr => first | (go_simp; done) | (go_simp; rfl)); intro gb177 hg w13 hbox hb; have n0_ := Aside0.mk (below_step (bQ) hb); have n1_ := Aside0.mk (hbox); have n2_ := Aside0.mk ((by rw [hg]; exact (below_size (bQ)) : w.heap.size ≤ gb177)); have n3_ := n2_; clear HB; have HB := n0_; have BK177 := n1_; have GW177 := n2_; have GE177 := n3_; clear n0_ n1_ n2_ n3_; clear hb hbox hg; have hcz14_0 : w13.cell? ⟨gb177, 0, none⟩ = some (.int .i64 a0_0) := (blk_cell BK177.out 0).trans rfl; have hcz14_1 : w13.cell? ⟨gb177, 1, none⟩ = some (.int .i64 a0_1) := (blk_cell BK177.out 1).trans rfl; have hfz14_0 := blk_frozen BK177.out 0; have hfz14_1 := blk_frozen BK177.out 1))
 go_ret
 exact ⟨by first | rfl | (simp [errW_none, errW_some] <;> rfl) | (simp [*, errW_none, errW_some] <;> rfl), bQ1 GE177.out⟩

--IMPORT Derived.WalkSpells
theorem truths_first.calls (g12 g14 n co : Nat) (ad : Addr) (at_ : Int) (b : Bool) (w : World) (h12 : w.cell? ⟨g12, 0, none⟩ = some (.slice (some ad) n co)) (h14 : w.cell? ⟨g14, 0, none⟩ = some (.int .i64 at_)) (hb : w.cell? (ad.add (at_ + 1).toNat) = some (.bool b))
  (hw : wrap64 (at_ + 1) = at_ + 1) (h0 : 0 ≤ at_ + 1) (h1 : at_ + 1 < n) : Calls Tryd.prog 56 #[.pointer (some ⟨g12, 0, none⟩), .pointer (some ⟨g14, 0, none⟩)] w fun e w' => e = .returned (.bool b) ∧ w' = w := by
 have q0 := eq_true h0
 have q1 := eq_true h1
 clear h0 h1
 go_enter Tryd.func56, Tryd.ntmps56
 go_wp2
 go_ret
 exact ⟨rfl, rfl⟩
theorem truths_second.calls (g12 g10 g14 n co m ce : Nat) (ad ae : Addr) (at_ x : Int) (b : Bool) (w : World) (h12 : w.cell? ⟨g12, 0, none⟩ = some (.slice (some ad) n co)) (h10 : w.cell? ⟨g10, 0, none⟩ = some (.slice (some ae) m ce)) (h14 : w.cell? ⟨g14, 0, none⟩ = some (.int .i64 at_))
  (he : w.cell? (ae.add (at_ + 1).toNat) = some (.int .i64 x)) (hb : w.cell? (ad.add x.toNat) = some (.bool b)) (hw : wrap64 (at_ + 1) = at_ + 1) (h0 : 0 ≤ at_ + 1) (h1 : at_ + 1 < m) (h2 : 0 ≤ x) (h3 : x < n) :
  Calls Tryd.prog 57 #[.pointer (some ⟨g12, 0, none⟩), .pointer (some ⟨g10, 0, none⟩), .pointer (some ⟨g14, 0, none⟩)] w fun e w' => e = .returned (.bool b) ∧ ∃ k, w' = w.drewN k := by
 have q0 := eq_true h0
 have q1 := eq_true h1
 have q2 := eq_true h2
 have q3 := eq_true h3
 clear h0 h1 h2 h3
 go_enter Tryd.func57, Tryd.ntmps57
 go_wp2
 go_quiet (fail)
 generalize hq : World.drewN w _ = w1
 go_wp2
 go_ret
 exact ⟨rfl, _, hq.symm⟩
/-- A row of numbers that is only read, in a block. -/
def IRow (W : World) (g : Nat) (xs : List Int) : Prop := ∀ i : Nat, i < xs.length → W.cell? ⟨g, i, none⟩ = some (.int .i64 (xs.getD i 0))
theorem IRow.of {W W' : World} {g : Nat} {xs : List Int} (h : IRow W g xs) (e : W'.heap[g]? = W.heap[g]?) : IRow W' g xs := fun i hi => (World.cell?_of_block (w := W) (w' := W') e).trans (h i hi)
/-- What logic.Truths has in memory in its round. -/
structure TrAt (w0 w : World) (g10 g12 g14 ge go ce co : Nat) (es : List Int) (out : List Bool) (at_ : Int) : Prop where
 b10 : w.heap[g10]? = some (.cells #[.slice (some ⟨ge, 0, none⟩) es.length ce] 43 (0, 0))
 b12 : w.heap[g12]? = some (.cells #[.slice (some ⟨go, 0, none⟩) out.length co] 58 (0, 0))
 b14 : w.heap[g14]? = some (.cells #[.int .i64 at_] 3 (0, 0))
 ends : IRow w ge es
 le : ge < w.heap.size
 row : Kd.R Kd.bool 4 w w0.heap.size (fun _ => True) (.slice (some ⟨go, 0, none⟩) out.length co) out
 bel : Below w0.heap.size w0 w
 gle : w0.heap.size ≤ g14
 ne : g14 ≠ ge
 neo : go ≠ ge
section
variable {w0 w w' : World} {g10 g12 g14 ge go ce co : Nat} {es : List Int} {out : List Bool} {at_ : Int}
theorem TrAt.drewN (h : TrAt w0 w g10 g12 g14 ge go ce co es out at_) (m : Nat) : TrAt w0 (w.drewN m) g10 g12 g14 ge go ce co es out at_ :=
 ⟨h.b10, h.b12, h.b14, h.ends, h.le, Kd.R_drewN h.row m, pw_below_drewN h.bel m, h.gle, h.ne, h.neo⟩
theorem TrAt.blk (h : TrAt w0 w g10 g12 g14 ge go ce co es out at_) (hn : 0 < out.length) : (∃ cells, w.heap[go]? = some (.cells cells 4 (0, 0))) ∧ w0.heap.size ≤ go := by
 obtain ⟨gt, cap6, he6, hg, _, cgt, hgt⟩ := Kd.R_form h.row hn
 injection he6 with q1
 injection q1 with q1
 injection q1 with q1
 subst q1
 exact ⟨⟨_, hgt⟩, hg⟩
theorem TrAt.n14 (h : TrAt w0 w g10 g12 g14 ge go ce co es out at_) (hn : 0 < out.length) : g14 ≠ go := by
 obtain ⟨⟨c, hc⟩, _⟩ := h.blk hn
 exact blk_ne h.b14 hc (by decide)
/-- A truth is told. -/
theorem TrAt.put (h : TrAt w0 w g10 g12 g14 ge go ce co es out at_) (hn : 0 < out.length) (i : Nat) (b : Bool) : TrAt w0 (w.setCell ⟨go, i, none⟩ (.bool b)) g10 g12 g14 ge go ce co es (out.set i b) at_ := by
 obtain ⟨⟨c, hc⟩, hg⟩ := h.blk hn
 have n10 := blk_ne h.b10 hc (by decide)
 have n12 := blk_ne h.b12 hc (by decide)
 have n14 := blk_ne h.b14 hc (by decide)
 have hp := (Kd.R_putg h.row (i : Int) b).1
 rw [Int.toNat_natCast] at hp
 refine ⟨blk_far (p := ⟨go, i, none⟩) h.b10 n10 _, by rw [List.length_set]; exact blk_far (p := ⟨go, i, none⟩) h.b12 n12 _, blk_far (p := ⟨go, i, none⟩) h.b14 n14 _, h.ends.of (Below.heap_setCell w ⟨go, i, none⟩ _ ge h.neo.symm), ?_, by rw [List.length_set]; exact hp, h.bel.setCell (p := ⟨go, i, none⟩) hg _, h.gle, h.ne, h.neo⟩
 have := ((Below.refl 0 w).setCell (p := ⟨go, i, none⟩) (Nat.zero_le _) (.bool b)).size
 exact Nat.lt_of_lt_of_le h.le this
/-- The place goes on. -/
theorem TrAt.move (h : TrAt w0 w g10 g12 g14 ge go ce co es out at_) (x : Int) : TrAt w0 (w.setCell ⟨g14, 0, none⟩ (.int .i64 x)) g10 g12 g14 ge go ce co es out x := by
 have n10 := blk_ne h.b10 h.b14 (by decide)
 have n12 := blk_ne h.b12 h.b14 (by decide)
 refine ⟨blk_far (p := ⟨g14, 0, none⟩) h.b10 n10 _, blk_far (p := ⟨g14, 0, none⟩) h.b12 n12 _, blk_put h.b14 0 _ rfl, h.ends.of (Below.heap_setCell w ⟨g14, 0, none⟩ _ ge h.ne.symm), ?_, Kd.R_set h.row h.b14 (by decide) _ _, h.bel.setCell (p := ⟨g14, 0, none⟩) h.gle _, h.gle, h.ne, h.neo⟩
 have := ((Below.refl 0 w).setCell (p := ⟨g14, 0, none⟩) (Nat.zero_le _) (.int .i64 x)).size
 exact Nat.lt_of_lt_of_le h.le this
/-- The round's own variable is a new one. -/
theorem TrAt.fresh (h : TrAt w0 w g10 g12 g14 ge go ce co es out at_) {g : Nat} {x : Int} (hg : g = w.heap.size) (hk : w'.heap[g]? = some (.cells #[.int .i64 x] 3 (0, 0))) (hb : Below w.heap.size w w') : TrAt w0 w' g10 g12 g ge go ce co es out x :=
 ⟨blk_below h.b10 hb, blk_below h.b12 hb, hk, h.ends.of (hb.block _ h.le), Nat.lt_of_lt_of_le h.le (below_size hb), Kd.R_below h.row hb, below_step h.bel hb, by rw [hg]; exact below_size h.bel, by rw [hg]; exact (Nat.ne_of_lt h.le).symm, h.neo⟩
end

end Go.Proofs.YtbokbbcoekeoaaaDoor.P
end
section
namespace Go.Proofs.YtbokbbcoekeoaaaDoor.P
open Go.RowKit Go.Proofs.YtbokbbcoekeoaaaDoorW.PrintWords Go.Proofs.YtbokbbcoekeoaaaDoorW.PrintLast Go.Proofs.YtbokbbcoekeoaaaDoorW.PrintMore Go.Proofs.YtbokbbcoekeoaaaDoor.G
attribute [local go_sem] max2_int min2_int max_two min_two max_three min_three max_four min_four
set_option linter.unusedVariables false
set_option linter.unusedSimpArgs false

--IMPORT Derived.WalkSpells
--IMPORT Derived.StillTailTactics
--IMPORT Derived.Deep.QuietTactic
--IMPORT Derived.BigQuiet
/-- An op's law: me, later, its first part now and at the next moment, its second part. -/
def klaw (o : Int) (me later a a' y : Bool) : Bool := if o = 14 then me == a' else if o = 17 then me == (a || later) else if o = 18 then me == (a && later) else if o = 15 then me == (y || a && later) else me == (y && (a || later))
def logic_pair_keeps.f (l0_0 : List Bool) (l0_1 : List Bool) (a1 : Int) (a2 : Int) (a3 : Int) : Option (Bool) := if 0 ≤ a2 ∧ a2 + 1 < (l0_0.length : Int) ∧ a2 + 1 < (l0_1.length : Int) ∧ a2 ≤ 1000000 ∧ 14 ≤ a1 ∧ a1 ≤ 18 ∧ (15 ≤ a1 → a1 ≤ 16 → 0 ≤ a3 ∧ a3 < (l0_0.length : Int)) then some (klaw a1 (rdOf false l0_0 a2) (rdOf false l0_1 a2) (rdOf false l0_0 (a2 + 1)) (rdOf false l0_1 (a2 + 1)) (rdOf false l0_0 a3)) else none
set_option maxHeartbeats 8000000 in
set_option maxRecDepth 100000 in
theorem logic_pair_keeps.calls (A0_0 : Option Addr) (c0_0 : Nat) (l0_0 : List Bool) (A0_1 : Option Addr) (c0_1 : Nat) (l0_1 : List Bool) (a1 : Int) (a2 : Int) (a3 : Int) (r : Bool) (w : World) (hr0_0 : Kd.C Kd.bool w A0_0 l0_0.length l0_0) (hc0_0 : l0_0.length ≤ c0_0) (hr0_1 : Kd.C Kd.bool w A0_1 l0_1.length l0_1) (hc0_1 : l0_1.length ≤ c0_1) (h : logic_pair_keeps.f l0_0 l0_1 a1 a2 a3 = some r) :
  Calls Tryd.prog 64 #[.agg #[.slice A0_0 l0_0.length c0_0, .slice A0_1 l0_1.length c0_1], .int .i64 a1, .int .i64 a2, .int .i64 a3] w fun e w' => e = .returned (.bool r) ∧ Below w.heap.size w w' := by
 unfold logic_pair_keeps.f at h
 by_cases c : 0 ≤ a2 ∧ a2 + 1 < (l0_0.length : Int) ∧ a2 + 1 < (l0_1.length : Int) ∧ a2 ≤ 1000000 ∧ 14 ≤ a1 ∧ a1 ≤ 18 ∧ (15 ≤ a1 → a1 ≤ 16 → 0 ≤ a3 ∧ a3 < (l0_0.length : Int))
 ·
  rw [if_pos c] at h
  obtain rfl := Option.some.inj h
  obtain ⟨h0, h1, h2, h3, h4, h5, h6⟩ := c
  have R0 := Aside0.mk hr0_0
  have R1 := Aside0.mk hr0_1
  obtain ⟨ad, rfl, hz0⟩ := Kd.at_bool hr0_0 a2 h0 (by omega)
  obtain ⟨ae, rfl, hz1⟩ := Kd.at_bool hr0_1 a2 h0 (by omega)
  have e1 : wrap64 (a2 + 1) = a2 + 1 := by unfold wrap64; omega
  have e2 : IntKind.i64.wrap (a2 + 1) = a2 + 1 := by rw [i64_w]; exact e1
  have q0 : (0 ≤ a2) = True := eq_true h0
  have q1 : (0 ≤ a2 + 1) = True := eq_true (by omega)
  have q2 : (a2 < (l0_0.length : Int)) = True := eq_true (by omega)
  have q3 : (a2 < (l0_1.length : Int)) = True := eq_true (by omega)
  have q4 : (a2 + 1 < (l0_0.length : Int)) = True := eq_true h1
  have q5 : (a2 + 1 < (l0_1.length : Int)) = True := eq_true h2
  have HB := Aside0.mk (And.intro h0 (And.intro h1 h2))
  have H6 := Aside0.mk h6
  have HK := Aside0.mk (show a1 = 14 ∨ a1 = 15 ∨ a1 = 16 ∨ a1 = 17 ∨ a1 = 18 by omega)
  clear hr0_0 hr0_1 hc0_0 hc0_1 h hz0 hz1 h0 h1 h2 h3 h4 h5 h6
  obtain ⟨me, hme⟩ : ∃ x, rdOf false l0_0 a2 = x := ⟨_, rfl⟩
  obtain ⟨la, hla⟩ : ∃ x, rdOf false l0_1 a2 = x := ⟨_, rfl⟩
  obtain ⟨xa, hxa⟩ : ∃ x, rdOf false l0_0 (a2 + 1) = x := ⟨_, rfl⟩
  obtain ⟨xn, hxn⟩ : ∃ x, rdOf false l0_1 (a2 + 1) = x := ⟨_, rfl⟩
  obtain ⟨xy, hxy⟩ : ∃ x, rdOf false l0_0 a3 = x := ⟨_, rfl⟩
  rw [hme, hla, hxa, hxn, hxy]
  have M := Aside0.mk (And.intro hme (And.intro hla (And.intro hxa (And.intro hxn hxy))))
  clear hme hla hxa hxn hxy
  go_enter Tryd.func64, Tryd.ntmps64
  go_upto_region 1 with ((with_reducible refine gate_dst (N := 4) rfl ?_); go_must (refine box_event ?hg (N := 4) ?hd (cs := #[.slice (some ad) l0_0.length c0_0, .slice (some ae) l0_1.length c0_1]) (t := 140) ?hr ?_; (case hd => rfl); (case hg => rfl); (case hr => first | (go_simp; done) | (go_simp; rfl)); intro g4 hg4 w4 hbox hb; have KB := Aside0.mk hbox; have BB0 := Aside0.mk hb; clear hb hbox hg4))
  have k0 : w4.cell? ⟨g4, 0, none⟩ = some (.slice (some ad) l0_0.length c0_0) := (blk_cell KB.out 0).trans rfl
  have k1 : w4.cell? ⟨g4, 1, none⟩ = some (.slice (some ae) l0_1.length c0_1) := (blk_cell KB.out 1).trans rfl
  obtain ⟨_, ea, x0⟩ := Kd.at_bool (Kd.C_below R0.out BB0.out) a2 HB.out.1 (by have := HB.out; omega)
  cases ea
  obtain ⟨_, ea, x1⟩ := Kd.at_bool (Kd.C_below R1.out BB0.out) a2 HB.out.1 (by have := HB.out; omega)
  cases ea
  obtain ⟨_, ea, x2⟩ := Kd.at_bool (Kd.C_below R0.out BB0.out) (a2 + 1) (by have := HB.out; omega) HB.out.2.1
  cases ea
  obtain ⟨_, ea, x3⟩ := Kd.at_bool (Kd.C_below R1.out BB0.out) (a2 + 1) (by have := HB.out; omega) HB.out.2.2
  cases ea
  rw [M.out.1] at x0
  rw [M.out.2.1] at x1
  rw [M.out.2.2.1] at x2
  rw [M.out.2.2.2.1] at x3
  have X4 : (a1 = 15 ∨ a1 = 16) → w4.cell? (ad.add a3.toNat) = some (.bool xy) := by
   intro h
   have h6 := H6.out (by omega) (by omega)
   obtain ⟨_, ea, x4⟩ := Kd.at_bool (Kd.C_below R0.out BB0.out) a3 h6.1 h6.2
   cases ea
   rw [M.out.2.2.2.2] at x4
   exact x4
  have Q4 : (a1 = 15 ∨ a1 = 16) → (0 ≤ a3) = True ∧ (a3 < (l0_0.length : Int)) = True := fun h => by
   have h6 := H6.out (by omega) (by omega)
   exact ⟨eq_true h6.1, eq_true h6.2⟩
  have HX4 := Aside0.mk X4
  have HQ4 := Aside0.mk Q4
  clear X4 Q4
  have BB1 := Aside0.mk (show ∀ m, Below w.heap.size w (w4.drewN m) from fun m => pw_below_drewN BB0.out m)
  rcases HK.out with rfl | rfl | rfl | rfl | rfl
  ·
   go_quiet (fail)
   go_wp2
   go_ret
   exact ⟨rfl, BB1.out _⟩
  ·
   have x4 := HX4.out (.inl rfl)
   obtain ⟨q6, q7⟩ := HQ4.out (.inl rfl)
   cases xy <;> cases xa
   all_goals go_quiet (fail)
   all_goals go_wp2
   all_goals go_ret
   all_goals exact ⟨by cases me <;> cases la <;> rfl, BB1.out _⟩
  ·
   have x4 := HX4.out (.inr rfl)
   obtain ⟨q6, q7⟩ := HQ4.out (.inr rfl)
   cases xy <;> cases xa
   all_goals go_quiet (fail)
   all_goals go_wp2
   all_goals go_ret
   all_goals exact ⟨by cases me <;> cases la <;> rfl, BB1.out _⟩
  ·
   cases xa
   all_goals go_quiet (fail)
   all_goals go_wp2
   all_goals go_ret
   all_goals exact ⟨by cases me <;> cases la <;> rfl, BB1.out _⟩
  ·
   cases xa
   all_goals go_quiet (fail)
   all_goals go_wp2
   all_goals go_ret
   all_goals exact ⟨by cases me <;> cases la <;> rfl, BB1.out _⟩
 ·
  rw [if_neg c] at h
  exact absurd h (by simp)

def foretellkeep_has.l0 : Nat → List Int → Int → Int → Option (Bool)
 | 0, _, _, _ => none
 | k + 1, x0, x1, x5 => if x5 < (x0.length : Int) then (if 0 ≤ x5 then (if (rd x0 x5) = x1 then (some true) else (foretellkeep_has.l0 k x0 x1 (wrap64 (x5 + 1)))) else (none)) else (some false)
def foretellkeep_has.f (k : Nat) (l0 : List Int) (a1 : Int) : Option (Bool) := foretellkeep_has.l0 k l0 a1 0
theorem foretellkeep_has.mono_l : ∀ k, (∀ y0 y1 y2, LeO (foretellkeep_has.l0 k y0 y1 y2) (foretellkeep_has.l0 (k + 1) y0 y1 y2))
 | 0 => fun _ _ _ r h => by simp [foretellkeep_has.l0] at h
 | k + 1 => by
  have ih0 := foretellkeep_has.mono_l k
  ·
   intro y0 y1 y2
   unfold foretellkeep_has.l0
   repeat' first
   | (with_reducible exact ih0 _ _ _)
   | (with_reducible exact LeO.refl _)
   | (with_reducible exact LeO.none _)
   | (with_reducible refine LeO.ite ?_ ?_)
   | (with_reducible refine LeO.bind ?_ (fun _ => ?_))
   | exact ih0 _ _ _
   | exact LeO.none _
   | refine LeO.ite ?_ ?_
   | refine LeO.bind ?_ (fun _ => ?_)
theorem foretellkeep_has.mono : ∀ a0 a1 k, LeO (foretellkeep_has.f k a0 a1) (foretellkeep_has.f (k + 1) a0 a1) := by
 intro a0 a1 k
 have ih0 := foretellkeep_has.mono_l k
 unfold foretellkeep_has.f
 repeat' first
   | (with_reducible exact ih0 _ _ _)
   | (with_reducible exact LeO.refl _)
   | (with_reducible exact LeO.none _)
   | (with_reducible refine LeO.ite ?_ ?_)
   | (with_reducible refine LeO.bind ?_ (fun _ => ?_))
   | exact ih0 _ _ _
   | exact LeO.none _
   | refine LeO.ite ?_ ?_
   | refine LeO.bind ?_ (fun _ => ?_)
set_option maxHeartbeats 8000000 in
set_option maxRecDepth 100000 in
theorem foretellkeep_has.calls (k : Nat) (A0 : Option Addr) (c0 : Nat) (l0 : List Int) (a1 : Int) (r : Bool) (w : World) (hr0 : Kd.C (Kd.int .i64) w A0 l0.length l0) (hc0 : l0.length ≤ c0) (h : foretellkeep_has.f k l0 a1 = some r) :
  Calls Tryd.prog 17 #[.slice A0 l0.length c0, .int .i64 a1] w fun e w' => e = .returned (.bool r) ∧ Drawn0 w w' := by
 have HR0 := Aside0.mk hr0
 have HC0 := Aside0.mk hc0
 clear hr0 hc0
 have H : (foretellkeep_has.l0 k l0 a1 0) = some r := h
 clear h
 have H' := Aside0.mk H
 clear H
 go_enter Tryd.func17, Tryd.ntmps17
 go_wp2
 go_loopg [5] k (fun kq v5 w' => ∃ (x5_1 : Int), v5 = .int .i64 x5_1 ∧ Aside0 (foretellkeep_has.l0 kq l0 a1 x5_1 = some r) ∧ Aside0 (kq ≤ k) ∧ Drawn0 w w')
 case atStart => exact ⟨(0), (by first | rfl | (simp; done) | (simp [*]; done)), H', ⟨Nat.le_refl _⟩, by repeat (first | exact Drawn0.refl _ | apply Drawn0.step)⟩
 case round =>
  clear H'
  try clear c1
  try clear p2
  obtain ⟨x5_1, rfl, HA, HK1, ⟨m1, rfl⟩⟩ := hrel
  cases gk with
  | zero => exact absurd HA.out (by simp [foretellkeep_has.l0])
  | succ k1 =>
   have H := HA.out
   clear HA
   simp only [foretellkeep_has.l0] at H
   by_cases c3 : x5_1 < (l0.length : Int)
   rotate_left
   ·
    rw [if_neg c3] at H
    have c3b0 : decide (x5_1 < (l0.length : Int)) = false := decide_eq_false c3
    clear c3
    obtain rfl := Option.some.inj H
    go_wp2
    go_ret
    exact ⟨by first | rfl | (simp; done) | (simp [*]; done), by repeat (first | exact Drawn0.refl _ | apply Drawn0.step)⟩
   rw [if_pos c3] at H
   have c3b0 : decide (x5_1 < (l0.length : Int)) = true := decide_eq_true c3
   clear c3
   by_cases c4 : 0 ≤ x5_1
   rotate_left
   ·
    rw [if_neg c4] at H
    exact absurd H (by simp)
   rw [if_pos c4] at H
   have c4b0 : decide (0 ≤ x5_1) = true := decide_eq_true c4
   clear c4
   by_cases c5 : (rd l0 x5_1) = a1
   ·
    rw [if_pos c5] at H
    have c5b0 : ((rd l0 x5_1) == a1) = true := beq_iff_eq.mpr c5
    have c5b1 : ((rd l0 x5_1) != a1) = false := bne_eq_false_iff_eq.mpr c5
    clear c5
    obtain rfl := Option.some.inj H
    have p501 : 0 ≤ (x5_1 : Int) := of_decide_eq_true (by first | (with_reducible assumption) | assumption)
    have q501 : x5_1 < (l0.length : Int) := of_decide_eq_true (by first | (with_reducible assumption) | assumption)
    obtain ⟨ad501, e501, hx501_0⟩ := Kd.at_int HR0.out x5_1 p501 q501
    cases e501
    replace p501 := eq_true p501
    replace q501 := eq_true q501
    go_wp2
    go_ret
    exact ⟨by first | rfl | (simp; done) | (simp [*]; done), by repeat (first | exact Drawn0.refl _ | apply Drawn0.step)⟩
   rw [if_neg c5] at H
   have c5b0 : ((rd l0 x5_1) == a1) = false := beq_eq_false_iff_ne.mpr c5
   have c5b1 : ((rd l0 x5_1) != a1) = true := bne_iff_ne.mpr c5
   have H' := Aside0.mk H
   clear H
   have p501 : 0 ≤ (x5_1 : Int) := of_decide_eq_true (by first | (with_reducible assumption) | assumption)
   have q501 : x5_1 < (l0.length : Int) := of_decide_eq_true (by first | (with_reducible assumption) | assumption)
   obtain ⟨ad501, e501, hx501_0⟩ := Kd.at_int HR0.out x5_1 p501 q501
   cases e501
   replace p501 := eq_true p501
   replace q501 := eq_true q501
   go_wp2
   go_roundg k1
   case measure => have := HK1.out; omega
   case rel => exact ⟨(wrap64 (x5_1 + 1)), (by first | rfl | (simp; done) | (simp [*]; done)), H', ⟨by have := HK1.out; omega⟩, by repeat (first | exact Drawn0.refl _ | apply Drawn0.step)⟩

end Go.Proofs.YtbokbbcoekeoaaaDoor.P
end
section
namespace Go.Proofs.YtbokbbcoekeoaaaDoor.Q
open Go.RowKit Go.Proofs.YtbokbbcoekeoaaaDoorW.PrintWords Go.Proofs.YtbokbbcoekeoaaaDoorW.PrintMore Go.Proofs.YtbokbbcoekeoaaaDoor.P
set_option linter.unusedVariables false
theorem w64 {n : Int} (h0 : -9223372036854775808 ≤ n) (h1 : n ≤ 9223372036854775807) : wrap64 n = n := by unfold wrap64; omega
theorem wf64 {n : Int} (h : (Lit.int .i64 n).wf = true) : -9223372036854775808 ≤ n ∧ n ≤ 9223372036854775807 := bounds_i64 h
def pk (n m : Int) : Int := (if n < 0 then -(n + 1) else n) % m
theorem pk_lo (n : Int) {m : Int} (h : 0 < m) : 0 ≤ pk n m := Int.emod_nonneg _ (by omega)
theorem pk_hi (n : Int) {m : Int} (h : 0 < m) : pk n m < m := Int.emod_lt_of_pos _ h
theorem picked_is {n m : Int} (hn : (Lit.int .i64 n).wf = true) (hm : 0 < m) : foretellkeep_picked.f n m = some (pk n m) := by
  obtain ⟨h0, h1⟩ := wf64 hn
  unfold foretellkeep_picked.f pk
  by_cases c : n < 0
  · rw [if_pos c, if_neg (by omega), if_pos c, w64 (n := n + 1) (by omega) (by omega), w64 (n := -(n + 1)) (by omega) (by omega), Int.tmod_eq_emod_of_nonneg (by omega)]
  · rw [if_neg c, if_neg (by omega), if_neg c, Int.tmod_eq_emod_of_nonneg (by omega)]
theorem rd_eq {l : List Int} {i : Nat} (h : i < l.length) : rd l (i : Int) = l[i] := by
  unfold rd
  rw [Int.toNat_natCast, List.getD_eq_getElem?_getD, List.getElem?_eq_getElem h]
  rfl
theorem ev_le {α : Type} {g f : Nat → Option α} {r : α} (K : Nat) (h : ∀ k, K ≤ k → g k = f k) (hf : Ev f r) : Ev g r := by
  obtain ⟨K', hK⟩ := hf
  exact ⟨max K K', fun k hk => by rw [h k (by omega)]; exact hK k (by omega)⟩
theorem ev_some {α : Type} {r s : α} (h : r = s) : Ev (fun _ => some r) s := by subst h; exact Ev.now r
abbrev Op := S72
abbrev Raw := S152
inductive Tm
  | leaf (o : Op)
  | un (o : Op) (a : Tm)
  | bin (o : Op) (a b : Tm)
def Tm.flat : Tm → List Op
  | .leaf o => [o]
  | .un o a => o :: a.flat
  | .bin o a b => o :: (a.flat ++ b.flat)
def Tm.size : Tm → Nat
  | .leaf _ => 1
  | .un _ a => a.size + 1
  | .bin _ a b => a.size + b.size + 1
theorem Tm.flat_len : ∀ t : Tm, t.flat.length = t.size
  | .leaf _ => rfl
  | .un _ a => by simp [Tm.flat, Tm.size, Tm.flat_len a]
  | .bin _ a b => by simp [Tm.flat, Tm.size, Tm.flat_len a, Tm.flat_len b]
theorem Tm.size_pos (t : Tm) : 0 < t.size := by cases t <;> simp [Tm.size]
def Tm.ok : Tm → Prop
  | .leaf o => 1 ≤ o.f0 ∧ o.f0 ≤ 18 ∧ polish_Parts.tab.getD o.f0.toNat 0 = 0
  | .un o a => 1 ≤ o.f0 ∧ o.f0 ≤ 18 ∧ polish_Parts.tab.getD o.f0.toNat 0 = 1 ∧ a.ok
  | .bin o a b => 1 ≤ o.f0 ∧ o.f0 ≤ 18 ∧ polish_Parts.tab.getD o.f0.toNat 0 = 2 ∧ a.ok ∧ b.ok
def Tm.ends : Int → Tm → List Int
  | p, .leaf _ => [p + 1]
  | p, .un _ a => (p + 1 + a.size) :: a.ends (p + 1)
  | p, .bin _ a b => (p + 1 + a.size + b.size) :: (a.ends (p + 1) ++ b.ends (p + 1 + a.size))
theorem Tm.ends_len : ∀ (t : Tm) (p : Int), (t.ends p).length = t.size
  | .leaf _, _ => rfl
  | .un _ a, p => by simp [Tm.ends, Tm.size, Tm.ends_len a]
  | .bin _ a b, p => by simp [Tm.ends, Tm.size, Tm.ends_len a, Tm.ends_len b]
theorem rdT_at {l pre post : List Op} {o : Op} (h : l = pre ++ o :: post) {p : Int} (hp : p = (pre.length : Int)) : rd_T72 l p = o := by
  subst h; subst hp
  unfold rd_T72
  rw [Int.toNat_natCast, List.getD_eq_getElem?_getD, List.getElem?_append_right (Nat.le_refl _)]
  simp
theorem skip_ok : ∀ (t : Tm), t.ok → ∀ (l pre post : List Op) (A M B : List Int) (p : Int), l = pre ++ (t.flat ++ post) → p = (pre.length : Int) → A.length = pre.length → M.length = t.size → l.length ≤ 1000000 →
    Ev (fun k => polish_skip.f k l p (A ++ (M ++ B))) (0, p + t.size, A ++ (t.ends p ++ B)) := by
  intro t
  induction t with
  | leaf o =>
    intro hok l pre post A M B p hl hp hA hM hlen
    obtain ⟨h1, h2, h3⟩ := hok
    have hrd : rd_T72 l p = o := rdT_at (post := post) hl hp
    have hll : l.length = pre.length + (1 + post.length) := by rw [hl]; simp [Tm.flat]; omega
    obtain ⟨m, rfl⟩ : ∃ m, M = [m] := by
      cases M with
      | nil => simp [Tm.size] at hM
      | cons m M => cases M with
        | nil => exact ⟨m, rfl⟩
        | cons _ _ => simp [Tm.size] at hM
    refine Ev.step (f := fun k => polish_skip.l k l p 0 0 (p + 1) (A ++ ([m] ++ B))) (fun k => ?_) (Ev.step (f := fun _ => some (0, p + 1, A ++ ([p + 1] ++ B))) (fun k => ?_) (Ev.now _))
    · simp only [polish_skip.f, hrd, h3]
      rw [if_pos (by omega), if_pos (by omega), if_neg (by omega), if_neg (by omega), w64 (n := p + 1) (by omega) (by omega)]
    · simp only [polish_skip.l]
      rw [if_neg (by omega), if_pos (by simp; omega)]
      congr 3
      rw [hp, Int.toNat_natCast, ← hA]
      simp
  | un o a iha =>
    intro hok l pre post A M B p hl hp hA hM hlen
    obtain ⟨h1, h2, h3, h4⟩ := hok
    have hrd : rd_T72 l p = o := rdT_at (post := a.flat ++ post) (by rw [hl]; rfl) hp
    have hll : l.length = pre.length + (1 + a.size + post.length) := by rw [hl]; simp [Tm.flat, Tm.flat_len]; omega
    obtain ⟨m, M', rfl⟩ : ∃ m M', M = m :: M' := by
      cases M with
      | nil => simp [Tm.size] at hM
      | cons m M => exact ⟨m, M, rfl⟩
    have hM' : M'.length = a.size := by simp [Tm.size] at hM; omega
    have ha := iha h4 l (pre ++ [o]) post (A ++ [m]) M' B (p + 1) (by rw [hl]; simp [Tm.flat]) (by rw [List.length_append]; simp; omega) (by simp [hA]) hM' hlen
    have hfin : Ev (fun k => polish_skip.l k l p 1 1 (p + 1 + a.size) ((A ++ [m]) ++ (a.ends (p + 1) ++ B))) (0, p + (Tm.un o a).size, A ++ ((Tm.un o a).ends p ++ B)) := by
      refine Ev.step (f := fun _ => some (0, p + (Tm.un o a).size, A ++ ((Tm.un o a).ends p ++ B))) (fun k => ?_) (Ev.now _)
      simp only [polish_skip.l]
      rw [if_neg (by omega), if_pos (by simp; omega)]
      have e : (A ++ [m] ++ (a.ends (p + 1) ++ B)).set p.toNat (p + 1 + a.size) = A ++ ((p + 1 + a.size) :: a.ends (p + 1) ++ B) := by
        rw [hp, Int.toNat_natCast, ← hA]
        simp
      rw [e]
      refine congrArg some (Prod.ext rfl (Prod.ext ?_ rfl))
      show p + 1 + (a.size : Int) = p + ((a.size + 1 : Nat) : Int)
      omega
    refine Ev.step (f := fun k => polish_skip.l k l p 1 0 (p + 1) (A ++ (m :: M' ++ B))) (fun k => ?_) ?_
    · simp only [polish_skip.f, hrd, h3]
      rw [if_pos (by omega), if_pos (by omega), if_neg (by omega), if_neg (by omega), w64 (n := p + 1) (by omega) (by omega)]
    refine Ev.step (f := fun k => (polish_skip.f k l (p + 1) ((A ++ [m]) ++ (M' ++ B))).bind fun r => if r.1 = 0 then polish_skip.l k l p 1 1 r.2.1 r.2.2 else some (r.1, 0, r.2.2)) (fun k => ?_) (Ev.bind ha ?_)
    · simp only [polish_skip.l]
      rw [if_pos (by omega), w64 (n := (0 : Int) + 1) (by omega) (by omega)]
      simp
    · simp only [if_true]
      exact hfin
  | bin o a b iha ihb =>
    intro hok l pre post A M B p hl hp hA hM hlen
    obtain ⟨h1, h2, h3, h4, h5⟩ := hok
    have hrd : rd_T72 l p = o := rdT_at (post := a.flat ++ b.flat ++ post) (by rw [hl]; rfl) hp
    have hll : l.length = pre.length + (1 + a.size + b.size + post.length) := by rw [hl]; simp [Tm.flat, Tm.flat_len]; omega
    obtain ⟨m, M', rfl⟩ : ∃ m M', M = m :: M' := by
      cases M with
      | nil => simp [Tm.size] at hM
      | cons m M => exact ⟨m, M, rfl⟩
    obtain ⟨Ma, Mb, rfl, hMa, hMb⟩ : ∃ Ma Mb, M' = Ma ++ Mb ∧ Ma.length = a.size ∧ Mb.length = b.size := by
      refine ⟨M'.take a.size, M'.drop a.size, (List.take_append_drop _ _).symm, ?_, ?_⟩
      · simp [Tm.size] at hM; rw [List.length_take]; omega
      · simp [Tm.size] at hM; rw [List.length_drop]; omega
    have ha := iha h4 l (pre ++ [o]) (b.flat ++ post) (A ++ [m]) Ma (Mb ++ B) (p + 1) (by rw [hl]; simp [Tm.flat]) (by rw [List.length_append]; simp; omega) (by simp [hA]) hMa hlen
    have hb := ihb h5 l (pre ++ [o] ++ a.flat) post (A ++ [m] ++ a.ends (p + 1)) Mb B (p + 1 + a.size) (by rw [hl]; simp [Tm.flat]) (by simp [Tm.flat_len]; omega) (by simp [hA, Tm.flat_len, Tm.ends_len]) hMb hlen
    have hfin : Ev (fun k => polish_skip.l k l p 2 2 (p + 1 + a.size + b.size) ((A ++ [m] ++ a.ends (p + 1)) ++ (b.ends (p + 1 + a.size) ++ B))) (0, p + (Tm.bin o a b).size, A ++ ((Tm.bin o a b).ends p ++ B)) := by
      refine Ev.step (f := fun _ => some (0, p + (Tm.bin o a b).size, A ++ ((Tm.bin o a b).ends p ++ B))) (fun k => ?_) (Ev.now _)
      simp only [polish_skip.l]
      rw [if_neg (by omega), if_pos (by simp; omega)]
      have e : (A ++ [m] ++ a.ends (p + 1) ++ (b.ends (p + 1 + a.size) ++ B)).set p.toNat (p + 1 + a.size + b.size) = A ++ ((p + 1 + a.size + b.size) :: (a.ends (p + 1) ++ b.ends (p + 1 + a.size)) ++ B) := by
        rw [hp, Int.toNat_natCast, ← hA]
        simp
      rw [e]
      refine congrArg some (Prod.ext rfl (Prod.ext ?_ rfl))
      show p + 1 + (a.size : Int) + b.size = p + ((a.size + b.size + 1 : Nat) : Int)
      omega
    refine Ev.step (f := fun k => polish_skip.l k l p 2 0 (p + 1) (A ++ (m :: (Ma ++ Mb) ++ B))) (fun k => ?_) ?_
    · simp only [polish_skip.f, hrd, h3]
      rw [if_pos (by omega), if_pos (by omega), if_neg (by omega), if_neg (by omega), w64 (n := p + 1) (by omega) (by omega)]
    refine Ev.step (f := fun k => (polish_skip.f k l (p + 1) ((A ++ [m]) ++ (Ma ++ (Mb ++ B)))).bind fun r => if r.1 = 0 then polish_skip.l k l p 2 1 r.2.1 r.2.2 else some (r.1, 0, r.2.2)) (fun k => ?_) (Ev.bind ha ?_)
    · simp only [polish_skip.l]
      rw [if_pos (by omega), w64 (n := (0 : Int) + 1) (by omega) (by omega)]
      simp
    simp only [if_true]
    refine Ev.step (f := fun k => (polish_skip.f k l (p + 1 + a.size) ((A ++ [m] ++ a.ends (p + 1)) ++ (Mb ++ B))).bind fun r => if r.1 = 0 then polish_skip.l k l p 2 2 r.2.1 r.2.2 else some (r.1, 0, r.2.2)) (fun k => ?_) (Ev.bind hb ?_)
    · simp only [polish_skip.l]
      rw [if_pos (by omega), w64 (n := (1 : Int) + 1) (by omega) (by omega)]
      simp
    · simp only [if_true]
      exact hfin
theorem ends_ok (t : Tm) (h : t.ok) (hs : t.size ≤ 60) : Ev (fun k => polish_Ends.f k t.flat) (t.ends 0, 0) := by
  have hl := t.flat_len
  unfold polish_Ends.f
  simp only [if_neg (show ¬ (60 < (t.flat.length : Int)) by omega)]
  refine Ev.bind (a := ((0 : Int), (t.size : Int), t.ends 0)) ?_ ?_
  · have := skip_ok t h t.flat [] [] [] (List.replicate t.flat.length 0) [] 0 (by simp) rfl rfl (by simp [hl]) (by omega)
    simpa using this
  · simp only [if_true, hl]
    exact Ev.now _
def rawWf (raw : List Raw) : Prop := ∀ y ∈ raw, ((Lit.int .i64 y.f0).wf = true ∧ (Lit.int .i64 y.f1).wf = true)
theorem take_is {raw : List Raw} (hw : rawWf raw) (a tp : Int) (out : List Op) (h0 : 0 ≤ a) (h1 : a ≤ 1000000) : ∃ r : Raw, grown_take.f raw ⟨a, tp, out⟩ = some (r, ⟨a + 1, tp, out⟩) ∧ (Lit.int .i64 r.f0).wf = true ∧ (Lit.int .i64 r.f1).wf = true := by
  unfold grown_take.f
  simp only [w64 (n := a + 1) (by omega) (by omega)]
  by_cases c : a < (raw.length : Int)
  · rw [if_pos c, if_pos h0]
    have hm : rd_T152 raw a ∈ raw := by
      unfold rd_T152
      rw [List.getD_eq_getElem?_getD, List.getElem?_eq_getElem (show a.toNat < raw.length by omega)]
      exact List.getElem_mem _
    exact ⟨_, rfl, (hw _ hm).1, (hw _ hm).2⟩
  · rw [if_neg c]
    exact ⟨⟨0, 0⟩, rfl, by decide, by decide⟩
theorem put_ok (a tp : Int) (out : List Op) (kind value : Int) (h : out.length ≤ 1000000) : grown_put.f ⟨a, tp, out⟩ kind value = some ⟨a, tp, out ++ [⟨kind, value⟩]⟩ := by
  unfold grown_put.f
  rw [if_pos (show out.length < 8796093022208 by omega)]
def Tm.rt : Tm → Op
  | .leaf o => o
  | .un o _ => o
  | .bin o _ _ => o
theorem Tm.flat_rt (t : Tm) : ∃ rest, t.flat = t.rt :: rest := by cases t <;> exact ⟨_, rfl⟩
theorem Tm.ends_rt (t : Tm) (p : Int) : ∃ rest, t.ends p = (p + t.size) :: rest := by
  cases t with
  | leaf o => exact ⟨_, rfl⟩
  | un o a => exact ⟨a.ends (p + 1), by simp only [Tm.ends, Tm.size]; congr 1; omega⟩
  | bin o a b => exact ⟨a.ends (p + 1) ++ b.ends (p + 1 + a.size), by simp only [Tm.ends, Tm.size]; congr 1; omega⟩
theorem rd_at {es A B : List Int} {e : Int} (h : es = A ++ e :: B) {p : Int} (hp : p = (A.length : Int)) : rd es p = e := by
  subst h; subst hp
  unfold rd
  rw [Int.toNat_natCast, List.getD_eq_getElem?_getD, List.getElem?_append_right (Nat.le_refl _)]
  simp
structure Lies (t : Tm) (p : Int) (l : List Op) (es : List Int) : Prop where
  ops : ∃ pre post, l = pre ++ (t.flat ++ post) ∧ p = (pre.length : Int)
  ends : ∃ A B, es = A ++ (t.ends p ++ B) ∧ p = (A.length : Int)
theorem Lies.p0 {t : Tm} {p : Int} {l : List Op} {es : List Int} (h : Lies t p l es) : 0 ≤ p ∧ p + t.size ≤ l.length ∧ p + t.size ≤ es.length := by
  obtain ⟨⟨pre, post, h1, h2⟩, ⟨A, B, h3, h4⟩⟩ := h
  refine ⟨by omega, ?_, ?_⟩
  · rw [h1, List.length_append, List.length_append, t.flat_len]; omega
  · rw [h3, List.length_append, List.length_append, t.ends_len]; omega
theorem Lies.rt {t : Tm} {p : Int} {l : List Op} {es : List Int} (h : Lies t p l es) : rd_T72 l p = t.rt ∧ rd es p = p + t.size := by
  obtain ⟨⟨pre, post, h1, h2⟩, ⟨A, B, h3, h4⟩⟩ := h
  obtain ⟨r1, hr1⟩ := t.flat_rt
  obtain ⟨r2, hr2⟩ := t.ends_rt p
  rw [hr1] at h1
  rw [hr2] at h3
  exact ⟨rdT_at (pre := pre) (post := r1 ++ post) (by rw [h1]; simp) h2, rd_at (A := A) (B := r2 ++ B) (by rw [h3]; simp) h4⟩
theorem Lies.un {o : Op} {a : Tm} {p : Int} {l : List Op} {es : List Int} (h : Lies (.un o a) p l es) : Lies a (p + 1) l es := by
  obtain ⟨⟨pre, post, h1, h2⟩, ⟨A, B, h3, h4⟩⟩ := h
  exact ⟨⟨pre ++ [o], post, by rw [h1]; simp [Tm.flat], by rw [List.length_append, List.length_singleton]; omega⟩, ⟨A ++ [p + 1 + a.size], B, by rw [h3]; simp [Tm.ends], by rw [List.length_append, List.length_singleton]; omega⟩⟩
theorem Lies.left {o : Op} {a b : Tm} {p : Int} {l : List Op} {es : List Int} (h : Lies (.bin o a b) p l es) : Lies a (p + 1) l es := by
  obtain ⟨⟨pre, post, h1, h2⟩, ⟨A, B, h3, h4⟩⟩ := h
  exact ⟨⟨pre ++ [o], b.flat ++ post, by rw [h1]; simp [Tm.flat], by rw [List.length_append, List.length_singleton]; omega⟩, ⟨A ++ [p + 1 + a.size + b.size], b.ends (p + 1 + a.size) ++ B, by rw [h3]; simp [Tm.ends], by rw [List.length_append, List.length_singleton]; omega⟩⟩
theorem Lies.right {o : Op} {a b : Tm} {p : Int} {l : List Op} {es : List Int} (h : Lies (.bin o a b) p l es) : Lies b (p + 1 + a.size) l es := by
  obtain ⟨⟨pre, post, h1, h2⟩, ⟨A, B, h3, h4⟩⟩ := h
  exact ⟨⟨pre ++ [o] ++ a.flat, post, by rw [h1]; simp [Tm.flat], by rw [List.length_append, List.length_append, List.length_singleton, a.flat_len]; omega⟩, ⟨A ++ [p + 1 + a.size + b.size] ++ a.ends (p + 1), B, by rw [h3]; simp [Tm.ends], by rw [List.length_append, List.length_append, List.length_singleton, a.ends_len]; omega⟩⟩
theorem lies_whole (t : Tm) : Lies t 0 t.flat (t.ends 0) := ⟨⟨[], [], by simp, rfl⟩, ⟨[], [], by simp, rfl⟩⟩
abbrev Vr := S77
def spn (v : Vr) : Int := v.f2 - v.f1 + 1
def cnt : List Vr → Int
  | [] => 1
  | v :: l => cnt l * spn v
def codeR : List Vr → List Int → Int
  | v :: l, x :: xs => codeR l xs * spn v + (x - v.f1)
  | _, _ => 0
def valR : List Vr → Int → List Int
  | [], _ => []
  | v :: l, c => (v.f1 + c % spn v) :: valR l (c / spn v)
def inR : List Vr → List Int → Prop
  | [], [] => True
  | v :: l, x :: xs => v.f1 ≤ x ∧ x ≤ v.f2 ∧ inR l xs
  | _, _ => False
theorem cnt_append : ∀ a b : List Vr, cnt (a ++ b) = cnt a * cnt b
  | [], b => by simp [cnt]
  | v :: a, b => by rw [List.cons_append, cnt, cnt, cnt_append a b, Int.mul_assoc, Int.mul_assoc, Int.mul_comm (cnt b)]
theorem cnt_reverse : ∀ l : List Vr, cnt l.reverse = cnt l
  | [] => rfl
  | v :: l => by rw [List.reverse_cons, cnt_append, cnt_reverse l]; simp [cnt]
theorem cnt_pos : ∀ {l : List Vr}, (∀ v ∈ l, v.f1 ≤ v.f2) → 0 < cnt l
  | [], _ => by decide
  | v :: l, h => by
    have h1 := cnt_pos (l := l) (fun u hu => h u (List.mem_cons_of_mem _ hu))
    have h2 := h v List.mem_cons_self
    exact Int.mul_pos h1 (by unfold spn; omega)
theorem cnt_le : ∀ {a b : List Vr}, (∀ v ∈ a ++ b, v.f1 ≤ v.f2) → cnt a ≤ cnt (a ++ b) := by
  intro a b h
  rw [cnt_append]
  have h1 := cnt_pos (l := a) (fun u hu => h u (List.mem_append_left _ hu))
  have h2 := cnt_pos (l := b) (fun u hu => h u (List.mem_append_right _ hu))
  have : cnt a * 1 ≤ cnt a * cnt b := Int.mul_le_mul_of_nonneg_left h2 (Int.le_of_lt h1)
  omega
theorem inR_len : ∀ {l : List Vr} {xs : List Int}, inR l xs → xs.length = l.length
  | [], [], _ => rfl
  | [], _ :: _, h => h.elim
  | _ :: _, [], h => h.elim
  | _ :: l, _ :: xs, h => by rw [List.length_cons, List.length_cons, inR_len h.2.2]
theorem codeR_rng : ∀ {l : List Vr} {xs : List Int}, (∀ v ∈ l, v.f1 ≤ v.f2) → inR l xs → 0 ≤ codeR l xs ∧ codeR l xs < cnt l
  | [], [], _, _ => by decide
  | [], _ :: _, _, h => h.elim
  | _ :: _, [], _, h => h.elim
  | v :: l, x :: xs, hl, h => by
    obtain ⟨h1, h2, h3⟩ := h
    obtain ⟨a, b⟩ := codeR_rng (l := l) (fun u hu => hl u (List.mem_cons_of_mem _ hu)) h3
    have hs : 0 < spn v := by unfold spn; omega
    have hx : x - v.f1 < spn v := by unfold spn; omega
    have h0 : 0 ≤ codeR l xs * spn v := Int.mul_nonneg a (Int.le_of_lt hs)
    have h4 : (codeR l xs + 1) * spn v ≤ cnt l * spn v := Int.mul_le_mul_of_nonneg_right b (Int.le_of_lt hs)
    rw [Int.add_mul, Int.one_mul] at h4
    simp only [codeR, cnt]
    omega
theorem valR_in : ∀ {l : List Vr} (c : Int), (∀ v ∈ l, v.f1 ≤ v.f2) → inR l (valR l c)
  | [], _, _ => trivial
  | v :: l, c, h => by
    have hv := h v List.mem_cons_self
    have hs : 0 < spn v := by unfold spn; omega
    have h1 := Int.emod_nonneg c (show spn v ≠ 0 by omega)
    have h2 := Int.emod_lt_of_pos c hs
    refine ⟨by omega, ?_, valR_in _ fun u hu => h u (List.mem_cons_of_mem _ hu)⟩
    have : spn v = v.f2 - v.f1 + 1 := rfl
    omega
def codeS (vs : List Vr) (xs : List Int) : Int := codeR vs.reverse xs.reverse
def valS (vs : List Vr) (c : Int) : List Int := (valR vs.reverse c).reverse
def inS : List Vr → List Int → Prop := inR
theorem inR_snoc : ∀ {l : List Vr} {xs : List Int} {v : Vr} {x : Int}, inR l xs → v.f1 ≤ x → x ≤ v.f2 → inR (l ++ [v]) (xs ++ [x])
  | [], [], v, x, _, h1, h2 => ⟨h1, h2, trivial⟩
  | [], _ :: _, _, _, h, _, _ => h.elim
  | _ :: _, [], _, _, h, _, _ => h.elim
  | _ :: l, _ :: xs, v, x, h, h1, h2 => ⟨h.1, h.2.1, inR_snoc h.2.2 h1 h2⟩
theorem inR_reverse : ∀ {l : List Vr} {xs : List Int}, inR l xs → inR l.reverse xs.reverse
  | [], [], _ => trivial
  | [], _ :: _, h => h.elim
  | _ :: _, [], h => h.elim
  | v :: l, x :: xs, h => by
    rw [List.reverse_cons, List.reverse_cons]
    exact inR_snoc (inR_reverse h.2.2) h.1 h.2.1
theorem inR_iff (l : List Vr) (xs : List Int) : inR l xs ↔ inR l.reverse xs.reverse :=
  ⟨inR_reverse, fun h => by have := inR_reverse h; rwa [List.reverse_reverse, List.reverse_reverse] at this⟩
theorem rev_le {l : List Vr} (h : ∀ v ∈ l, v.f1 ≤ v.f2) : ∀ v ∈ l.reverse, v.f1 ≤ v.f2 := fun v hv => h v (List.mem_reverse.mp hv)
theorem codeS_rng {l : List Vr} {xs : List Int} (hl : ∀ v ∈ l, v.f1 ≤ v.f2) (h : inS l xs) : 0 ≤ codeS l xs ∧ codeS l xs < cnt l := by
  have := codeR_rng (rev_le hl) (inR_reverse h)
  rwa [cnt_reverse] at this
theorem valS_in {l : List Vr} (c : Int) (h : ∀ v ∈ l, v.f1 ≤ v.f2) : inS l (valS l c) := by
  refine (inR_iff l _).mpr ?_
  unfold valS
  rw [List.reverse_reverse]
  exact valR_in c (rev_le h)
theorem codeS_snoc (l : List Vr) (xs : List Int) (v : Vr) (x : Int) : codeS (l ++ [v]) (xs ++ [x]) = codeS l xs * spn v + (x - v.f1) := by
  simp [codeS, codeR]
theorem inR_get : ∀ {l : List Vr} {xs : List Int}, inR l xs → ∀ (i : Nat) (v : Vr) (x : Int), l[i]? = some v → xs[i]? = some x → v.f1 ≤ x ∧ x ≤ v.f2
  | [], [], _, i, v, x, h, _ => by simp at h
  | [], _ :: _, h, _, _, _, _, _ => h.elim
  | _ :: _, [], h, _, _, _, _, _ => h.elim
  | u :: l, y :: xs, h, 0, v, x, h1, h2 => by
    obtain rfl : u = v := by simpa using h1
    obtain rfl : y = x := by simpa using h2
    exact ⟨h.1, h.2.1⟩
  | u :: l, y :: xs, h, i + 1, v, x, h1, h2 => inR_get h.2.2 i v x (by simpa using h1) (by simpa using h2)
theorem inR_of : ∀ {l : List Vr} {xs : List Int}, xs.length = l.length → (∀ (i : Nat) (v : Vr) (x : Int), l[i]? = some v → xs[i]? = some x → v.f1 ≤ x ∧ x ≤ v.f2) → inR l xs
  | [], [], _, _ => trivial
  | [], _ :: _, h, _ => by simp at h
  | _ :: _, [], h, _ => by simp at h
  | u :: l, y :: xs, h, hh => by
    obtain ⟨a, b⟩ := hh 0 u y rfl rfl
    exact ⟨a, b, inR_of (by simpa using h) fun i v x h1 h2 => hh (i + 1) v x (by simpa using h1) (by simpa using h2)⟩
theorem inR_set {l : List Vr} {xs : List Int} (h : inR l xs) {i : Nat} {v : Vr} (hv : l[i]? = some v) {n : Int} (h0 : v.f1 ≤ n) (h1 : n ≤ v.f2) : inR l (xs.set i n) := by
  have hlen := inR_len h
  have hi : i < l.length := (List.getElem?_eq_some_iff.mp hv).1
  refine inR_of (by simpa using hlen) fun j u x hu hx => ?_
  by_cases e : j = i
  · subst e
    obtain rfl : v = u := Option.some.inj (hv.symm.trans hu)
    rw [List.getElem?_set_self (by omega)] at hx
    obtain rfl := Option.some.inj hx
    exact ⟨h0, h1⟩
  · rw [List.getElem?_set_ne (by omega)] at hx
    exact inR_get h j u x hu hx
structure VarsOk (l : List Vr) : Prop where
  len : l.length ≤ 6
  nm : ∀ v ∈ l, model_name.ok v.f0 = true
  nd : (l.map fun v => v.f0.data.toList).Nodup
  rng : ∀ v ∈ l, model_variables.rng v
  sp : ∀ v ∈ l, v.f2 - v.f1 < 64
  st : cnt l ≤ 4096
theorem VarsOk.le {l : List Vr} (h : VarsOk l) : ∀ v ∈ l, v.f1 ≤ v.f2 := fun v hv => (h.rng v hv).2.2.1
theorem VarsOk.bd {l : List Vr} (h : VarsOk l) : ∀ v ∈ l, -1000 ≤ v.f1 ∧ v.f2 ≤ 1000 := fun v hv => ⟨(h.rng v hv).1, (h.rng v hv).2.1⟩
theorem spn_pos {v : Vr} (h : v.f1 ≤ v.f2) : 0 < spn v := by unfold spn; omega
theorem go_iff : ∀ (l : List Vr) (seen : List (List UInt8)) (st : Int), 1 ≤ st → (model_variables.go l seen st = 0 ↔ ((∀ v ∈ l, model_name.ok v.f0 = true) ∧ (l.map fun v => v.f0.data.toList).Nodup ∧ (∀ v ∈ l, v.f0.data.toList ∉ seen) ∧ (∀ v ∈ l, model_variables.rng v) ∧ (∀ v ∈ l, v.f2 - v.f1 < 64) ∧ (l = [] ∨ st * cnt l ≤ 4096))) := by
  intro l
  induction l with
  | nil => intro seen st h; simp [model_variables.go]
  | cons v l ih =>
    intro seen st hst
    unfold model_variables.go
    by_cases c1 : model_name.ok v.f0 = false
    · rw [if_pos c1]
      refine ⟨fun h => absurd h (by decide), fun h => ?_⟩
      have := h.1 v List.mem_cons_self
      rw [c1] at this
      cases this
    rw [if_neg c1]
    have c1' : model_name.ok v.f0 = true := by simpa using c1
    by_cases c2 : v.f0.data.toList ∈ seen
    · rw [if_pos c2]
      exact ⟨fun h => absurd h (by decide), fun h => absurd c2 (h.2.2.1 v List.mem_cons_self)⟩
    rw [if_neg c2]
    by_cases c3n : ¬ model_variables.rng v
    · rw [if_pos c3n]
      exact ⟨fun h => absurd h (by decide), fun h => absurd (h.2.2.2.1 v List.mem_cons_self) c3n⟩
    have c3 : model_variables.rng v := Decidable.not_not.mp c3n
    rw [if_neg c3n]
    by_cases c4 : v.f2 - v.f1 ≥ 64
    · rw [if_pos c4]
      exact ⟨fun h => absurd h (by decide), fun h => absurd (h.2.2.2.2.1 v List.mem_cons_self) (by omega)⟩
    rw [if_neg c4]
    have hle : v.f1 ≤ v.f2 := c3.2.2.1
    have hs := spn_pos hle
    have hsp : v.f2 - v.f1 + 1 = spn v := rfl
    rw [hsp]
    have hst1 : 1 ≤ st * spn v := by
      have : st * 1 ≤ st * spn v := Int.mul_le_mul_of_nonneg_left hs (by omega)
      omega
    by_cases c5 : st * spn v > 4096
    · rw [if_pos c5]
      refine ⟨fun h => absurd h (by decide), fun h => ?_⟩
      have hpos := cnt_pos (l := l) (fun u hu => (h.2.2.2.1 u (List.mem_cons_of_mem _ hu)).2.2.1)
      have h6 := h.2.2.2.2.2
      rcases h6 with h6 | h6
      · cases h6
      · rw [cnt, Int.mul_comm (cnt l), ← Int.mul_assoc] at h6
        have : st * spn v * 1 ≤ st * spn v * cnt l := Int.mul_le_mul_of_nonneg_left hpos (by omega)
        omega
    rw [if_neg c5, ih _ _ hst1]
    have hmul : st * cnt (v :: l) = st * spn v * cnt l := by rw [cnt, Int.mul_comm (cnt l), ← Int.mul_assoc]
    constructor
    · rintro ⟨h1, h2, h3, h4, h5, h6⟩
      refine ⟨?_, ?_, ?_, ?_, ?_, .inr ?_⟩
      · intro u hu
        rcases List.mem_cons.mp hu with rfl | hu
        · exact c1'
        · exact h1 u hu
      · rw [List.map_cons, List.nodup_cons]
        refine ⟨fun hm => ?_, h2⟩
        obtain ⟨u, hu, e⟩ := List.mem_map.mp hm
        exact h3 u hu (by rw [e]; simp)
      · intro u hu
        rcases List.mem_cons.mp hu with rfl | hu
        · exact c2
        · exact fun hm => h3 u hu (List.mem_append_left _ hm)
      · intro u hu
        rcases List.mem_cons.mp hu with rfl | hu
        · exact c3
        · exact h4 u hu
      · intro u hu
        rcases List.mem_cons.mp hu with rfl | hu
        · omega
        · exact h5 u hu
      · rw [hmul]
        rcases h6 with rfl | h6
        · rw [cnt]; omega
        · exact h6
    · rintro ⟨h1, h2, h3, h4, h5, h6⟩
      rw [List.map_cons, List.nodup_cons] at h2
      refine ⟨fun u hu => h1 u (List.mem_cons_of_mem _ hu), h2.2, fun u hu hm => ?_, fun u hu => h4 u (List.mem_cons_of_mem _ hu), fun u hu => h5 u (List.mem_cons_of_mem _ hu), .inr ?_⟩
      · rcases List.mem_append.mp hm with hm | hm
        · exact h3 u (List.mem_cons_of_mem _ hu) hm
        · exact h2.1 (List.mem_map.mpr ⟨u, hu, by simpa using hm⟩)
      · rcases h6 with h6 | h6
        · cases h6
        · rwa [hmul] at h6
theorem vars_iff (k : Nat) (l : List Vr) : model_variables.f k l = some 0 ↔ VarsOk l := by
  unfold model_variables.f
  by_cases c : (l.length : Int) > 6
  · rw [if_pos c]
    exact ⟨fun h => absurd (Option.some.inj h) (by decide), fun h => absurd h.len (by omega)⟩
  rw [if_neg c]
  constructor
  · intro h
    obtain ⟨h1, h2, _, h4, h5, h6⟩ := (go_iff l [] 1 (by decide)).mp (Option.some.inj h)
    refine ⟨by omega, h1, h2, h4, h5, ?_⟩
    rcases h6 with rfl | h6
    · decide
    · omega
  · intro h
    congr 1
    exact (go_iff l [] 1 (by decide)).mpr ⟨h.nm, h.nd, fun _ _ => by simp, h.rng, h.sp, .inr (by have := h.st; omega)⟩
structure OwnVar (nm : ByteArray) (v : Vr) : Prop where
  name : v.f0 = nm
  lo : -1 ≤ v.f1 ∧ v.f1 ≤ 1
  hi : v.f1 ≤ v.f2 ∧ v.f2 ≤ v.f1 + 3
  ini : v.f1 ≤ v.f3 ∧ v.f3 ≤ v.f2
theorem OwnVar.rng {nm : ByteArray} {v : Vr} (h : OwnVar nm v) : model_variables.rng v := by
  obtain ⟨_, h1, h2, h3⟩ := h
  unfold model_variables.rng
  omega
theorem OwnVar.spn {nm : ByteArray} {v : Vr} (h : OwnVar nm v) : 1 ≤ spn v ∧ spn v ≤ 4 := by
  obtain ⟨_, h1, h2, h3⟩ := h
  unfold Q.spn
  omega
inductive NumT (vars : Int) : Tm → Prop
  | num (v : Int) (h0 : -4 ≤ v) (h1 : v ≤ 4) : NumT vars (.leaf ⟨1, v⟩)
  | var (v : Int) (h0 : 0 ≤ v) (h1 : v < vars) : NumT vars (.leaf ⟨2, v⟩)
  | bin (o : Int) (a b : Tm) (h0 : 3 ≤ o) (h1 : o ≤ 5) (ha : NumT vars a) (hb : NumT vars b) : NumT vars (.bin ⟨o, 0⟩ a b)
inductive TruthT (vars : Int) : Tm → Prop
  | yes (o : Int) (h : o = 11 ∨ o = 12) : TruthT vars (.leaf ⟨o, 0⟩)
  | cmp (o : Int) (a b : Tm) (h : o = 6 ∨ o = 7) (ha : NumT vars a) (hb : NumT vars b) (hs : a.size ≤ 3 ∧ b.size ≤ 3) : TruthT vars (.bin ⟨o, 0⟩ a b)
  | not (a : Tm) (ha : TruthT vars a) : TruthT vars (.un ⟨10, 0⟩ a)
  | log (o : Int) (a b : Tm) (h : o = 8 ∨ o = 9) (ha : TruthT vars a) (hb : TruthT vars b) : TruthT vars (.bin ⟨o, 0⟩ a b)
theorem NumT.ok {vars : Int} {t : Tm} (h : NumT vars t) : t.ok := by
  induction h with
  | num v => exact ⟨(by decide : (1 : Int) ≤ 1), (by decide : (1 : Int) ≤ 18), (by decide : polish_Parts.tab.getD (1 : Int).toNat 0 = 0)⟩
  | var v => exact ⟨(by decide : (1 : Int) ≤ 2), (by decide : (2 : Int) ≤ 18), (by decide : polish_Parts.tab.getD (2 : Int).toNat 0 = 0)⟩
  | bin o a b h0 h1 _ _ iha ihb =>
    have : o = 3 ∨ o = 4 ∨ o = 5 := by omega
    rcases this with rfl | rfl | rfl <;> exact ⟨by decide, by decide, by decide, iha, ihb⟩
theorem TruthT.ok {vars : Int} {t : Tm} (h : TruthT vars t) : t.ok := by
  induction h with
  | yes o h => rcases h with rfl | rfl <;> exact ⟨by decide, by decide, by decide⟩
  | cmp o a b h ha hb _ => rcases h with rfl | rfl <;> exact ⟨by decide, by decide, by decide, ha.ok, hb.ok⟩
  | not a _ ih => exact ⟨by decide, by decide, by decide, ih⟩
  | log o a b h _ _ iha ihb => rcases h with rfl | rfl <;> exact ⟨by decide, by decide, by decide, iha, ihb⟩
theorem number_gen {raw : List Raw} (hw : rawWf raw) (vars : Int) (hv : vars ≤ 100) : ∀ (d : Nat), d ≤ 3 → ∀ (a tp : Int) (out : List Op), 0 ≤ a → a + (2 ^ (d + 1) : Nat) ≤ 100000 → out.length + 2 ^ (d + 1) ≤ 100000 →
    ∃ t, NumT vars t ∧ t.size + 1 ≤ 2 ^ (d + 1) ∧ (14 ≤ a → t.size = 1) ∧ Ev (fun k => grown_number.f k raw vars ⟨a, tp, out⟩ (d : Int)) ⟨a + t.size, tp, out ++ t.flat⟩ := by
  intro d
  induction d with
  | zero =>
    intro _ a tp out h0 h1 ho
    obtain ⟨r, hr, w0, w1⟩ := take_is hw a tp out h0 (by omega)
    have p5 := picked_is w0 (m := 5) (by decide)
    have p2 := picked_is w0 (m := 2) (by decide)
    have l2 := pk_lo r.f0 (m := 2) (by decide)
    have u2 := pk_hi r.f0 (m := 2) (by decide)
    generalize pk r.f0 2 = op at *
    by_cases c : op = 1 ∧ 0 < vars
    · have pv := picked_is w1 (m := vars) c.2
      have lv := pk_lo r.f1 c.2
      have uv := pk_hi r.f1 c.2
      generalize pk r.f1 vars = v at *
      refine ⟨.leaf ⟨2, v⟩, .var v lv uv, by simp [Tm.size], fun _ => rfl, Ev.step (f := fun _ => some ⟨a + 1, tp, out ++ [⟨2, v⟩]⟩) (fun k => ?_) (Ev.now _)⟩
      simp only [grown_number.f, hr, p5, p2, Option.bind_some]
      rw [if_pos (.inl rfl), Option.bind_some, if_pos c, pv, Option.bind_some, put_ok _ _ _ _ _ (by omega)]
    · have pv := picked_is w1 (m := 9) (by decide)
      have lv := pk_lo r.f1 (m := 9) (by decide)
      have uv := pk_hi r.f1 (m := 9) (by decide)
      generalize pk r.f1 9 = v at *
      refine ⟨.leaf ⟨1, v - 4⟩, .num (v - 4) (by omega) (by omega), by simp [Tm.size], fun _ => rfl, Ev.step (f := fun _ => some ⟨a + 1, tp, out ++ [⟨1, v - 4⟩]⟩) (fun k => ?_) (Ev.now _)⟩
      simp only [grown_number.f, hr, p5, p2, Option.bind_some]
      rw [if_pos (.inl rfl), Option.bind_some, if_neg c, if_pos (by omega), pv, Option.bind_some, w64 (n := v - 4) (by omega) (by omega), put_ok _ _ _ _ _ (by omega)]
  | succ d ih =>
    intro hd a tp out h0 h1 ho
    have hpow : 2 ≤ 2 ^ (d + 1) := by
      have : 2 ^ (d + 1) = 2 ^ d * 2 := Nat.pow_succ 2 d
      have : 0 < 2 ^ d := Nat.pow_pos (by decide)
      omega
    have hpow2 : 2 ^ (d + 1 + 1) = 2 ^ (d + 1) * 2 := Nat.pow_succ 2 (d + 1)
    have hpow3 : 2 ^ (d + 1) ≤ 8 := by
      have : d + 1 ≤ 3 := hd
      exact Nat.pow_le_pow_right (by decide) this
    obtain ⟨r, hr, w0, w1⟩ := take_is hw a tp out h0 (by omega)
    have p5 := picked_is w0 (m := 5) (by decide)
    have p2 := picked_is w0 (m := 2) (by decide)
    have l2 := pk_lo r.f0 (m := 2) (by decide)
    have u2 := pk_hi r.f0 (m := 2) (by decide)
    have l5 := pk_lo r.f0 (m := 5) (by decide)
    have u5 := pk_hi r.f0 (m := 5) (by decide)
    obtain ⟨op, hop, o0, o1, o2⟩ : ∃ op : Int, (if ((d + 1 : Nat) : Int) = 0 ∨ 14 < a + 1 then foretellkeep_picked.f r.f0 2 else some (pk r.f0 5)) = some op ∧ 0 ≤ op ∧ op < 5 ∧ (14 ≤ a → op < 2) := by
      by_cases c : ((d + 1 : Nat) : Int) = 0 ∨ 14 < a + 1
      · rw [if_pos c, p2]
        exact ⟨_, rfl, l2, by omega, fun _ => u2⟩
      · rw [if_neg c]
        exact ⟨_, rfl, l5, u5, by omega⟩
    by_cases c : op = 1 ∧ 0 < vars
    · have pv := picked_is w1 (m := vars) c.2
      have lv := pk_lo r.f1 c.2
      have uv := pk_hi r.f1 c.2
      generalize pk r.f1 vars = v at *
      refine ⟨.leaf ⟨2, v⟩, .var v lv uv, by simp [Tm.size]; omega, fun _ => rfl, Ev.step (f := fun _ => some ⟨a + 1, tp, out ++ [⟨2, v⟩]⟩) (fun k => ?_) (Ev.now _)⟩
      simp only [grown_number.f, hr, p5, Option.bind_some]
      rw [hop, Option.bind_some, if_pos c, pv, Option.bind_some, put_ok _ _ _ _ _ (by omega)]
    · by_cases c2 : op < 2
      · have pv := picked_is w1 (m := 9) (by decide)
        have lv := pk_lo r.f1 (m := 9) (by decide)
        have uv := pk_hi r.f1 (m := 9) (by decide)
        generalize pk r.f1 9 = v at *
        refine ⟨.leaf ⟨1, v - 4⟩, .num (v - 4) (by omega) (by omega), by simp [Tm.size]; omega, fun _ => rfl, Ev.step (f := fun _ => some ⟨a + 1, tp, out ++ [⟨1, v - 4⟩]⟩) (fun k => ?_) (Ev.now _)⟩
        simp only [grown_number.f, hr, p5, Option.bind_some]
        rw [hop, Option.bind_some, if_neg c, if_pos c2, pv, Option.bind_some, w64 (n := v - 4) (by omega) (by omega), put_ok _ _ _ _ _ (by omega)]
      · obtain ⟨t1, n1, s1, _, e1⟩ := ih (by omega) (a + 1) tp (out ++ [⟨1 + op, 0⟩]) (by omega) (by omega) (by rw [List.length_append, List.length_singleton]; omega)
        obtain ⟨t2, n2, s2, _, e2⟩ := ih (by omega) (a + 1 + t1.size) tp (out ++ [⟨1 + op, 0⟩] ++ t1.flat) (by omega) (by omega) (by rw [List.length_append, List.length_append, List.length_singleton, Tm.flat_len]; omega)
        refine ⟨.bin ⟨1 + op, 0⟩ t1 t2, .bin _ _ _ (by omega) (by omega) n1 n2, by simp only [Tm.size]; omega, fun h => by have := o2 h; omega, ?_⟩
        refine Ev.step (f := fun k => (grown_number.f k raw vars ⟨a + 1, tp, out ++ [⟨1 + op, 0⟩]⟩ (d : Int)).bind fun s2 => grown_number.f k raw vars s2 (d : Int)) (fun k => ?_) (Ev.bind e1 ?_)
        · simp only [grown_number.f, hr, p5, Option.bind_some]
          rw [hop, Option.bind_some, if_neg c, if_neg c2, w64 (n := 3 + op) (by omega) (by omega), w64 (n := 3 + op - 2) (by omega) (by omega), put_ok _ _ _ _ _ (by omega), Option.bind_some, w64 (n := ((d + 1 : Nat) : Int) - 1) (by omega) (by omega), show ((d + 1 : Nat) : Int) - 1 = (d : Int) by omega, show 3 + op - 2 = 1 + op by omega]
        · have e : (⟨a + (Tm.bin ⟨1 + op, 0⟩ t1 t2).size, tp, out ++ (Tm.bin ⟨1 + op, 0⟩ t1 t2).flat⟩ : GrSt) = ⟨a + 1 + t1.size + t2.size, tp, out ++ [⟨1 + op, 0⟩] ++ t1.flat ++ t2.flat⟩ := by
            simp [Tm.size, Tm.flat]
            omega
          rw [e]
          exact e2
theorem truth_gen {raw : List Raw} (hw : rawWf raw) (vars : Int) (hv : vars ≤ 100) : ∀ (d : Nat) (a tp : Int) (out : List Op), d ≤ 10 → 0 ≤ a → a + 1000 * d ≤ 40000 → out.length + 1000 * d ≤ 40000 →
    ∃ t, TruthT vars t ∧ ((a ≤ 9 → a + t.size ≤ 16 + 3 * d) ∧ (10 ≤ a → t.size ≤ 6) ∧ (13 ≤ a → t.size ≤ 3)) ∧ Ev (fun k => grown_truth.f k raw vars ⟨a, tp, out⟩ (d : Int)) ⟨a + t.size, tp, out ++ t.flat⟩ := by
  have hcmp : ∀ (o : Int), (o = 6 ∨ o = 7) → ∀ (a tp : Int) (out : List Op), 0 ≤ a → a ≤ 50000 → out.length ≤ 50000 →
      ∃ t, TruthT vars t ∧ (t.size ≤ 7 ∧ (10 ≤ a → t.size ≤ 6) ∧ (13 ≤ a → t.size ≤ 3)) ∧ Ev (fun k => (grown_number.f k raw vars ⟨a + 1, tp, out ++ [⟨o, 0⟩]⟩ 1).bind fun s2 => grown_number.f k raw vars s2 1) ⟨a + t.size, tp, out ++ t.flat⟩ := by
    intro o ho a tp out h0 h1 hl
    obtain ⟨t1, n1, s1, z1, e1⟩ := number_gen hw vars hv 1 (by decide) (a + 1) tp (out ++ [⟨o, 0⟩]) (by omega) (by omega) (by rw [List.length_append, List.length_singleton]; omega)
    obtain ⟨t2, n2, s2, z2, e2⟩ := number_gen hw vars hv 1 (by decide) (a + 1 + t1.size) tp (out ++ [⟨o, 0⟩] ++ t1.flat) (by omega) (by omega) (by rw [List.length_append, List.length_append, List.length_singleton, Tm.flat_len]; omega)
    have q1 := t1.size_pos
    have q2 := t2.size_pos
    refine ⟨.bin ⟨o, 0⟩ t1 t2, .cmp _ _ _ ho n1 n2 ⟨by omega, by omega⟩, by simp only [Tm.size]; refine ⟨?_, ?_, ?_⟩ <;> omega, Ev.bind e1 ?_⟩
    have e : (⟨a + (Tm.bin ⟨o, 0⟩ t1 t2).size, tp, out ++ (Tm.bin ⟨o, 0⟩ t1 t2).flat⟩ : GrSt) = ⟨a + 1 + t1.size + t2.size, tp, out ++ [⟨o, 0⟩] ++ t1.flat ++ t2.flat⟩ := by
      simp [Tm.size, Tm.flat]
      omega
    rw [e]
    exact e2
  intro d
  induction d with
  | zero =>
    intro a tp out hd h0 h1 ho
    obtain ⟨r, hr, w0, w1⟩ := take_is hw a tp out h0 (by omega)
    have p9 := picked_is w0 (m := 9) (by decide)
    have p3 := picked_is w0 (m := 3) (by decide)
    have l3 := pk_lo r.f0 (m := 3) (by decide)
    have u3 := pk_hi r.f0 (m := 3) (by decide)
    generalize pk r.f0 3 = op at *
    have hop : op = 0 ∨ op = 1 ∨ op = 2 := by omega
    rcases hop with rfl | rfl | rfl
    · have pv := picked_is w1 (m := 2) (by decide)
      have lv := pk_lo r.f1 (m := 2) (by decide)
      have uv := pk_hi r.f1 (m := 2) (by decide)
      generalize pk r.f1 2 = v at *
      refine ⟨.leaf ⟨11 + v, 0⟩, .yes _ (by omega), by simp only [Tm.size]; refine ⟨?_, ?_, ?_⟩ <;> omega, Ev.step (f := fun _ => some ⟨a + 1, tp, out ++ [⟨11 + v, 0⟩]⟩) (fun k => ?_) (Ev.now _)⟩
      simp only [grown_truth.f, hr, p9, p3, Option.bind_some]
      rw [if_pos (.inl rfl), Option.bind_some, if_pos rfl, pv, Option.bind_some, w64 (n := 11 + v) (by omega) (by omega), put_ok _ _ _ _ _ (by omega)]
    · obtain ⟨t, ht, hs, he⟩ := hcmp 7 (.inr rfl) a tp out h0 (by omega) (by omega)
      refine ⟨t, ht, by omega, Ev.step (fun k => ?_) he⟩
      simp only [grown_truth.f, hr, p9, p3, Option.bind_some]
      rw [if_pos (.inl rfl), Option.bind_some, if_neg (by decide), if_pos (.inl rfl), put_ok _ _ _ _ _ (by omega), Option.bind_some]
    · obtain ⟨t, ht, hs, he⟩ := hcmp 6 (.inl rfl) a tp out h0 (by omega) (by omega)
      refine ⟨t, ht, by omega, Ev.step (fun k => ?_) he⟩
      simp only [grown_truth.f, hr, p9, p3, Option.bind_some]
      rw [if_pos (.inl rfl), Option.bind_some, if_neg (by decide), if_neg (by decide), if_pos (.inl rfl), put_ok _ _ _ _ _ (by omega), Option.bind_some]
  | succ d ih =>
    intro a tp out hd h0 h1 ho
    obtain ⟨r, hr, w0, w1⟩ := take_is hw a tp out h0 (by omega)
    have p9 := picked_is w0 (m := 9) (by decide)
    have p3 := picked_is w0 (m := 3) (by decide)
    have l3 := pk_lo r.f0 (m := 3) (by decide)
    have u3 := pk_hi r.f0 (m := 3) (by decide)
    have l9 := pk_lo r.f0 (m := 9) (by decide)
    have u9 := pk_hi r.f0 (m := 9) (by decide)
    obtain ⟨op, hop, o0, o1, o2⟩ : ∃ op : Int, (if ((d + 1 : Nat) : Int) = 0 ∨ 10 < a + 1 then foretellkeep_picked.f r.f0 3 else some (pk r.f0 9)) = some op ∧ 0 ≤ op ∧ op < 9 ∧ (10 ≤ a → op < 3) := by
      by_cases c : ((d + 1 : Nat) : Int) = 0 ∨ 10 < a + 1
      · rw [if_pos c, p3]
        exact ⟨_, rfl, l3, by omega, fun _ => u3⟩
      · rw [if_neg c]
        exact ⟨_, rfl, l9, u9, by omega⟩
    by_cases c0 : op = 0
    · have pv := picked_is w1 (m := 2) (by decide)
      have lv := pk_lo r.f1 (m := 2) (by decide)
      have uv := pk_hi r.f1 (m := 2) (by decide)
      generalize pk r.f1 2 = v at *
      refine ⟨.leaf ⟨11 + v, 0⟩, .yes _ (by omega), by simp only [Tm.size]; refine ⟨?_, ?_, ?_⟩ <;> omega, Ev.step (f := fun _ => some ⟨a + 1, tp, out ++ [⟨11 + v, 0⟩]⟩) (fun k => ?_) (Ev.now _)⟩
      simp only [grown_truth.f, hr, p9, Option.bind_some]
      rw [hop, Option.bind_some, if_pos c0, pv, Option.bind_some, w64 (n := 11 + v) (by omega) (by omega), put_ok _ _ _ _ _ (by omega)]
    by_cases c1 : op = 1 ∨ op = 3
    · obtain ⟨t, ht, hs, he⟩ := hcmp 7 (.inr rfl) a tp out h0 (by omega) (by omega)
      refine ⟨t, ht, by omega, Ev.step (fun k => ?_) he⟩
      simp only [grown_truth.f, hr, p9, Option.bind_some]
      rw [hop, Option.bind_some, if_neg c0, if_pos c1, put_ok _ _ _ _ _ (by omega), Option.bind_some]
    by_cases c2 : op = 2 ∨ op = 4
    · obtain ⟨t, ht, hs, he⟩ := hcmp 6 (.inl rfl) a tp out h0 (by omega) (by omega)
      refine ⟨t, ht, by omega, Ev.step (fun k => ?_) he⟩
      simp only [grown_truth.f, hr, p9, Option.bind_some]
      rw [hop, Option.bind_some, if_neg c0, if_neg c1, if_pos c2, put_ok _ _ _ _ _ (by omega), Option.bind_some]
    by_cases c3 : op = 5
    · obtain ⟨t1, n1, s1, e1⟩ := ih (a + 1) tp (out ++ [⟨10, 0⟩]) (by omega) (by omega) (by omega) (by rw [List.length_append, List.length_singleton]; omega)
      refine ⟨.un ⟨10, 0⟩ t1, .not _ n1, by simp only [Tm.size]; refine ⟨?_, ?_, ?_⟩ <;> omega, ?_⟩
      refine Ev.step (f := fun k => grown_truth.f k raw vars ⟨a + 1, tp, out ++ [⟨10, 0⟩]⟩ (d : Int)) (fun k => ?_) ?_
      · simp only [grown_truth.f, hr, p9, Option.bind_some]
        rw [hop, Option.bind_some, if_neg c0, if_neg c1, if_neg c2, if_pos c3, put_ok _ _ _ _ _ (by omega), Option.bind_some, w64 (n := ((d + 1 : Nat) : Int) - 1) (by omega) (by omega), show ((d + 1 : Nat) : Int) - 1 = (d : Int) by omega]
      · have e : (⟨a + (Tm.un ⟨10, 0⟩ t1).size, tp, out ++ (Tm.un ⟨10, 0⟩ t1).flat⟩ : GrSt) = ⟨a + 1 + t1.size, tp, out ++ [⟨10, 0⟩] ++ t1.flat⟩ := by
          simp [Tm.size, Tm.flat]
          omega
        rw [e]
        exact e1
    · have hm := Int.tmod_eq_emod_of_nonneg (a := op) (b := 2) o0
      have hkind : ∃ o : Int, (o = 8 ∨ o = 9) ∧ 8 + Int.tmod op 2 = o := ⟨_, by omega, rfl⟩
      obtain ⟨o, ho89, hko⟩ := hkind
      obtain ⟨t1, n1, s1, e1⟩ := ih (a + 1) tp (out ++ [⟨o, 0⟩]) (by omega) (by omega) (by omega) (by rw [List.length_append, List.length_singleton]; omega)
      obtain ⟨t2, n2, s2, e2⟩ := ih (a + 1 + t1.size) tp (out ++ [⟨o, 0⟩] ++ t1.flat) (by omega) (by omega) (by omega) (by rw [List.length_append, List.length_append, List.length_singleton, Tm.flat_len]; omega)
      refine ⟨.bin ⟨o, 0⟩ t1 t2, .log _ _ _ ho89 n1 n2, by simp only [Tm.size]; refine ⟨?_, ?_, ?_⟩ <;> omega, ?_⟩
      refine Ev.step (f := fun k => (grown_truth.f k raw vars ⟨a + 1, tp, out ++ [⟨o, 0⟩]⟩ (d : Int)).bind fun s2 => grown_truth.f k raw vars s2 (d : Int)) (fun k => ?_) (Ev.bind e1 ?_)
      · simp only [grown_truth.f, hr, p9, Option.bind_some]
        rw [hop, Option.bind_some, if_neg c0, if_neg c1, if_neg c2, if_neg c3, hko, w64 (n := o) (by omega) (by omega), put_ok _ _ _ _ _ (by omega), Option.bind_some, w64 (n := ((d + 1 : Nat) : Int) - 1) (by omega) (by omega), show ((d + 1 : Nat) : Int) - 1 = (d : Int) by omega]
      · have e : (⟨a + (Tm.bin ⟨o, 0⟩ t1 t2).size, tp, out ++ (Tm.bin ⟨o, 0⟩ t1 t2).flat⟩ : GrSt) = ⟨a + 1 + t1.size + t2.size, tp, out ++ [⟨o, 0⟩] ++ t1.flat ++ t2.flat⟩ := by
          simp [Tm.size, Tm.flat]
          omega
        rw [e]
        exact e2
theorem truth_is {raw : List Raw} (hw : rawWf raw) (vars : Int) (hv : vars ≤ 100) : ∃ t, TruthT vars t ∧ t.size ≤ 25 ∧ Ev (fun k => foretellkeep_Truth.f k raw vars) t.flat := by
  obtain ⟨t, ht, hs, he⟩ := truth_gen hw vars hv 3 0 0 [] (by decide) (by decide) (by decide) (by decide)
  refine ⟨t, ht, by omega, ?_⟩
  unfold foretellkeep_Truth.f
  exact Ev.bind he (Ev.now _)
theorem number_is {raw : List Raw} (hw : rawWf raw) (vars : Int) (hv : vars ≤ 100) : ∃ t, NumT vars t ∧ t.size ≤ 7 ∧ Ev (fun k => foretellkeep_Number.f k raw vars) t.flat := by
  obtain ⟨t, ht, hs, _, he⟩ := number_gen hw vars hv 2 (by decide) 0 0 [] (by decide) (by decide) (by decide)
  refine ⟨t, ht, by omega, ?_⟩
  unfold foretellkeep_Number.f
  exact Ev.bind he (Ev.now _)
theorem joined2 (o : Int) (a b : Tm) (h : a.size + b.size ≤ 100000) : Ev (fun k => foretellkeep_joined.f k o [a.flat, b.flat]) (Tm.bin ⟨o, 0⟩ a b).flat := by
  have la := a.flat_len
  have lb := b.flat_len
  unfold foretellkeep_joined.f
  refine Ev.step (f := fun k => foretellkeep_joined.l0 k [a.flat, b.flat] ([⟨o, 0⟩] ++ a.flat) 1) (fun k => ?_) (Ev.step (f := fun k => foretellkeep_joined.l0 k [a.flat, b.flat] ([⟨o, 0⟩] ++ a.flat ++ b.flat) 2) (fun k => ?_) (Ev.step (f := fun _ => some ([⟨o, 0⟩] ++ a.flat ++ b.flat)) (fun k => ?_) (ev_some (by simp [Tm.flat]))))
  · simp only [foretellkeep_joined.l0, show rd_L4 [a.flat, b.flat] 0 = a.flat from rfl, show wrap64 ((0 : Int) + 1) = 1 from w64 (n := (0 : Int) + 1) (by decide) (by decide)]
    rw [if_pos (by simp), if_pos (by decide), if_pos (by simp; omega)]
  · simp only [foretellkeep_joined.l0, show rd_L4 [a.flat, b.flat] 1 = b.flat from rfl, show wrap64 ((1 : Int) + 1) = 2 from w64 (n := (1 : Int) + 1) (by decide) (by decide)]
    rw [if_pos (by simp), if_pos (by decide), if_pos (by simp; omega)]
  · simp only [foretellkeep_joined.l0]
    rw [if_neg (by simp)]
theorem srt_sorted (l : List Int) : (srt l).Pairwise (· ≤ ·) := by
  have := List.pairwise_mergeSort (le := fun x y : Int => decide (x ≤ y)) (fun a b c h1 h2 => by simp only [decide_eq_true_eq] at *; omega) (fun a b => by simp only [Bool.or_eq_true, decide_eq_true_eq]; omega) l
  exact this.imp (fun h => of_decide_eq_true h)
theorem srt_mem (l : List Int) (x : Int) : x ∈ srt l ↔ x ∈ l := List.mem_mergeSort
theorem upTo_facts {d : Array Int} (hs : ∀ i j : Nat, i ≤ j → j < d.size → d[i]! ≤ d[j]!) : ∀ m, m ≤ d.size → (Lib.compactUpTo d m).Pairwise (· < ·) ∧ ∀ x, x ∈ Lib.compactUpTo d m ↔ ∃ j, j < m ∧ d[j]! = x := by
  intro m
  induction m with
  | zero => intro _; exact ⟨by simp [Lib.compactUpTo], fun x => by simp [Lib.compactUpTo]⟩
  | succ m ih =>
    intro hm
    obtain ⟨h1, h2⟩ := ih (by omega)
    rw [Lib.compactUpTo_succ]
    by_cases hk : Lib.keeps d m = true
    · rw [if_pos hk]
      have hlt : ∀ x ∈ Lib.compactUpTo d m, x < d[m]! := by
        intro x hx
        obtain ⟨j, hj, rfl⟩ := (h2 x).mp hx
        have hne : d[m]! ≠ d[m - 1]! := by
          unfold Lib.keeps at hk
          rcases of_decide_eq_true hk with h | h
          · omega
          · exact h
        have a := hs j (m - 1) (by omega) (by omega)
        have b := hs (m - 1) m (by omega) (by omega)
        omega
      refine ⟨?_, fun x => ?_⟩
      · rw [List.pairwise_append]
        exact ⟨h1, List.pairwise_singleton _ _, fun a ha b hb => by obtain rfl := List.mem_singleton.mp hb; exact hlt a ha⟩
      · rw [List.mem_append, List.mem_singleton, h2]
        constructor
        · rintro (⟨j, hj, e⟩ | rfl)
          · exact ⟨j, by omega, e⟩
          · exact ⟨m, by omega, rfl⟩
        · rintro ⟨j, hj, e⟩
          by_cases c : j = m
          · subst c; exact .inr e.symm
          · exact .inl ⟨j, by omega, e⟩
    · rw [if_neg hk, List.append_nil]
      refine ⟨h1, fun x => ?_⟩
      rw [h2]
      constructor
      · rintro ⟨j, hj, e⟩
        exact ⟨j, by omega, e⟩
      · rintro ⟨j, hj, e⟩
        by_cases c : j = m
        · subst c
          unfold Lib.keeps at hk
          have hk2 : ¬ (j = 0 ∨ d[j]! ≠ d[j - 1]!) := fun h => hk (decide_eq_true h)
          have h0 : j ≠ 0 := fun h => hk2 (.inl h)
          have he : d[j]! = d[j - 1]! := Decidable.not_not.mp (fun h => hk2 (.inr h))
          exact ⟨j - 1, by omega, by rw [← he]; exact e⟩
        · exact ⟨j, by omega, e⟩
theorem get_bang {l : List Int} {j : Nat} (h : j < l.length) : l.toArray[j]! = l[j] := by simp [h]
theorem uniq_facts (l : List Int) : (uniq l).Pairwise (· < ·) ∧ ∀ x, x ∈ uniq l ↔ x ∈ l := by
  have hs := List.pairwise_iff_getElem.mp (srt_sorted l)
  obtain ⟨h1, h2⟩ := upTo_facts (d := (srt l).toArray) (fun i j hij hj => by
    have hj' : j < (srt l).length := by simpa using hj
    rw [get_bang (show i < (srt l).length by omega), get_bang hj']
    by_cases e : i = j
    · subst e; exact Int.le_refl _
    · exact hs i j (by omega) hj' (by omega)) (srt l).length (by simp)
  refine ⟨h1, fun x => ?_⟩
  rw [← srt_mem l x]
  show x ∈ Lib.compactUpTo _ _ ↔ _
  rw [h2]
  constructor
  · rintro ⟨j, hj, rfl⟩
    rw [get_bang hj]
    exact List.getElem_mem hj
  · intro hx
    obtain ⟨j, hj, rfl⟩ := List.getElem_of_mem hx
    exact ⟨j, hj, get_bang hj⟩
theorem uniq_len (l : List Int) : (uniq l).length ≤ l.length := by
  have := compact_len (srt l)
  rw [srt_len] at this
  exact this
theorem uniq_mem (l : List Int) (x : Int) : x ∈ uniq l ↔ x ∈ l := (uniq_facts l).2 x
theorem uniq_empty {l : List Int} : uniq l = [] ↔ l = [] := by
  constructor
  · intro h
    cases l with
    | nil => rfl
    | cons a l =>
      have := (uniq_mem (a :: l) a).mpr List.mem_cons_self
      rw [h] at this
      cases this
  · rintro rfl; exact uniq_nil
theorem has_is (l : List Int) (n : Int) (hl : l.length ≤ 1000000000) : Ev (fun k => foretellkeep_has.f k l n) (decide (n ∈ l)) := by
  have key : ∀ (d i : Nat), i + d = l.length → n ∉ l.take i → Ev (fun k => foretellkeep_has.l0 k l n (i : Int)) (decide (n ∈ l)) := by
    intro d
    induction d with
    | zero =>
      intro i hi hn
      rw [List.take_of_length_le (by omega)] at hn
      refine Ev.step (f := fun _ => some (decide (n ∈ l))) (fun k => ?_) (Ev.now _)
      rw [foretellkeep_has.l0, if_neg (by omega), decide_eq_false hn]
    | succ d ih =>
      intro i hi hn
      have hil : i < l.length := by omega
      by_cases c : l[i] = n
      · refine Ev.step (f := fun _ => some (decide (n ∈ l))) (fun k => ?_) (Ev.now _)
        rw [foretellkeep_has.l0, if_pos (by omega), if_pos (by omega), rd_eq hil, if_pos c, decide_eq_true (by rw [← c]; exact List.getElem_mem hil)]
      · refine Ev.step (f := fun k => foretellkeep_has.l0 k l n ((i + 1 : Nat) : Int)) (fun k => ?_) (ih (i + 1) (by omega) ?_)
        · rw [foretellkeep_has.l0, if_pos (by omega), if_pos (by omega), rd_eq hil, if_neg c, w64 (n := (i : Int) + 1) (by omega) (by omega)]
          rfl
        · rw [List.take_add_one, List.getElem?_eq_getElem hil]
          intro hm
          rcases List.mem_append.mp hm with hm | hm
          · exact hn hm
          · have e : n = l[i] := by simpa using hm
            exact c e.symm
  exact key l.length 0 (Nat.zero_add _) (by simp)
end Go.Proofs.YtbokbbcoekeoaaaDoor.Q
end
section
/- How a law's arguments, whatever their type is made of (numbers, truths, texts, slices, structs, short arrays), read as the printed kinds. Nothing of the program stands here. -/
namespace Go.Proofs.YtbokbbcoekeoaaaDoor.O
open Go.RowKit Go.Deep Go.Proofs.YtbokbbcoekeoaaaDoorW.PrintWords Go.Proofs.YtbokbbcoekeoaaaDoorW.PrintLast Go.Proofs.YtbokbbcoekeoaaaDoorW.PrintMore
set_option linter.unusedVariables false
variable {P : Program}

/-- What reads as data of type t reads as kind d, and is well formed. -/
def Opens (P : Program) (t : TypeId) {α : Type} (d : Kd α) (wf : α → Prop) : Prop :=
  ∀ {H : Type} {enc : TypeId × Value → H} {w : World} {base : Nat} {spare : Nat → Bool} {held : Bool} {fuel : Nat} {cs : List Value} {x : DataW H × List MemPlace},
    DataW.trod enc P w base spare held fuel t cs = some x → ∃ a, d.K w a cs ∧ wf a

theorem opens_int {t : TypeId} {k : IntKind} (ht : P.underlying t = some (.int k)) : Opens P t (Kd.int k) (fun n => (Lit.int k n).wf = true) := by
  intro H enc w base spare held fuel cs x h
  obtain ⟨n, rfl, _, hw⟩ := DataW.trod_int ht h
  exact ⟨n, rfl, hw⟩
theorem opens_bool {t : TypeId} (ht : P.underlying t = some .bool) : Opens P t Kd.bool (fun _ => True) := by
  intro H enc w base spare held fuel cs x h
  obtain ⟨n, rfl, _⟩ := DataW.trod_bool ht h
  exact ⟨n, rfl, trivial⟩
theorem opens_string {t : TypeId} (ht : P.underlying t = some .string) : Opens P t Kd.string (fun s => s.size ≤ maxLen) := by
  intro H enc w base spare held fuel cs x h
  obtain ⟨n, rfl, _, hw⟩ := DataW.trod_string ht h
  exact ⟨n, rfl, hw⟩
theorem opens_iso {t : TypeId} {α β : Type} {d : Kd α} {wf : α → Prop} (h : Opens P t d wf) (f : β → α) (g : α → β) (hg : ∀ a, f (g a) = a) : Opens P t (Kd.iso d f) (fun b => wf (f b)) := by
  intro H enc w base spare held fuel cs x hx
  obtain ⟨a, ha, hw⟩ := h hx
  exact ⟨g a, by show d.K w (f (g a)) cs; rw [hg]; exact ha, by show wf (f (g a)); rw [hg]; exact hw⟩
theorem opens_slice {t e : TypeId} {α : Type} {d : Kd α} {wf : α → Prop} (ht : P.underlying t = some (.slice e)) (hc : P.cellsOf e = d.sz) (h : Opens P e d wf) :
    Opens P t (Kd.slice e d) (fun l => l.length ≤ maxLen ∧ ∀ a ∈ l, wf a) := by
  intro H enc w base spare held fuel cs x hx
  rcases open_slice ht hx with ⟨rfl, _⟩ | ⟨ad, len, cap, m, n, D, Pl, rfl, hb, hl, hm, hmm, _, hel⟩
  · exact ⟨[], ⟨none, 0, rfl, Nat.le_refl _, rfl, by simp, fun hh => absurd hh (Nat.lt_irrefl 0)⟩, by simp, fun a ha => by simp at ha⟩
  · have hlm : len ≤ m := by rw [hmm]; split <;> omega
    have hex : ∀ i, i < len → ∃ a, (∃ cs', w.cells? base (ad.add (i * P.cellsOf e)) (P.cellsOf e) = some cs' ∧ d.K w a cs') ∧ wf a := by
      intro i hi
      obtain ⟨cs', h1, h2⟩ := hel i (by omega)
      obtain ⟨a, ha, hw⟩ := h h2
      exact ⟨a, ⟨cs', h1, ha⟩, hw⟩
    have hlist : ∀ k, k ≤ len → ∃ l : List α, l.length = k ∧ ∀ (i : Nat) (p : α), l[i]? = some p → (∃ cs', w.cells? base (ad.add (i * P.cellsOf e)) (P.cellsOf e) = some cs' ∧ d.K w p cs') ∧ wf p := by
      intro k
      induction k with
      | zero => intro _; exact ⟨[], rfl, fun i p hp => by simp at hp⟩
      | succ k ih =>
        intro hk
        obtain ⟨l, hll, hl2⟩ := ih (by omega)
        obtain ⟨a, ha⟩ := hex k (by omega)
        refine ⟨l ++ [a], by simp [hll], fun i p hp => ?_⟩
        by_cases hi : i < l.length
        · rw [List.getElem?_append_left hi] at hp; exact hl2 i p hp
        · rw [List.getElem?_append_right (by omega)] at hp
          have hik : i - l.length = 0 := by
            rcases Nat.eq_zero_or_pos (i - l.length) with h0 | h0
            · exact h0
            · obtain ⟨q, hq⟩ : ∃ q, i - l.length = q + 1 := ⟨i - l.length - 1, by omega⟩
              rw [hq] at hp; simp at hp
          rw [hik] at hp
          have : i = k := by omega
          subst this
          obtain rfl : a = p := by simpa using hp
          exact ha
    obtain ⟨l, hll, hl2⟩ := hlist len (Nat.le_refl _)
    refine ⟨l, ⟨some ad, cap, by rw [hll], by omega, rfl, by rw [hll]; have : maxLen = 9223372036854775807 := rfl; omega, fun _ => ⟨ad, rfl, fun j p hj => ?_⟩⟩, by omega, fun a ha => ?_⟩
    · obtain ⟨⟨cs', h1, h2⟩, _⟩ := hl2 j p hj
      obtain ⟨_, hlen, hcell⟩ := World.cells?_some h1
      refine ⟨cs', by rw [hlen, hc], h2, fun i u hu => ?_⟩
      have hi : i < cs'.length := (List.getElem?_eq_some_iff.1 hu).1
      have h3 := hcell i (by omega)
      rw [hu] at h3
      rw [← hc, ← Addr.add_add]
      exact h3
    · obtain ⟨i, hi, rfl⟩ := List.getElem_of_mem ha
      exact (hl2 i _ (List.getElem?_eq_getElem hi)).2

/-- Fields in line from a cell on. -/
def OpensF (P : Program) (off : Nat) (fs : List (TypeId × Nat)) {α : Type} (d : Kd α) (wf : α → Prop) : Prop :=
  ∀ {H : Type} {enc : TypeId × Value → H} {w : World} {base : Nat} {spare : Nat → Bool} {held : Bool} {cs : List Value},
    cs.length = off + d.sz → (∀ (i : Nat) f, fs[i]? = some f → ∃ fuel x, DataW.trod enc P w base spare held fuel f.1 ((cs.drop f.2).take (P.cellsOf f.1)) = some x) → ∃ a, d.K w a (cs.drop off) ∧ wf a
theorem opensF_one {off : Nat} {t : TypeId} {α : Type} {d : Kd α} {wf : α → Prop} (hc : P.cellsOf t = d.sz) (h : Opens P t d wf) : OpensF P off [(t, off)] d wf := by
  intro H enc w base spare held cs hl hf
  obtain ⟨fuel, x, hx⟩ := hf 0 _ rfl
  obtain ⟨a, ha, hw⟩ := h hx
  refine ⟨a, ?_, hw⟩
  rw [List.take_of_length_le (by simp [hl, hc])] at ha
  exact ha
theorem opensF_cons {off off' : Nat} {t : TypeId} {fs : List (TypeId × Nat)} {α β : Type} {d : Kd α} {d' : Kd β} {wf : α → Prop} {wf' : β → Prop} (hc : P.cellsOf t = d.sz) (ho : off' = off + d.sz) (h : Opens P t d wf) (h' : OpensF P off' fs d' wf') :
    OpensF P off ((t, off) :: fs) (Kd.pair d d') (fun x => wf x.1 ∧ wf' x.2) := by
  intro H enc w base spare held cs hl hf
  obtain ⟨fuel, x, hx⟩ := hf 0 _ rfl
  obtain ⟨a, ha, hw⟩ := h hx
  have hl' : cs.length = off + (d.sz + d'.sz) := hl
  obtain ⟨b, hb, hw'⟩ := h' (enc := enc) (w := w) (base := base) (spare := spare) (held := held) (cs := cs) (by omega) (fun i f hi => hf (i + 1) f (by simpa using hi))
  refine ⟨(a, b), ⟨(cs.drop off).take (P.cellsOf t), cs.drop off', ?_, ha, hb⟩, hw, hw'⟩
  rw [hc, ho, ← List.drop_drop, List.take_append_drop]
theorem opens_struct {t : TypeId} {fs : Array Field} {l : List (TypeId × Nat)} {α : Type} {d : Kd α} {wf : α → Prop} (ht : P.underlying t = some (.struct fs)) (hl : fs.toList.map (fun f => (f.type, f.offset)) = l) (hc : P.cellsOf t = d.sz) (h : OpensF P 0 l d wf) : Opens P t d wf := by
  intro H enc w base spare held fuel cs x hx
  obtain ⟨xs, n, _, _, hlen, hxs, hf⟩ := DataW.trod_struct ht hx
  have := h (enc := enc) (w := w) (base := base) (spare := spare) (held := held) (cs := cs) (by omega) (fun i f hi => by
    rw [← hl, List.getElem?_map] at hi
    obtain ⟨f', hf', rfl⟩ := Option.map_eq_some_iff.1 hi
    have hi2 : fs[i]? = some f' := by simpa using hf'
    have hil : i < fs.size := (Array.getElem?_eq_some_iff.1 hi2).1
    exact ⟨n, xs[i]'(by omega), by rw [hf i f' hi2]; exact List.getElem?_eq_getElem _⟩)
  simpa using this
theorem opens_array {t e : TypeId} {n : Nat} {l : List (TypeId × Nat)} {α : Type} {d : Kd α} {wf : α → Prop} (ht : P.underlying t = some (.array n e)) (hl : (List.range n).map (fun i => (e, i * P.cellsOf e)) = l) (hc : P.cellsOf t = d.sz) (h : OpensF P 0 l d wf) : Opens P t d wf := by
  intro H enc w base spare held fuel cs x hx
  cases fuel with
  | zero => simp [DataW.trod] at hx
  | succ m =>
    unfold DataW.trod at hx
    rw [ht] at hx
    split at hx <;> simp_all
    obtain ⟨hlen, xs, hp, _⟩ := hx
    have := h (enc := enc) (w := w) (base := base) (spare := spare) (held := held) (cs := _) (by rw [hlen]; omega) (fun i f hi => by
      rw [← hl, List.getElem?_map] at hi
      obtain ⟨i', hi', rfl⟩ := Option.map_eq_some_iff.1 hi
      obtain ⟨h1, h2⟩ := List.getElem?_eq_some_iff.1 hi'
      have hxl := mapM_some_length hp
      have h3 : i = i' := by simpa using h2
      subst h3
      have hg := mapM_some_get hp i i hi'
      exact ⟨m, xs[i]'(by rw [hxl]; exact h1), by rw [hg]; exact List.getElem?_eq_getElem _⟩)
    simpa using this

theorem okWide_struct {t : TypeId} {fs : Array Field} {W : World} {r : Reach} {b0 : Nat} {v : Value} (ht : P.underlying t = some (.struct fs)) (h : Value.okWide P W r b0 t v) : ∃ xs : Array Value, v = .agg xs := by
  simp only [Value.okWide, ht] at h
  obtain ⟨cs, h1, _⟩ := h
  exact ⟨cs, h1⟩
theorem okWide_array {t e : TypeId} {n : Nat} {W : World} {r : Reach} {b0 : Nat} {v : Value} (ht : P.underlying t = some (.array n e)) (h : Value.okWide P W r b0 t v) : ∃ xs : Array Value, v = .agg xs := by
  simp only [Value.okWide, ht] at h
  obtain ⟨cs, h1, _⟩ := h
  exact ⟨cs, h1⟩
theorem slice_inj {a A : Option Addr} {n c m d : Nat} (h : (Value.slice a n c).cells.toList = [.slice A m d]) : a = A ∧ n = m ∧ c = d := by
  simpa [Value.cells] using h
theorem agg_inj {xs : Array Value} {l : List Value} (h : (Value.agg xs).cells.toList = l) : xs = l.toArray := by
  have h2 : xs.toList = l := h
  rw [← h2]
theorem agg_of {xs : Array Value} {l : List Value} (h : (Value.agg xs).cells.toList = l) : (Value.agg xs) = .agg l.toArray := by
  have h2 : xs.toList = l := h
  rw [← h2]
theorem slice_of {a : Option Addr} {n c : Nat} {v : Value} (h : (Value.slice a n c).cells.toList = [v]) : (Value.slice a n c) = v := by
  simpa [Value.cells] using h
theorem one_of {v u : Value} (h : v.cells.toList = [u]) (hv : v.cells.toList = [v]) : v = u := by
  rw [hv] at h
  simpa using h
end Go.Proofs.YtbokbbcoekeoaaaDoor.O
end
