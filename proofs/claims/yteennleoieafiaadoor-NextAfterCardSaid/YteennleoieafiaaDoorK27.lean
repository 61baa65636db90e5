-- PACKED by pack.py of this repo: FForetellkeepNextAfter
import Derived.Test.YteennleoieafiaaDoorK2
import Derived.Test.YteennleoieafiaaDoorK3
import Derived.Test.YteennleoieafiaaDoorK6
import Derived.Test.YteennleoieafiaaDoorK11
import Derived.Test.YteennleoieafiaaDoorK18
import Derived.Test.YteennleoieafiaaDoorK25
import Derived.Test.YteennleoieafiaaDoorK26
section
namespace Go.Proofs.YteennleoieafiaaDoor.P
open Go.RowKit Go.Proofs.YteennleoieafiaaDoorW.PrintWords Go.Proofs.YteennleoieafiaaDoorW.PrintLast Go.Proofs.YteennleoieafiaaDoorW.PrintMore Go.Proofs.YteennleoieafiaaDoor.G
attribute [local go_sem] max2_int min2_int max_two min_two max_three min_three max_four min_four   -- for this text's walks alone
set_option linter.unusedVariables false
set_option linter.unusedSimpArgs false

/-! ### foretellkeep_NextAfter: function 11 -/
mutual
def foretellkeep_NextAfter.j0 : Nat → Int → Int → Bool → List (S32) → List (S42) → Option (Bool)
  | 0, _, _, _, _, _ => none
  | k + 1, x1, x6, x29, x611000, x611001 => if x29 = true then (some false) else ((foretellkeep_picked.f x1 x6).bind fun t613 => ((step_Next.f k x611000 x611001 t613).bind fun bt614 => (foretellkeep_NextAfter.l0 k t613 bt614.1 bt614.2 ([] : List Int) 0 x611000 x611001)))
def foretellkeep_NextAfter.l0 : Nat → Int → List Int → Int → List Int → Int → List (S32) → List (S42) → Option (Bool)
  | 0, _, _, _, _, _, _, _ => none
  | k + 1, x8, x9, x10, x11, x12, x611000, x611001 => if x12 < (x611001.length : Int) then ((step_After.f k x611000 x611001 x8 x12).bind fun bt618 => (if bt618.2 = 0 then (if x11.length < 17592186044416 then (foretellkeep_NextAfter.l0 k x8 x9 x10 (x11 ++ [bt618.1]) (wrap64 (x12 + 1)) x611000 x611001) else (none)) else (if bt618.2 = 11 then (foretellkeep_NextAfter.l0 k x8 x9 x10 x11 (wrap64 (x12 + 1)) x611000 x611001) else (some false)))) else (if (x11.length : Int) = 0 then (if x10 = 0 then (if (x9.length : Int) = 1 then (if 0 < (x9.length : Int) then (some ((rd x9 0) == x8)) else (none)) else (some false)) else (some false)) else (foretellkeep_NextAfter.l1 k x9 x10 x11 0))
def foretellkeep_NextAfter.l1 : Nat → List Int → Int → List Int → Int → Option (Bool)
  | 0, _, _, _, _ => none
  | k + 1, x9, x10, x11, x15 => if x15 < (x11.length : Int) then (if 0 ≤ x15 then ((foretellkeep_has.f k x9 (rd x11 x15)).bind fun t625 => (if t625 = true then (foretellkeep_NextAfter.l1 k x9 x10 x11 (wrap64 (x15 + 1))) else (some false))) else (none)) else (foretellkeep_NextAfter.l2 k x9 x10 x11 0)
def foretellkeep_NextAfter.l2 : Nat → List Int → Int → List Int → Int → Option (Bool)
  | 0, _, _, _, _ => none
  | k + 1, x9, x10, x11, x16 => if x16 < (x9.length : Int) then (if 0 ≤ x16 then ((foretellkeep_has.f k x11 (rd x9 x16)).bind fun t627 => (if t627 = true then (foretellkeep_NextAfter.l2 k x9 x10 x11 (wrap64 (x16 + 1))) else (some false))) else (none)) else (some (x10 == 0))
end
def foretellkeep_NextAfter.f (k : Nat) (a0_0 : Int) (a0_1 : Int) (a0_2 : Int) (a0_3 : Int) (a0_4 : Int) (a0_5 : Int) (l0_6 : List (S65)) (a1 : Int) : Option (Bool) := (foretellkeep_Model.f k a0_0 a0_1 a0_2 a0_3 a0_4 a0_5 l0_6).bind fun bt604 => ((model_Count.f k bt604.1 bt604.2).bind fun bt611 => (if bt611.2 = 0 then (foretellkeep_NextAfter.j0 k a1 bt611.1 (decide (bt611.1 < 1)) bt604.1 bt604.2) else (foretellkeep_NextAfter.j0 k a1 bt611.1 true bt604.1 bt604.2)))
theorem foretellkeep_NextAfter.mono_l : ∀ k, (∀ y0 y1 y2 y3 y4, LeO (foretellkeep_NextAfter.j0 k y0 y1 y2 y3 y4) (foretellkeep_NextAfter.j0 (k + 1) y0 y1 y2 y3 y4)) ∧ (∀ y0 y1 y2 y3 y4 y5 y6, LeO (foretellkeep_NextAfter.l0 k y0 y1 y2 y3 y4 y5 y6) (foretellkeep_NextAfter.l0 (k + 1) y0 y1 y2 y3 y4 y5 y6)) ∧ (∀ y0 y1 y2 y3, LeO (foretellkeep_NextAfter.l1 k y0 y1 y2 y3) (foretellkeep_NextAfter.l1 (k + 1) y0 y1 y2 y3)) ∧ (∀ y0 y1 y2 y3, LeO (foretellkeep_NextAfter.l2 k y0 y1 y2 y3) (foretellkeep_NextAfter.l2 (k + 1) y0 y1 y2 y3))
  | 0 => ⟨fun _ _ _ _ _ r h => by simp [foretellkeep_NextAfter.j0] at h, fun _ _ _ _ _ _ _ r h => by simp [foretellkeep_NextAfter.l0] at h, fun _ _ _ _ r h => by simp [foretellkeep_NextAfter.l1] at h, fun _ _ _ _ r h => by simp [foretellkeep_NextAfter.l2] at h⟩
  | k + 1 => by
    obtain ⟨ih0, ih1, ih2, ih3⟩ := foretellkeep_NextAfter.mono_l k
    refine ⟨?_, ?_, ?_, ?_⟩
    · intro y0 y1 y2 y3 y4
      unfold foretellkeep_NextAfter.j0
      repeat' first
      | (with_reducible exact ih0 _ _ _ _ _)
      | (with_reducible exact ih1 _ _ _ _ _ _ _)
      | (with_reducible exact ih2 _ _ _ _)
      | (with_reducible exact ih3 _ _ _ _)
      | (with_reducible exact foretellkeep_Model.mono _ _ _ _ _ _ _ _)
      | (with_reducible exact foretellkeep_has.mono _ _ _)
      | (with_reducible exact model_Count.mono _ _ _)
      | (with_reducible exact step_After.mono _ _ _ _ _)
      | (with_reducible exact step_Next.mono _ _ _ _)
      | (with_reducible exact LeO.refl _)
      | (with_reducible exact LeO.none _)
      | (with_reducible refine LeO.ite ?_ ?_)
      | (with_reducible refine LeO.bind ?_ (fun _ => ?_))
      | exact ih0 _ _ _ _ _
      | exact ih1 _ _ _ _ _ _ _
      | exact ih2 _ _ _ _
      | exact ih3 _ _ _ _
      | exact foretellkeep_Model.mono _ _ _ _ _ _ _ _
      | exact foretellkeep_has.mono _ _ _
      | exact model_Count.mono _ _ _
      | exact step_After.mono _ _ _ _ _
      | exact step_Next.mono _ _ _ _
      | exact LeO.none _
      | refine LeO.ite ?_ ?_
      | refine LeO.bind ?_ (fun _ => ?_)
    · intro y0 y1 y2 y3 y4 y5 y6
      unfold foretellkeep_NextAfter.l0
      repeat' first
      | (with_reducible exact ih0 _ _ _ _ _)
      | (with_reducible exact ih1 _ _ _ _ _ _ _)
      | (with_reducible exact ih2 _ _ _ _)
      | (with_reducible exact ih3 _ _ _ _)
      | (with_reducible exact foretellkeep_Model.mono _ _ _ _ _ _ _ _)
      | (with_reducible exact foretellkeep_has.mono _ _ _)
      | (with_reducible exact model_Count.mono _ _ _)
      | (with_reducible exact step_After.mono _ _ _ _ _)
      | (with_reducible exact step_Next.mono _ _ _ _)
      | (with_reducible exact LeO.refl _)
      | (with_reducible exact LeO.none _)
      | (with_reducible refine LeO.ite ?_ ?_)
      | (with_reducible refine LeO.bind ?_ (fun _ => ?_))
      | exact ih0 _ _ _ _ _
      | exact ih1 _ _ _ _ _ _ _
      | exact ih2 _ _ _ _
      | exact ih3 _ _ _ _
      | exact foretellkeep_Model.mono _ _ _ _ _ _ _ _
      | exact foretellkeep_has.mono _ _ _
      | exact model_Count.mono _ _ _
      | exact step_After.mono _ _ _ _ _
      | exact step_Next.mono _ _ _ _
      | exact LeO.none _
      | refine LeO.ite ?_ ?_
      | refine LeO.bind ?_ (fun _ => ?_)
    · intro y0 y1 y2 y3
      unfold foretellkeep_NextAfter.l1
      repeat' first
      | (with_reducible exact ih0 _ _ _ _ _)
      | (with_reducible exact ih1 _ _ _ _ _ _ _)
      | (with_reducible exact ih2 _ _ _ _)
      | (with_reducible exact ih3 _ _ _ _)
      | (with_reducible exact foretellkeep_Model.mono _ _ _ _ _ _ _ _)
      | (with_reducible exact foretellkeep_has.mono _ _ _)
      | (with_reducible exact model_Count.mono _ _ _)
      | (with_reducible exact step_After.mono _ _ _ _ _)
      | (with_reducible exact step_Next.mono _ _ _ _)
      | (with_reducible exact LeO.refl _)
      | (with_reducible exact LeO.none _)
      | (with_reducible refine LeO.ite ?_ ?_)
      | (with_reducible refine LeO.bind ?_ (fun _ => ?_))
      | exact ih0 _ _ _ _ _
      | exact ih1 _ _ _ _ _ _ _
      | exact ih2 _ _ _ _
      | exact ih3 _ _ _ _
      | exact foretellkeep_Model.mono _ _ _ _ _ _ _ _
      | exact foretellkeep_has.mono _ _ _
      | exact model_Count.mono _ _ _
      | exact step_After.mono _ _ _ _ _
      | exact step_Next.mono _ _ _ _
      | exact LeO.none _
      | refine LeO.ite ?_ ?_
      | refine LeO.bind ?_ (fun _ => ?_)
    · intro y0 y1 y2 y3
      unfold foretellkeep_NextAfter.l2
      repeat' first
      | (with_reducible exact ih0 _ _ _ _ _)
      | (with_reducible exact ih1 _ _ _ _ _ _ _)
      | (with_reducible exact ih2 _ _ _ _)
      | (with_reducible exact ih3 _ _ _ _)
      | (with_reducible exact foretellkeep_Model.mono _ _ _ _ _ _ _ _)
      | (with_reducible exact foretellkeep_has.mono _ _ _)
      | (with_reducible exact model_Count.mono _ _ _)
      | (with_reducible exact step_After.mono _ _ _ _ _)
      | (with_reducible exact step_Next.mono _ _ _ _)
      | (with_reducible exact LeO.refl _)
      | (with_reducible exact LeO.none _)
      | (with_reducible refine LeO.ite ?_ ?_)
      | (with_reducible refine LeO.bind ?_ (fun _ => ?_))
      | exact ih0 _ _ _ _ _
      | exact ih1 _ _ _ _ _ _ _
      | exact ih2 _ _ _ _
      | exact ih3 _ _ _ _
      | exact foretellkeep_Model.mono _ _ _ _ _ _ _ _
      | exact foretellkeep_has.mono _ _ _
      | exact model_Count.mono _ _ _
      | exact step_After.mono _ _ _ _ _
      | exact step_Next.mono _ _ _ _
      | exact LeO.none _
      | refine LeO.ite ?_ ?_
      | refine LeO.bind ?_ (fun _ => ?_)
theorem foretellkeep_NextAfter.mono : ∀ a0 a1 a2 a3 a4 a5 a6 a7 k, LeO (foretellkeep_NextAfter.f k a0 a1 a2 a3 a4 a5 a6 a7) (foretellkeep_NextAfter.f (k + 1) a0 a1 a2 a3 a4 a5 a6 a7) := by
  intro a0 a1 a2 a3 a4 a5 a6 a7 k
  obtain ⟨ih0, ih1, ih2, ih3⟩ := foretellkeep_NextAfter.mono_l k
  unfold foretellkeep_NextAfter.f
  repeat' first
      | (with_reducible exact ih0 _ _ _ _ _)
      | (with_reducible exact ih1 _ _ _ _ _ _ _)
      | (with_reducible exact ih2 _ _ _ _)
      | (with_reducible exact ih3 _ _ _ _)
      | (with_reducible exact foretellkeep_Model.mono _ _ _ _ _ _ _ _)
      | (with_reducible exact foretellkeep_has.mono _ _ _)
      | (with_reducible exact model_Count.mono _ _ _)
      | (with_reducible exact step_After.mono _ _ _ _ _)
      | (with_reducible exact step_Next.mono _ _ _ _)
      | (with_reducible exact LeO.refl _)
      | (with_reducible exact LeO.none _)
      | (with_reducible refine LeO.ite ?_ ?_)
      | (with_reducible refine LeO.bind ?_ (fun _ => ?_))
      | exact ih0 _ _ _ _ _
      | exact ih1 _ _ _ _ _ _ _
      | exact ih2 _ _ _ _
      | exact ih3 _ _ _ _
      | exact foretellkeep_Model.mono _ _ _ _ _ _ _ _
      | exact foretellkeep_has.mono _ _ _
      | exact model_Count.mono _ _ _
      | exact step_After.mono _ _ _ _ _
      | exact step_Next.mono _ _ _ _
      | exact LeO.none _
      | refine LeO.ite ?_ ?_
      | refine LeO.bind ?_ (fun _ => ?_)
set_option maxHeartbeats 8000000 in
set_option maxRecDepth 100000 in
theorem foretellkeep_NextAfter.calls (k : Nat) (a0_0 : Int) (a0_1 : Int) (a0_2 : Int) (a0_3 : Int) (a0_4 : Int) (a0_5 : Int) (A0_6 : Option Addr) (c0_6 : Nat) (l0_6 : List (S65)) (a1 : Int) (r : Bool) (w : World) (hr0_6 : Kd.C k65 w A0_6 l0_6.length l0_6) (hc0_6 : l0_6.length ≤ c0_6) (hG_ : Glob w) (hr_ : Aside0 (r = true)) (h : foretellkeep_NextAfter.f k a0_0 a0_1 a0_2 a0_3 a0_4 a0_5 l0_6 a1 = some r) :
    Calls Tryd.prog 11 #[.agg #[.int .i64 a0_0, .int .i64 a0_1, .int .i64 a0_2, .int .i64 a0_3, .int .i64 a0_4, .int .i64 a0_5, .slice A0_6 l0_6.length c0_6], .int .i64 a1] w fun e w' => e = .returned (.bool r) ∧ Below w.heap.size w w' := by
  have hu25 := Tryd.underlying25
  have hu29 := Tryd.underlying29
  have HR0_6 := Aside0.mk hr0_6
  have HC0_6 := Aside0.mk hc0_6
  clear hr0_6 hc0_6
  have HB := Aside0.mk (Below.refl w.heap.size w)
  have H : ((foretellkeep_Model.f k a0_0 a0_1 a0_2 a0_3 a0_4 a0_5 l0_6).bind fun bt604 => ((model_Count.f k bt604.1 bt604.2).bind fun bt611 => (if bt611.2 = 0 then (foretellkeep_NextAfter.j0 k a1 bt611.1 (decide (bt611.1 < 1)) bt604.1 bt604.2) else (foretellkeep_NextAfter.j0 k a1 bt611.1 true bt604.1 bt604.2)))) = some r := h
  clear h
  replace H := Option.bind_eq_some_iff.mp H
  obtain ⟨⟨t604, t607⟩, A30, H⟩ := H
  replace H : ((model_Count.f k t604 t607).bind fun bt611 => (if bt611.2 = 0 then (foretellkeep_NextAfter.j0 k a1 bt611.1 (decide (bt611.1 < 1)) t604 t607) else (foretellkeep_NextAfter.j0 k a1 bt611.1 true t604 t607))) = some r := H
  have A3 := Aside0.mk A30
  clear A30
  replace H := Option.bind_eq_some_iff.mp H
  obtain ⟨⟨t611, t612⟩, A40, H⟩ := H
  replace H : (if t612 = 0 then (foretellkeep_NextAfter.j0 k a1 t611 (decide (t611 < 1)) t604 t607) else (foretellkeep_NextAfter.j0 k a1 t611 true t604 t607)) = some r := H
  have A4 := Aside0.mk A40
  clear A40
  have HC5 := Aside0.mk H
  clear H
  go_enter Tryd.func11, Tryd.ntmps11
  go_upto_region 3 with (first | ((with_reducible refine gate_dst (N := 2) rfl ?_); (try (refine gate_guard (by rfl) ?_; dsimp only)); refine box_event ?hg (N := 2) ?hd (cs := #[.int .i64 a0_0, .int .i64 a0_1, .int .i64 a0_2, .int .i64 a0_3, .int .i64 a0_4, .int .i64 a0_5, .slice A0_6 l0_6.length c0_6]) (t := 25) ?hr ?_; (case hd => rfl); (case hg => rfl); (case hr => first | (go_simp; done) | (go_simp; rfl)); intro gb603 hg w6 hbox hb; have n0_ := Aside0.mk (below_step (by repeat (first | (with_reducible first | exact HB.out | apply below_alloc | apply pw_below_drewN | apply below_drew1) | exact HB.out)) hb); have n1_ := Aside0.mk (hbox); have n2_ := Aside0.mk ((by rw [hg]; exact (below_size (by repeat (first | (with_reducible first | exact HB.out | apply below_alloc | apply pw_below_drewN | apply below_drew1) | exact HB.out))) : w.heap.size ≤ gb603)); have n3_ := Aside0.mk ((by rw [hg]; exact (below_size (by repeat (first | (with_reducible first | exact HB.out | apply below_alloc | apply pw_below_drewN | apply below_drew1) | exact HB.out))) : w.heap.size ≤ gb603)); clear HB; have HB := n0_; have BK603 := n1_; have GW603 := n2_; have GE603 := n3_; clear n0_ n1_ n2_ n3_; clear hb hbox hg; have hcz7_0 : w6.cell? ⟨gb603, 0, none⟩ = some (.int .i64 a0_0) := (blk_cell BK603.out 0).trans rfl; have hcz7_1 : w6.cell? ⟨gb603, 1, none⟩ = some (.int .i64 a0_1) := (blk_cell BK603.out 1).trans rfl; have hcz7_2 : w6.cell? ⟨gb603, 2, none⟩ = some (.int .i64 a0_2) := (blk_cell BK603.out 2).trans rfl; have hcz7_3 : w6.cell? ⟨gb603, 3, none⟩ = some (.int .i64 a0_3) := (blk_cell BK603.out 3).trans rfl; have hcz7_4 : w6.cell? ⟨gb603, 4, none⟩ = some (.int .i64 a0_4) := (blk_cell BK603.out 4).trans rfl; have hcz7_5 : w6.cell? ⟨gb603, 5, none⟩ = some (.int .i64 a0_5) := (blk_cell BK603.out 5).trans rfl; have hcz7_6 : w6.cell? ⟨gb603, 6, none⟩ = some (.slice A0_6 l0_6.length c0_6) := (blk_cell BK603.out 6).trans rfl; have hfz7_0 := blk_frozen BK603.out 0; have hfz7_1 := blk_frozen BK603.out 1; have hfz7_2 := blk_frozen BK603.out 2; have hfz7_3 := blk_frozen BK603.out 3; have hfz7_4 := blk_frozen BK603.out 4; have hfz7_5 := blk_frozen BK603.out 5; have hfz7_6 := blk_frozen BK603.out 6) | ((with_reducible refine gate_callee (f := 14) rfl ?_); refine goesL_ (some 18) rfl rfl Tryd.func14 (by kernel_rfl) rfl #[.agg #[.int .i64 a0_0, .int .i64 a0_1, .int .i64 a0_2, .int .i64 a0_3, .int .i64 a0_4, .int .i64 a0_5, .slice A0_6 l0_6.length c0_6]] rfl (by (try simp only [List.map_toArray, List.map_cons, List.map_nil]); first | done | rfl | (simp only [List.length_drop, List.length_take]; rfl)) ?_; (with_reducible refine (foretellkeep_Model.calls k a0_0 a0_1 a0_2 a0_3 a0_4 a0_5 _ _ l0_6 t604 t607 _ ?side1 ?side2 A3.out).mono ?_); (case side1 => repeat (first | exact (Kd.C_below HR0_6.out HB.out) | (with_reducible refine Kd.C_alloc ?_ _) | (with_reducible refine Kd.C_drewN ?_ _) | (with_reducible refine Kd.C_drew ?_))); (case side2 => exact HC0_6.out); rintro e w8 ⟨v605, v608, rfl, ho0, ho1, hb⟩; refine ⟨_, rfl, ?_⟩; have n0_ := Aside0.mk (Kd.R_lower ho0 (below_size (by repeat (first | (with_reducible first | exact HB.out | apply below_alloc | apply pw_below_drewN | apply below_drew1 | refine below_set ?_ GE603.out) | exact HB.out)))); have n1_ := Aside0.mk (Kd.R_lower ho1 (below_size (by repeat (first | (with_reducible first | exact HB.out | apply below_alloc | apply pw_below_drewN | apply below_drew1 | refine below_set ?_ GE603.out) | exact HB.out)))); have n2_ := Aside0.mk (blk_below (g := gb603) (o := .cells #[.int .i64 a0_0, .int .i64 a0_1, .int .i64 a0_2, .int .i64 a0_3, .int .i64 a0_4, .int .i64 a0_5, .slice A0_6 l0_6.length c0_6] 25 (0, 0)) (by (with_reducible repeat (first | refine blk_drewN ?_ _ | refine blk_drew ?_ | refine blk_alloc ?_ _)); exact BK603.out) hb); have n3_ := Aside0.mk (below_step (by repeat (first | (with_reducible first | exact HB.out | apply below_alloc | apply pw_below_drewN | apply below_drew1 | refine below_set ?_ GE603.out) | exact HB.out)) hb); clear BK603; clear HB; have HO606 := n0_; have HO609 := n1_; have BK603 := n2_; have HB := n3_; clear n0_ n1_ n2_ n3_; (try clear hb); (try clear hb2); (try clear hk); (try clear hi); (try clear ho0); (try clear ho1)) | ((with_reducible refine gate_dst (N := 5) rfl ?_); (try (refine gate_guard (by rfl) ?_; dsimp only)); refine box_event ?hg (N := 5) ?hd (cs := #[.slice none 0 0, .slice none 0 0]) (t := 29) ?hr ?_; (case hd => rfl); (case hg => rfl); (case hr => first | (go_simp; done) | (go_simp; rfl)); intro gb610 hg w9 hbox hb; have n0_ := Aside0.mk (Kd.R_below (by (with_reducible repeat (first | apply Kd.R_alloc | apply Kd.R_drewN | apply Kd.R_drew)); exact HO606.out) hb); have n1_ := Aside0.mk (Kd.R_below (by (with_reducible repeat (first | apply Kd.R_alloc | apply Kd.R_drewN | apply Kd.R_drew)); exact HO609.out) hb); have n2_ := Aside0.mk (blk_below (g := gb603) (o := .cells #[.int .i64 a0_0, .int .i64 a0_1, .int .i64 a0_2, .int .i64 a0_3, .int .i64 a0_4, .int .i64 a0_5, .slice A0_6 l0_6.length c0_6] 25 (0, 0)) (by (with_reducible repeat (first | refine blk_drewN ?_ _ | refine blk_drew ?_ | refine blk_alloc ?_ _)); exact BK603.out) hb); have n3_ := Aside0.mk (below_step (by repeat (first | (with_reducible first | exact HB.out | apply below_alloc | apply pw_below_drewN | apply below_drew1 | refine below_set ?_ GE603.out) | exact HB.out)) hb); have n4_ := Aside0.mk (hbox); have n5_ := Aside0.mk ((by rw [hg]; exact (below_size (by repeat (first | (with_reducible first | exact HB.out | apply below_alloc | apply pw_below_drewN | apply below_drew1 | refine below_set ?_ GE603.out) | exact HB.out))) : w.heap.size ≤ gb610)); have n6_ := Aside0.mk ((by rw [hg]; exact (below_size (by repeat (first | (with_reducible first | exact HB.out | apply below_alloc | apply pw_below_drewN | apply below_drew1 | refine below_set ?_ GE603.out) | exact HB.out))) : w.heap.size ≤ gb610)); have n7_ := Aside0.mk ((by rw [hg]; exact Nat.ne_of_lt (blk_lt (g := gb603) (o := .cells #[.int .i64 a0_0, .int .i64 a0_1, .int .i64 a0_2, .int .i64 a0_3, .int .i64 a0_4, .int .i64 a0_5, .slice A0_6 l0_6.length c0_6] 25 (0, 0)) (by (with_reducible repeat (first | refine blk_drewN ?_ _ | refine blk_drew ?_ | refine blk_alloc ?_ _)); exact BK603.out)) : gb603 ≠ gb610)); have n8_ := Aside0.mk ((by rw [hg]; exact Nat.ne_of_gt (blk_lt (g := gb603) (o := .cells #[.int .i64 a0_0, .int .i64 a0_1, .int .i64 a0_2, .int .i64 a0_3, .int .i64 a0_4, .int .i64 a0_5, .slice A0_6 l0_6.length c0_6] 25 (0, 0)) (by (with_reducible repeat (first | refine blk_drewN ?_ _ | refine blk_drew ?_ | refine blk_alloc ?_ _)); exact BK603.out)) : gb610 ≠ gb603)); clear HO606; clear HO609; clear BK603; clear HB; have HO606 := n0_; have HO609 := n1_; have BK603 := n2_; have HB := n3_; have BK610 := n4_; have GW610 := n5_; have GE610 := n6_; have NB603_610 := n7_; have NB610_603 := n8_; clear n0_ n1_ n2_ n3_ n4_ n5_ n6_ n7_ n8_; clear hb hbox hg; obtain ⟨Ao10, co10, eo10⟩ := Kd.R_slice HO606.out; subst eo10; have hnb11 := NB610_603.out; have hnc11 := NB603_610.out; have hcz12_0 : w9.cell? ⟨gb610, 0, none⟩ = some (.slice none 0 0) := (blk_cell BK610.out 0).trans rfl; have hcz12_1 : w9.cell? ⟨gb610, 1, none⟩ = some (.slice none 0 0) := (blk_cell BK610.out 1).trans rfl; have hfz12_0 := blk_frozen BK610.out 0; have hfz12_1 := blk_frozen BK610.out 1; obtain ⟨Ao13, co13, eo13⟩ := Kd.R_slice HO609.out; subst eo13) | ((with_reducible refine gate_callee (f := 18) rfl ?_); refine goesL_ (some 21) rfl rfl Tryd.func18 (by kernel_rfl) rfl #[.agg #[.slice Ao10 t604.length co10, .slice Ao13 t607.length co13]] rfl (by (try simp only [List.map_toArray, List.map_cons, List.map_nil]); first | done | rfl | (simp only [List.length_drop, List.length_take]; rfl)) ?_; (with_reducible refine (model_Count.calls k _ _ t604 _ _ t607 t611 t612 _ ?side1 ?side2 ?side3 ?side4 ?side5 A4.out).mono ?_); (case side1 => refine (Kd.R_reads' (e := 32) (base := w.heap.size) (ok := fun k_ => True) (n := t604.length) (c := co10) ?_).2.2; exact (by (with_reducible repeat (first | apply Kd.R_alloc | apply Kd.R_drewN | apply Kd.R_drew)); exact (Kd.R_mono (Kd.R_far (p := ⟨gb610, 1, none⟩) (Kd.R_far (p := ⟨gb610, 0, none⟩) (Kd.R_types HO606.out BK610.out (by decide)) (fun _ hk => hk.2) (.slice Ao10 t604.length co10)) (fun _ hk => hk.2) (.slice Ao13 t607.length co13)) (fun _ h_ => h_.1)))); (case side2 => exact (Kd.R_reads' HO606.out).2.1); (case side3 => refine (Kd.R_reads' (e := 42) (base := w.heap.size) (ok := fun k_ => True) (n := t607.length) (c := co13) ?_).2.2; exact (by (with_reducible repeat (first | apply Kd.R_alloc | apply Kd.R_drewN | apply Kd.R_drew)); exact (Kd.R_mono (Kd.R_far (p := ⟨gb610, 1, none⟩) (Kd.R_far (p := ⟨gb610, 0, none⟩) (Kd.R_types HO609.out BK610.out (by decide)) (fun _ hk => hk.2) (.slice Ao10 t604.length co10)) (fun _ hk => hk.2) (.slice Ao13 t607.length co13)) (fun _ h_ => h_.1)))); (case side4 => exact (Kd.R_reads' HO609.out).2.1); (case side5 => first | exact hG_ | exact Glob.drewN hG_ _ | exact Glob.below hG_ (by repeat (first | (with_reducible first | exact HB.out | apply below_alloc | apply pw_below_drewN | apply below_drew1 | refine below_set ?_ GE603.out | refine below_set ?_ GE610.out) | exact HB.out))); rintro e w14 ⟨rfl, hb⟩; refine ⟨_, rfl, ?_⟩; have n0_ := Aside0.mk (Kd.R_below (by (with_reducible repeat (first | apply Kd.R_alloc | apply Kd.R_drewN | apply Kd.R_drew)); exact (Kd.R_mono (Kd.R_far (p := ⟨gb610, 1, none⟩) (Kd.R_far (p := ⟨gb610, 0, none⟩) (Kd.R_types HO606.out BK610.out (by decide)) (fun _ hk => hk.2) (.slice Ao10 t604.length co10)) (fun _ hk => hk.2) (.slice Ao13 t607.length co13)) (fun _ h_ => h_.1))) hb); have n1_ := Aside0.mk (Kd.R_below (by (with_reducible repeat (first | apply Kd.R_alloc | apply Kd.R_drewN | apply Kd.R_drew)); exact (Kd.R_mono (Kd.R_far (p := ⟨gb610, 1, none⟩) (Kd.R_far (p := ⟨gb610, 0, none⟩) (Kd.R_types HO609.out BK610.out (by decide)) (fun _ hk => hk.2) (.slice Ao10 t604.length co10)) (fun _ hk => hk.2) (.slice Ao13 t607.length co13)) (fun _ h_ => h_.1))) hb); have n2_ := Aside0.mk (blk_below (g := gb603) (o := .cells #[.int .i64 a0_0, .int .i64 a0_1, .int .i64 a0_2, .int .i64 a0_3, .int .i64 a0_4, .int .i64 a0_5, .slice A0_6 l0_6.length c0_6] 25 (0, 0)) (by (with_reducible repeat (first | refine blk_drewN ?_ _ | refine blk_drew ?_ | refine blk_alloc ?_ _)); refine blk_far ?_ NB603_610.out _; (with_reducible repeat (first | refine blk_drewN ?_ _ | refine blk_drew ?_ | refine blk_alloc ?_ _)); refine blk_far ?_ NB603_610.out _; (with_reducible repeat (first | refine blk_drewN ?_ _ | refine blk_drew ?_ | refine blk_alloc ?_ _)); exact BK603.out) hb); have n3_ := Aside0.mk (blk_below (g := gb610) (o := .cells #[.slice Ao10 t604.length co10, .slice Ao13 t607.length co13] 29 (0, 0)) (by (with_reducible repeat (first | refine blk_drewN ?_ _ | refine blk_drew ?_ | refine blk_alloc ?_ _)); refine blk_put (cs := #[.slice Ao10 t604.length co10, .slice none 0 0]) ?_ 1 _ rfl; (with_reducible repeat (first | refine blk_drewN ?_ _ | refine blk_drew ?_ | refine blk_alloc ?_ _)); refine blk_put (cs := #[.slice none 0 0, .slice none 0 0]) ?_ 0 _ rfl; (with_reducible repeat (first | refine blk_drewN ?_ _ | refine blk_drew ?_ | refine blk_alloc ?_ _)); exact BK610.out) hb); have n4_ := Aside0.mk (below_step (by repeat (first | (with_reducible first | exact HB.out | apply below_alloc | apply pw_below_drewN | apply below_drew1 | refine below_set ?_ GE603.out | refine below_set ?_ GE610.out) | exact HB.out)) hb); clear HO606; clear HO609; clear BK603; clear BK610; clear HB; have HO606 := n0_; have HO609 := n1_; have BK603 := n2_; have BK610 := n3_; have HB := n4_; clear n0_ n1_ n2_ n3_ n4_; (try clear hb); (try clear hb2); (try clear hk); (try clear hi)))
  (try simp only [Act.put, List.setIfInBounds_toArray, List.set_cons_zero, List.set_cons_succ])
  go_cut [29] (fun v29 wc => ∃ (kq : Nat) (x29_4 : Bool), v29 = .bool x29_4 ∧ Aside0 (foretellkeep_NextAfter.j0 kq a1 t611 x29_4 t604 t607 = some r) ∧ Aside0 (kq ≤ k) ∧ Aside0 (Kd.R k32 32 wc w.heap.size (fun _ => True) (.slice Ao10 t604.length co10) t604) ∧ Aside0 (Kd.R k42 42 wc w.heap.size (fun _ => True) (.slice Ao13 t607.length co13) t607) ∧ Aside0 (wc.heap[gb603]? = some (.cells #[.int .i64 a0_0, .int .i64 a0_1, .int .i64 a0_2, .int .i64 a0_3, .int .i64 a0_4, .int .i64 a0_5, (.slice A0_6 l0_6.length c0_6)] 25 (0, 0))) ∧ Aside0 (wc.heap[gb610]? = some (.cells #[(.slice Ao10 t604.length co10), (.slice Ao13 t607.length co13)] 29 (0, 0))) ∧ Aside0 (Below w.heap.size w wc))
  case first =>
    have H := HC5.out
    clear HC5
    by_cases c15 : t612 = 0
    · rw [if_pos c15] at H
      have c15b0 : (t612 == 0) = true := beq_iff_eq.mpr c15
      have c15b1 : (t612 != 0) = false := bne_eq_false_iff_eq.mpr c15
      clear c15
      (first | rw [c15b0] | (simp only [i64_w, i32_w]; rw [c15b0]) | skip)
      have H' := Aside0.mk H
      clear H
      go_wp2
      go_meet
      case rel => exact ⟨_, (decide (t611 < 1)), (by first | rfl | (simp; done) | (simp [*]; done)), H', ⟨by first | omega | exact Nat.le_refl _⟩, ⟨by (with_reducible repeat (first | apply Kd.R_alloc | apply Kd.R_drewN | apply Kd.R_drew)); exact HO606.out⟩, ⟨by (with_reducible repeat (first | apply Kd.R_alloc | apply Kd.R_drewN | apply Kd.R_drew)); exact HO609.out⟩, ⟨by (with_reducible repeat (first | refine blk_drewN ?_ _ | refine blk_drew ?_ | refine blk_alloc ?_ _)); exact BK603.out⟩, ⟨by (with_reducible repeat (first | refine blk_drewN ?_ _ | refine blk_drew ?_ | refine blk_alloc ?_ _)); exact BK610.out⟩, ⟨by repeat (first | (with_reducible first | exact HB.out | apply below_alloc | apply pw_below_drewN | apply below_drew1 | refine below_set ?_ GE603.out | refine below_set ?_ GE610.out) | exact HB.out)⟩⟩
    · rw [if_neg c15] at H
      have c15b0 : (t612 == 0) = false := beq_eq_false_iff_ne.mpr c15
      have c15b1 : (t612 != 0) = true := bne_iff_ne.mpr c15
      (first | rw [c15b0] | (simp only [i64_w, i32_w]; rw [c15b0]) | skip)
      have H' := Aside0.mk H
      clear H
      go_wp2
      go_meet
      case rel => exact ⟨_, (true), (by first | rfl | (simp; done) | (simp [*]; done)), H', ⟨by first | omega | exact Nat.le_refl _⟩, ⟨by (with_reducible repeat (first | apply Kd.R_alloc | apply Kd.R_drewN | apply Kd.R_drew)); exact HO606.out⟩, ⟨by (with_reducible repeat (first | apply Kd.R_alloc | apply Kd.R_drewN | apply Kd.R_drew)); exact HO609.out⟩, ⟨by (with_reducible repeat (first | refine blk_drewN ?_ _ | refine blk_drew ?_ | refine blk_alloc ?_ _)); exact BK603.out⟩, ⟨by (with_reducible repeat (first | refine blk_drewN ?_ _ | refine blk_drew ?_ | refine blk_alloc ?_ _)); exact BK610.out⟩, ⟨by repeat (first | (with_reducible first | exact HB.out | apply below_alloc | apply pw_below_drewN | apply below_drew1 | refine below_set ?_ GE603.out | refine below_set ?_ GE610.out) | exact HB.out)⟩⟩
  case rest =>
    clear HC5
    try clear c1
    try clear p2
    try clear c11
    try clear c14
    try clear c15
    try clear c15b0
    try clear c15b1
    try clear hcz12_0
    try clear hcz12_1
    try clear hcz7_0
    try clear hcz7_1
    try clear hcz7_2
    try clear hcz7_3
    try clear hcz7_4
    try clear hcz7_5
    try clear hcz7_6
    try clear hfz12_0
    try clear hfz12_1
    try clear hfz7_0
    try clear hfz7_1
    try clear hfz7_2
    try clear hfz7_3
    try clear hfz7_4
    try clear hfz7_5
    try clear hfz7_6
    obtain ⟨kq, x29_4, rfl, HA, HJ4, HO_611000, HO_611001, BK603, BK610, HB⟩ := hcut
    cases kq with
    | zero => exact absurd HA.out (by simp [foretellkeep_NextAfter.j0])
    | succ kj4 =>
      have H := HA.out
      clear HA
      simp only [foretellkeep_NextAfter.j0] at H
      by_cases c16 : x29_4 = true
      · subst c16
        have H1 : (some false) = some r := by rw [if_pos rfl] at H; exact H
        clear H
        have H := H1
        clear H1
        exact absurd ((Option.some.inj H).trans hr_.out) (by decide)
      · replace c16 := Bool.eq_false_iff.mpr c16
        subst c16
        have H1 : ((foretellkeep_picked.f a1 t611).bind fun t613 => ((step_Next.f kj4 t604 t607 t613).bind fun bt614 => (foretellkeep_NextAfter.l0 kj4 t613 bt614.1 bt614.2 ([] : List Int) 0 t604 t607))) = some r := by rw [if_neg (show ¬ (false = true) by decide)] at H; exact H
        clear H
        have H := H1
        clear H1
        replace H := Option.bind_eq_some_iff.mp H
        obtain ⟨t613, A170, H⟩ := H
        replace H : ((step_Next.f kj4 t604 t607 t613).bind fun bt614 => (foretellkeep_NextAfter.l0 kj4 t613 bt614.1 bt614.2 ([] : List Int) 0 t604 t607)) = some r := H
        have A17 := Aside0.mk A170
        clear A170
        replace H := Option.bind_eq_some_iff.mp H
        obtain ⟨⟨t614, t617⟩, A180, H⟩ := H
        replace H : (foretellkeep_NextAfter.l0 kj4 t613 t614 t617 ([] : List Int) 0 t604 t607) = some r := H
        have A18 := Aside0.mk A180
        clear A180
        have H' := Aside0.mk H
        clear H
        go_wp2_with (first | ((with_reducible refine gate_callee (f := 15) rfl ?_); refine goesL_ (some 32) rfl rfl Tryd.func15 (by kernel_rfl) rfl #[.int .i64 a1, .int .i64 t611] rfl (by (try simp only [List.map_toArray, List.map_cons, List.map_nil]); first | done | rfl | (simp only [List.length_drop, List.length_take]; rfl)) ?_; (with_reducible refine (foretellkeep_picked.calls a1 t611 t613 _ A17.out).mono ?_); rintro e w' ⟨rfl, ⟨nd, rfl⟩⟩; refine ⟨_, rfl, ?_⟩; have hnb19 := NB610_603.out; have hnc19 := NB603_610.out; have hcz20_0 : wc.cell? ⟨gb610, 0, none⟩ = some (.slice Ao10 t604.length co10) := (blk_cell BK610.out 0).trans rfl; have hcz20_1 : wc.cell? ⟨gb610, 1, none⟩ = some (.slice Ao13 t607.length co13) := (blk_cell BK610.out 1).trans rfl; have hfz20_0 := blk_frozen BK610.out 0; have hfz20_1 := blk_frozen BK610.out 1) | ((with_reducible refine gate_callee (f := 24) rfl ?_); refine goesL_ (some 36) rfl rfl Tryd.func24 (by kernel_rfl) rfl #[.agg #[.slice Ao10 t604.length co10, .slice Ao13 t607.length co13], .int .i64 t613] rfl (by (try simp only [List.map_toArray, List.map_cons, List.map_nil]); first | done | rfl | (simp only [List.length_drop, List.length_take]; rfl)) ?_; (with_reducible refine (step_Next.calls kj4 _ _ t604 _ _ t607 t613 t614 t617 _ ?side1 ?side2 ?side3 ?side4 ?side5 A18.out).mono ?_); (case side1 => repeat (first | exact (Kd.R_reads' HO_611000.out).2.2 | (with_reducible refine Kd.C_alloc ?_ _) | (with_reducible refine Kd.C_drewN ?_ _) | (with_reducible refine Kd.C_drew ?_))); (case side2 => exact (Kd.R_reads' HO_611000.out).2.1); (case side3 => repeat (first | exact (Kd.R_reads' HO_611001.out).2.2 | (with_reducible refine Kd.C_alloc ?_ _) | (with_reducible refine Kd.C_drewN ?_ _) | (with_reducible refine Kd.C_drew ?_))); (case side4 => exact (Kd.R_reads' HO_611001.out).2.1); (case side5 => first | exact hG_ | exact Glob.drewN hG_ _ | exact Glob.below hG_ (by repeat (first | (with_reducible first | exact HB.out | apply below_alloc | apply pw_below_drewN | apply below_drew1 | refine below_set ?_ GE603.out | refine below_set ?_ GE610.out) | exact HB.out))); rintro e w21 ⟨v615, rfl, ho0, hb⟩; refine ⟨_, rfl, ?_⟩; have n0_ := Aside0.mk (Kd.R_below (by (with_reducible repeat (first | apply Kd.R_alloc | apply Kd.R_drewN | apply Kd.R_drew)); exact HO_611000.out) hb); have n1_ := Aside0.mk (Kd.R_below (by (with_reducible repeat (first | apply Kd.R_alloc | apply Kd.R_drewN | apply Kd.R_drew)); exact HO_611001.out) hb); have n2_ := Aside0.mk (Kd.R_lower ho0 (below_size (by repeat (first | (with_reducible first | exact HB.out | apply below_alloc | apply pw_below_drewN | apply below_drew1 | refine below_set ?_ GE603.out | refine below_set ?_ GE610.out) | exact HB.out)))); have n3_ := Aside0.mk (blk_below (g := gb603) (o := .cells #[.int .i64 a0_0, .int .i64 a0_1, .int .i64 a0_2, .int .i64 a0_3, .int .i64 a0_4, .int .i64 a0_5, .slice A0_6 l0_6.length c0_6] 25 (0, 0)) (by (with_reducible repeat (first | refine blk_drewN ?_ _ | refine blk_drew ?_ | refine blk_alloc ?_ _)); exact BK603.out) hb); have n4_ := Aside0.mk (blk_below (g := gb610) (o := .cells #[.slice Ao10 t604.length co10, .slice Ao13 t607.length co13] 29 (0, 0)) (by (with_reducible repeat (first | refine blk_drewN ?_ _ | refine blk_drew ?_ | refine blk_alloc ?_ _)); exact BK610.out) hb); have n5_ := Aside0.mk (below_step (by repeat (first | (with_reducible first | exact HB.out | apply below_alloc | apply pw_below_drewN | apply below_drew1 | refine below_set ?_ GE603.out | refine below_set ?_ GE610.out) | exact HB.out)) hb); clear HO_611000; clear HO_611001; clear BK603; clear BK610; clear HB; have HO_611000 := n0_; have HO_611001 := n1_; have HO616 := n2_; have BK603 := n3_; have BK610 := n4_; have HB := n5_; clear n0_ n1_ n2_ n3_ n4_ n5_; (try clear hb); (try clear hb2); (try clear hk); (try clear hi); (try clear ho0)))
        go_loopg [11, 12] kj4 (fun kq v11 v12 w' => ∃ (x11_2 : List Int) (x12_2 : Int), v12 = .int .i64 x12_2 ∧ Aside0 (foretellkeep_NextAfter.l0 kq t613 t614 t617 x11_2 x12_2 t604 t607 = some r) ∧ Aside0 (kq ≤ kj4) ∧ Aside0 (Kd.R (Kd.int .i64) 3 w' w.heap.size (fun k_ => some k_ ≠ (v11 : Value).ownBlock) v615 t614) ∧ Aside0 (Kd.R (Kd.int .i64) 3 w' w.heap.size (fun k_ => some k_ ≠ (v615 : Value).ownBlock) v11 x11_2) ∧ Aside0 (Kd.R k32 32 w' w.heap.size (fun _ => True) (.slice Ao10 t604.length co10) t604) ∧ Aside0 (Kd.R k42 42 w' w.heap.size (fun _ => True) (.slice Ao13 t607.length co13) t607) ∧ Aside0 (w'.heap[gb603]? = some (.cells #[.int .i64 a0_0, .int .i64 a0_1, .int .i64 a0_2, .int .i64 a0_3, .int .i64 a0_4, .int .i64 a0_5, (.slice A0_6 l0_6.length c0_6)] 25 (0, 0))) ∧ Aside0 (w'.heap[gb610]? = some (.cells #[(.slice Ao10 t604.length co10), (.slice Ao13 t607.length co13)] 29 (0, 0))) ∧ Aside0 (Below w.heap.size w w'))
        case atStart => exact ⟨(([] : List Int)), (0), (by first | rfl | (simp; done) | (simp [*]; done)), H', ⟨Nat.le_refl _⟩, ⟨by (with_reducible repeat (first | apply Kd.R_alloc | apply Kd.R_drewN | apply Kd.R_drew)); exact Kd.R_mono HO616.out (fun _ hk => (by simp [Value.ownBlock]))⟩, ⟨by first | exact Kd.R_nil _ _ _ _ _ | exact Kd.N_nil _ _ _ _ _ | exact Kd.V_nil _ _ _ _ _ | exact Kd.Q_nil _ _ _ _ _ | exact Kd.S_nil _ _ _ _ _⟩, ⟨by (with_reducible repeat (first | apply Kd.R_alloc | apply Kd.R_drewN | apply Kd.R_drew)); exact HO_611000.out⟩, ⟨by (with_reducible repeat (first | apply Kd.R_alloc | apply Kd.R_drewN | apply Kd.R_drew)); exact HO_611001.out⟩, ⟨by (with_reducible repeat (first | refine blk_drewN ?_ _ | refine blk_drew ?_ | refine blk_alloc ?_ _)); exact BK603.out⟩, ⟨by (with_reducible repeat (first | refine blk_drewN ?_ _ | refine blk_drew ?_ | refine blk_alloc ?_ _)); exact BK610.out⟩, ⟨by repeat (first | (with_reducible first | exact HB.out | apply below_alloc | apply pw_below_drewN | apply below_drew1 | refine below_set ?_ GE603.out | refine below_set ?_ GE610.out) | exact HB.out)⟩⟩
        case round =>
          clear H'
          try clear c1
          try clear c2
          try clear p2
          try clear c11
          try clear c14
          try clear c15
          try clear c15b0
          try clear c15b1
          try clear c16
          try clear c18
          try clear c19
          try clear hcz12_0
          try clear hcz12_1
          try clear hcz20_0
          try clear hcz20_1
          try clear hcz7_0
          try clear hcz7_1
          try clear hcz7_2
          try clear hcz7_3
          try clear hcz7_4
          try clear hcz7_5
          try clear hcz7_6
          try clear hfz12_0
          try clear hfz12_1
          try clear hfz20_0
          try clear hfz20_1
          try clear hfz7_0
          try clear hfz7_1
          try clear hfz7_2
          try clear hfz7_3
          try clear hfz7_4
          try clear hfz7_5
          try clear hfz7_6
          try clear p2
          obtain ⟨x11_2, x12_2, rfl, HA, HK2, HO_9, HO_11, HO_611000, HO_611001, BK603, BK610, HB⟩ := hrel
          cases gk with
          | zero => exact absurd HA.out (by simp [foretellkeep_NextAfter.l0])
          | succ k2 =>
            have H := HA.out
            clear HA
            simp only [foretellkeep_NextAfter.l0] at H
            by_cases c22 : x12_2 < (t607.length : Int)
            · rw [if_pos c22] at H
              have c22b0 : decide (x12_2 < (t607.length : Int)) = true := decide_eq_true c22
              clear c22
              replace H := Option.bind_eq_some_iff.mp H
              obtain ⟨⟨t618, t619⟩, A230, H⟩ := H
              replace H : (if t619 = 0 then (if x11_2.length < 17592186044416 then (foretellkeep_NextAfter.l0 k2 t613 t614 t617 (x11_2 ++ [t618]) (wrap64 (x12_2 + 1)) t604 t607) else (none)) else (if t619 = 11 then (foretellkeep_NextAfter.l0 k2 t613 t614 t617 x11_2 (wrap64 (x12_2 + 1)) t604 t607) else (some false))) = some r := H
              have A23 := Aside0.mk A230
              clear A230
              by_cases c24 : t619 = 0
              · rw [if_pos c24] at H
                have c24b0 : (t619 == 0) = true := beq_iff_eq.mpr c24
                have c24b1 : (t619 != 0) = false := bne_eq_false_iff_eq.mpr c24
                clear c24
                by_cases c25 : x11_2.length < 17592186044416
                · rw [if_pos c25] at H
                  have LMc25 := Aside0.mk c25
                  clear c25
                  obtain ⟨y620, hy620⟩ : ∃ y_ : List Int, y_ = (x11_2 ++ [t618]) := ⟨_, rfl⟩
                  replace H : (foretellkeep_NextAfter.l0 k2 t613 t614 t617 y620 (wrap64 (x12_2 + 1)) t604 t607) = some r := by first | (rw [hy620]; with_reducible exact H) | (have H2_ := (Option.bind_some _ _).symm.trans H; rw [hy620]; with_reducible exact H2_) | (have H2_ := (Option.bind_some _ _).symm.trans H; with_reducible exact H2_) | with_reducible exact H | (rw [hy620]; exact H) | exact H
                  have Ny620 := Aside0.mk hy620
                  clear hy620
                  have H' := Aside0.mk H
                  clear H
                  have hnb26 := NB610_603.out
                  have hnc26 := NB603_610.out
                  have hcz27_0 : wr.cell? ⟨gb610, 0, none⟩ = some (.slice Ao10 t604.length co10) := (blk_cell BK610.out 0).trans rfl
                  have hcz27_1 : wr.cell? ⟨gb610, 1, none⟩ = some (.slice Ao13 t607.length co13) := (blk_cell BK610.out 1).trans rfl
                  have hfz27_0 := blk_frozen BK610.out 0
                  have hfz27_1 := blk_frozen BK610.out 1
                  go_wp2_with (first | ((with_reducible refine gate_callee (f := 25) rfl ?_); refine goesL_ (some 50) rfl rfl Tryd.func25 (by kernel_rfl) rfl #[.agg #[.slice Ao10 t604.length co10, .slice Ao13 t607.length co13], .int .i64 t613, .int .i64 x12_2] rfl (by (try simp only [List.map_toArray, List.map_cons, List.map_nil]); first | done | rfl | (simp only [List.length_drop, List.length_take]; rfl)) ?_; (with_reducible refine (step_After.calls k2 _ _ t604 _ _ t607 t613 x12_2 t618 t619 _ ?side1 ?side2 ?side3 ?side4 ?side5 A23.out).mono ?_); (case side1 => repeat (first | exact (Kd.R_reads' HO_611000.out).2.2 | (with_reducible refine Kd.C_alloc ?_ _) | (with_reducible refine Kd.C_drewN ?_ _) | (with_reducible refine Kd.C_drew ?_))); (case side2 => exact (Kd.R_reads' HO_611000.out).2.1); (case side3 => repeat (first | exact (Kd.R_reads' HO_611001.out).2.2 | (with_reducible refine Kd.C_alloc ?_ _) | (with_reducible refine Kd.C_drewN ?_ _) | (with_reducible refine Kd.C_drew ?_))); (case side4 => exact (Kd.R_reads' HO_611001.out).2.1); (case side5 => first | exact hG_ | exact Glob.drewN hG_ _ | exact Glob.below hG_ (by repeat (first | (with_reducible first | exact HB.out | apply below_alloc | apply pw_below_drewN | apply below_drew1 | refine below_set ?_ GE603.out | refine below_set ?_ GE610.out) | exact HB.out))); rintro e w28 ⟨rfl, hb⟩; refine ⟨_, rfl, ?_⟩; have n0_ := Aside0.mk (Kd.R_below (by (with_reducible repeat (first | apply Kd.R_alloc | apply Kd.R_drewN | apply Kd.R_drew)); exact HO_9.out) hb); have n1_ := Aside0.mk (Kd.R_below (by (with_reducible repeat (first | apply Kd.R_alloc | apply Kd.R_drewN | apply Kd.R_drew)); exact HO_11.out) hb); have n2_ := Aside0.mk (Kd.R_below (by (with_reducible repeat (first | apply Kd.R_alloc | apply Kd.R_drewN | apply Kd.R_drew)); exact HO_611000.out) hb); have n3_ := Aside0.mk (Kd.R_below (by (with_reducible repeat (first | apply Kd.R_alloc | apply Kd.R_drewN | apply Kd.R_drew)); exact HO_611001.out) hb); have n4_ := Aside0.mk (blk_below (g := gb603) (o := .cells #[.int .i64 a0_0, .int .i64 a0_1, .int .i64 a0_2, .int .i64 a0_3, .int .i64 a0_4, .int .i64 a0_5, .slice A0_6 l0_6.length c0_6] 25 (0, 0)) (by (with_reducible repeat (first | refine blk_drewN ?_ _ | refine blk_drew ?_ | refine blk_alloc ?_ _)); exact BK603.out) hb); have n5_ := Aside0.mk (blk_below (g := gb610) (o := .cells #[.slice Ao10 t604.length co10, .slice Ao13 t607.length co13] 29 (0, 0)) (by (with_reducible repeat (first | refine blk_drewN ?_ _ | refine blk_drew ?_ | refine blk_alloc ?_ _)); exact BK610.out) hb); have n6_ := Aside0.mk (below_step (by repeat (first | (with_reducible first | exact HB.out | apply below_alloc | apply pw_below_drewN | apply below_drew1 | refine below_set ?_ GE603.out | refine below_set ?_ GE610.out) | exact HB.out)) hb); clear HO_9; clear HO_11; clear HO_611000; clear HO_611001; clear BK603; clear BK610; clear HB; have HO_9 := n0_; have HO_11 := n1_; have HO_611000 := n2_; have HO_611001 := n3_; have BK603 := n4_; have BK610 := n5_; have HB := n6_; clear n0_ n1_ n2_ n3_ n4_ n5_ n6_; (try clear hb); (try clear hb2); (try clear hk); (try clear hi)) | ((with_reducible refine gate_builtin (b := .append) (xs := #[.tmp 55, .tmp 57]) rfl ?_); (try (refine gate_guard (by rfl) ?_; dsimp only)); at_builtin; refine Kd.R_append (Kd.int .i64) (w0 := w) w.heap.size rfl (.tmp 55) (.tmp 57) 48 3 (.int .i64 0) 8 rfl Tryd.underlying48 info3 rfl (by decide) (by omega) u11 x11_2 t618 [.int .i64 t618] (fun k_ => some k_ ≠ (v615 : Value).ownBlock) (fun _ => False) rfl rfl ?aP (fun _ hk => hk.elim) ?aF ?aO ?aB ?aS ?aL ?_; (case aP => exact rfl); (case aB => exact (by repeat (first | (with_reducible first | exact HB.out | apply below_alloc | apply pw_below_drewN | apply below_drew1 | refine below_set ?_ GE603.out | refine below_set ?_ GE610.out) | exact HB.out))); (case aF => exact (fun k_ hk => Kd.fresh' (Kd.R_lt (by (with_reducible repeat (first | apply Kd.R_alloc | apply Kd.R_drewN | apply Kd.R_drew)); exact HO_9.out)) k_ hk)); (case aO => exact (by (with_reducible repeat (first | apply Kd.R_alloc | apply Kd.R_drewN | apply Kd.R_drew)); exact HO_11.out)); (case aS => exact (below_size (by repeat (first | (with_reducible first | exact HB.out | apply below_alloc | apply pw_below_drewN | apply below_drew1 | refine below_set ?_ GE603.out | refine below_set ?_ GE610.out) | exact HB.out)))); (case aL => have := LMc25.out; omega); intro v621 w29 ho hb hg hat; rw [← Ny620.out] at ho; have n0_ := Aside0.mk (Kd.R_after (ok := (fun _ => True)) (by (with_reducible repeat (first | apply Kd.R_alloc | apply Kd.R_drewN | apply Kd.R_drew)); exact Kd.R_mono HO_9.out (fun _ hk => ⟨trivial, hk⟩)) hg hat); have n1_ := Aside0.mk (Kd.R_over' (by (with_reducible repeat (first | apply Kd.R_alloc | apply Kd.R_drewN | apply Kd.R_drew)); exact HO_611000.out) (Kd.R_typed (by (with_reducible repeat (first | apply Kd.R_alloc | apply Kd.R_drewN | apply Kd.R_drew)); exact HO_11.out)) (by decide) hg); have n2_ := Aside0.mk (Kd.R_over' (by (with_reducible repeat (first | apply Kd.R_alloc | apply Kd.R_drewN | apply Kd.R_drew)); exact HO_611001.out) (Kd.R_typed (by (with_reducible repeat (first | apply Kd.R_alloc | apply Kd.R_drewN | apply Kd.R_drew)); exact HO_11.out)) (by decide) hg); have n3_ := Aside0.mk (blk_grown (g := gb603) (o := .cells #[.int .i64 a0_0, .int .i64 a0_1, .int .i64 a0_2, .int .i64 a0_3, .int .i64 a0_4, .int .i64 a0_5, .slice A0_6 l0_6.length c0_6] 25 (0, 0)) (by (with_reducible repeat (first | refine blk_drewN ?_ _ | refine blk_drew ?_ | refine blk_alloc ?_ _)); exact BK603.out) hg (Kd.R_ne HO_11.out BK603.out (by decide))); have n4_ := Aside0.mk (blk_grown (g := gb610) (o := .cells #[.slice Ao10 t604.length co10, .slice Ao13 t607.length co13] 29 (0, 0)) (by (with_reducible repeat (first | refine blk_drewN ?_ _ | refine blk_drew ?_ | refine blk_alloc ?_ _)); exact BK610.out) hg (Kd.R_ne HO_11.out BK610.out (by decide))); have n5_ := Aside0.mk (hb); have n6_ := Aside0.mk (ho); clear HO_9; clear HO_611000; clear HO_611001; clear BK603; clear BK610; clear HB; clear HO_11; have HO_9 := n0_; have HO_611000 := n1_; have HO_611001 := n2_; have BK603 := n3_; have BK610 := n4_; have HB := n5_; have HO622 := n6_; clear n0_ n1_ n2_ n3_ n4_ n5_ n6_; clear ho hb hg hat))
                  go_roundg k2
                  case measure => have := HJ4.out; have := HK2.out; omega
                  case rel => exact ⟨(y620), (wrap64 (x12_2 + 1)), (by first | rfl | (simp; done) | (simp [*]; done)), H', ⟨by have := HJ4.out; have := HK2.out; omega⟩, ⟨by (with_reducible repeat (first | apply Kd.R_alloc | apply Kd.R_drewN | apply Kd.R_drew)); exact Kd.R_mono HO_9.out (fun _ hk => hk.2)⟩, ⟨by (with_reducible repeat (first | apply Kd.R_alloc | apply Kd.R_drewN | apply Kd.R_drew)); exact HO622.out⟩, ⟨by (with_reducible repeat (first | apply Kd.R_alloc | apply Kd.R_drewN | apply Kd.R_drew)); exact HO_611000.out⟩, ⟨by (with_reducible repeat (first | apply Kd.R_alloc | apply Kd.R_drewN | apply Kd.R_drew)); exact HO_611001.out⟩, ⟨by (with_reducible repeat (first | refine blk_drewN ?_ _ | refine blk_drew ?_ | refine blk_alloc ?_ _)); exact BK603.out⟩, ⟨by (with_reducible repeat (first | refine blk_drewN ?_ _ | refine blk_drew ?_ | refine blk_alloc ?_ _)); exact BK610.out⟩, ⟨by repeat (first | (with_reducible first | exact HB.out | apply below_alloc | apply pw_below_drewN | apply below_drew1 | refine below_set ?_ GE603.out | refine below_set ?_ GE610.out) | exact HB.out)⟩⟩
                · rw [if_neg c25] at H
                  exact absurd H (by simp)
              · rw [if_neg c24] at H
                have c24b0 : (t619 == 0) = false := beq_eq_false_iff_ne.mpr c24
                have c24b1 : (t619 != 0) = true := bne_iff_ne.mpr c24
                by_cases c30 : t619 = 11
                · rw [if_pos c30] at H
                  have c30b0 : (t619 == 11) = true := beq_iff_eq.mpr c30
                  have c30b1 : (t619 != 11) = false := bne_eq_false_iff_eq.mpr c30
                  clear c30
                  have H' := Aside0.mk H
                  clear H
                  have hnb31 := NB610_603.out
                  have hnc31 := NB603_610.out
                  have hcz32_0 : wr.cell? ⟨gb610, 0, none⟩ = some (.slice Ao10 t604.length co10) := (blk_cell BK610.out 0).trans rfl
                  have hcz32_1 : wr.cell? ⟨gb610, 1, none⟩ = some (.slice Ao13 t607.length co13) := (blk_cell BK610.out 1).trans rfl
                  have hfz32_0 := blk_frozen BK610.out 0
                  have hfz32_1 := blk_frozen BK610.out 1
                  go_wp2_with (first | ((with_reducible refine gate_callee (f := 25) rfl ?_); refine goesL_ (some 50) rfl rfl Tryd.func25 (by kernel_rfl) rfl #[.agg #[.slice Ao10 t604.length co10, .slice Ao13 t607.length co13], .int .i64 t613, .int .i64 x12_2] rfl (by (try simp only [List.map_toArray, List.map_cons, List.map_nil]); first | done | rfl | (simp only [List.length_drop, List.length_take]; rfl)) ?_; (with_reducible refine (step_After.calls k2 _ _ t604 _ _ t607 t613 x12_2 t618 t619 _ ?side1 ?side2 ?side3 ?side4 ?side5 A23.out).mono ?_); (case side1 => repeat (first | exact (Kd.R_reads' HO_611000.out).2.2 | (with_reducible refine Kd.C_alloc ?_ _) | (with_reducible refine Kd.C_drewN ?_ _) | (with_reducible refine Kd.C_drew ?_))); (case side2 => exact (Kd.R_reads' HO_611000.out).2.1); (case side3 => repeat (first | exact (Kd.R_reads' HO_611001.out).2.2 | (with_reducible refine Kd.C_alloc ?_ _) | (with_reducible refine Kd.C_drewN ?_ _) | (with_reducible refine Kd.C_drew ?_))); (case side4 => exact (Kd.R_reads' HO_611001.out).2.1); (case side5 => first | exact hG_ | exact Glob.drewN hG_ _ | exact Glob.below hG_ (by repeat (first | (with_reducible first | exact HB.out | apply below_alloc | apply pw_below_drewN | apply below_drew1 | refine below_set ?_ GE603.out | refine below_set ?_ GE610.out) | exact HB.out))); rintro e w33 ⟨rfl, hb⟩; refine ⟨_, rfl, ?_⟩; have n0_ := Aside0.mk (Kd.R_below (by (with_reducible repeat (first | apply Kd.R_alloc | apply Kd.R_drewN | apply Kd.R_drew)); exact HO_9.out) hb); have n1_ := Aside0.mk (Kd.R_below (by (with_reducible repeat (first | apply Kd.R_alloc | apply Kd.R_drewN | apply Kd.R_drew)); exact HO_11.out) hb); have n2_ := Aside0.mk (Kd.R_below (by (with_reducible repeat (first | apply Kd.R_alloc | apply Kd.R_drewN | apply Kd.R_drew)); exact HO_611000.out) hb); have n3_ := Aside0.mk (Kd.R_below (by (with_reducible repeat (first | apply Kd.R_alloc | apply Kd.R_drewN | apply Kd.R_drew)); exact HO_611001.out) hb); have n4_ := Aside0.mk (blk_below (g := gb603) (o := .cells #[.int .i64 a0_0, .int .i64 a0_1, .int .i64 a0_2, .int .i64 a0_3, .int .i64 a0_4, .int .i64 a0_5, .slice A0_6 l0_6.length c0_6] 25 (0, 0)) (by (with_reducible repeat (first | refine blk_drewN ?_ _ | refine blk_drew ?_ | refine blk_alloc ?_ _)); exact BK603.out) hb); have n5_ := Aside0.mk (blk_below (g := gb610) (o := .cells #[.slice Ao10 t604.length co10, .slice Ao13 t607.length co13] 29 (0, 0)) (by (with_reducible repeat (first | refine blk_drewN ?_ _ | refine blk_drew ?_ | refine blk_alloc ?_ _)); exact BK610.out) hb); have n6_ := Aside0.mk (below_step (by repeat (first | (with_reducible first | exact HB.out | apply below_alloc | apply pw_below_drewN | apply below_drew1 | refine below_set ?_ GE603.out | refine below_set ?_ GE610.out) | exact HB.out)) hb); clear HO_9; clear HO_11; clear HO_611000; clear HO_611001; clear BK603; clear BK610; clear HB; have HO_9 := n0_; have HO_11 := n1_; have HO_611000 := n2_; have HO_611001 := n3_; have BK603 := n4_; have BK610 := n5_; have HB := n6_; clear n0_ n1_ n2_ n3_ n4_ n5_ n6_; (try clear hb); (try clear hb2); (try clear hk); (try clear hi)))
                  go_roundg k2
                  case measure => have := HJ4.out; have := HK2.out; omega
                  case rel => exact ⟨(x11_2), (wrap64 (x12_2 + 1)), (by first | rfl | (simp; done) | (simp [*]; done)), H', ⟨by have := HJ4.out; have := HK2.out; omega⟩, ⟨by (with_reducible repeat (first | apply Kd.R_alloc | apply Kd.R_drewN | apply Kd.R_drew)); exact HO_9.out⟩, ⟨by (with_reducible repeat (first | apply Kd.R_alloc | apply Kd.R_drewN | apply Kd.R_drew)); exact HO_11.out⟩, ⟨by (with_reducible repeat (first | apply Kd.R_alloc | apply Kd.R_drewN | apply Kd.R_drew)); exact HO_611000.out⟩, ⟨by (with_reducible repeat (first | apply Kd.R_alloc | apply Kd.R_drewN | apply Kd.R_drew)); exact HO_611001.out⟩, ⟨by (with_reducible repeat (first | refine blk_drewN ?_ _ | refine blk_drew ?_ | refine blk_alloc ?_ _)); exact BK603.out⟩, ⟨by (with_reducible repeat (first | refine blk_drewN ?_ _ | refine blk_drew ?_ | refine blk_alloc ?_ _)); exact BK610.out⟩, ⟨by repeat (first | (with_reducible first | exact HB.out | apply below_alloc | apply pw_below_drewN | apply below_drew1 | refine below_set ?_ GE603.out | refine below_set ?_ GE610.out) | exact HB.out)⟩⟩
                · rw [if_neg c30] at H
                  exact absurd ((Option.some.inj H).trans hr_.out) (by decide)
            · rw [if_neg c22] at H
              have c22b0 : decide (x12_2 < (t607.length : Int)) = false := decide_eq_false c22
              clear c22
              by_cases c34 : (x11_2.length : Int) = 0
              · rw [if_pos c34] at H
                have c34b0 : ((x11_2.length : Int) == 0) = true := beq_iff_eq.mpr c34
                have c34b1 : ((x11_2.length : Int) != 0) = false := bne_eq_false_iff_eq.mpr c34
                clear c34
                by_cases c35 : t617 = 0
                · rw [if_pos c35] at H
                  have c35b0 : (t617 == 0) = true := beq_iff_eq.mpr c35
                  have c35b1 : (t617 != 0) = false := bne_eq_false_iff_eq.mpr c35
                  clear c35
                  by_cases c36 : (t614.length : Int) = 1
                  · rw [if_pos c36] at H
                    have c36b0 : ((t614.length : Int) == 1) = true := beq_iff_eq.mpr c36
                    have c36b1 : ((t614.length : Int) != 1) = false := bne_eq_false_iff_eq.mpr c36
                    clear c36
                    by_cases c37 : 0 < (t614.length : Int)
                    · rw [if_pos c37] at H
                      have c37b0 : decide (0 < (t614.length : Int)) = true := decide_eq_true c37
                      have c37b1 : decide (0 < t614.length) = true := decide_eq_true (by omega)
                      clear c37
                      obtain rfl := Option.some.inj H
                      have hnb38 := NB610_603.out
                      have hnc38 := NB603_610.out
                      have hcz39_0 : wr.cell? ⟨gb610, 0, none⟩ = some (.slice Ao10 t604.length co10) := (blk_cell BK610.out 0).trans rfl
                      have hcz39_1 : wr.cell? ⟨gb610, 1, none⟩ = some (.slice Ao13 t607.length co13) := (blk_cell BK610.out 1).trans rfl
                      have hfz39_0 := blk_frozen BK610.out 0
                      have hfz39_1 := blk_frozen BK610.out 1
                      obtain ⟨Ao40, co40, eo40⟩ := Kd.R_slice HO_11.out
                      subst eo40
                      obtain ⟨Ao41, co41, eo41⟩ := Kd.R_slice HO_9.out
                      subst eo41
                      have p623 : 0 ≤ (0 : Int) := (by omega)
                      have q623 : 0 < (t614.length : Int) := of_decide_eq_true (by first | (with_reducible assumption) | assumption)
                      obtain ⟨ad623, e623, hx623_0⟩ := Kd.at_int (Kd.R_reads' HO_9.out).2.2 0 p623 q623
                      cases e623
                      have qi623 : (0 < t614.length) = True := eq_true (by omega)
                      (try rw [show ((0 : Int)).toNat = 0 from rfl] at hx623_0)
                      (try rw [Addr.add_zero'] at hx623_0)
                      replace p623 := eq_true p623
                      replace q623 := eq_true q623
                      go_wp2
                      go_ret
                      exact ⟨by first | rfl | (simp [errW_none, errW_some] <;> rfl) | (simp [*, errW_none, errW_some] <;> rfl), by repeat (first | (with_reducible first | exact HB.out | apply below_alloc | apply pw_below_drewN | apply below_drew1 | refine below_set ?_ GE603.out | refine below_set ?_ GE610.out) | exact HB.out)⟩
                    · rw [if_neg c37] at H
                      exact absurd H (by simp)
                  · rw [if_neg c36] at H
                    exact absurd ((Option.some.inj H).trans hr_.out) (by decide)
                · rw [if_neg c35] at H
                  exact absurd ((Option.some.inj H).trans hr_.out) (by decide)
              · rw [if_neg c34] at H
                have c34b0 : ((x11_2.length : Int) == 0) = false := beq_eq_false_iff_ne.mpr c34
                have c34b1 : ((x11_2.length : Int) != 0) = true := bne_iff_ne.mpr c34
                have c34b2 : ¬ (x11_2 = []) := fun h_ => c34 (by rw [h_]; rfl)
                have H' := Aside0.mk H
                clear H
                have hnb42 := NB610_603.out
                have hnc42 := NB603_610.out
                have hcz43_0 : wr.cell? ⟨gb610, 0, none⟩ = some (.slice Ao10 t604.length co10) := (blk_cell BK610.out 0).trans rfl
                have hcz43_1 : wr.cell? ⟨gb610, 1, none⟩ = some (.slice Ao13 t607.length co13) := (blk_cell BK610.out 1).trans rfl
                have hfz43_0 := blk_frozen BK610.out 0
                have hfz43_1 := blk_frozen BK610.out 1
                obtain ⟨Ao44, co44, eo44⟩ := Kd.R_slice HO_11.out
                subst eo44
                go_wp2
                go_loopg [15] k2 (fun kq v15 w' => ∃ (x15_3 : Int), v15 = .int .i64 x15_3 ∧ Aside0 (foretellkeep_NextAfter.l1 kq t614 t617 x11_2 x15_3 = some r) ∧ Aside0 (kq ≤ k2) ∧ Aside0 (Kd.R (Kd.int .i64) 3 w' w.heap.size (fun k_ => some k_ ≠ ((.slice Ao44 x11_2.length co44) : Value).ownBlock) v615 t614) ∧ Aside0 (Kd.R (Kd.int .i64) 3 w' w.heap.size (fun k_ => some k_ ≠ (v615 : Value).ownBlock) (.slice Ao44 x11_2.length co44) x11_2) ∧ Aside0 (Kd.R k32 32 w' w.heap.size (fun _ => True) (.slice Ao10 t604.length co10) t604) ∧ Aside0 (Kd.R k42 42 w' w.heap.size (fun _ => True) (.slice Ao13 t607.length co13) t607) ∧ Aside0 (w'.heap[gb603]? = some (.cells #[.int .i64 a0_0, .int .i64 a0_1, .int .i64 a0_2, .int .i64 a0_3, .int .i64 a0_4, .int .i64 a0_5, (.slice A0_6 l0_6.length c0_6)] 25 (0, 0))) ∧ Aside0 (w'.heap[gb610]? = some (.cells #[(.slice Ao10 t604.length co10), (.slice Ao13 t607.length co13)] 29 (0, 0))) ∧ Aside0 (Below w.heap.size w w'))
                case atStart => exact ⟨(0), (by first | rfl | (simp; done) | (simp [*]; done)), H', ⟨Nat.le_refl _⟩, ⟨by (with_reducible repeat (first | apply Kd.R_alloc | apply Kd.R_drewN | apply Kd.R_drew)); exact HO_9.out⟩, ⟨by (with_reducible repeat (first | apply Kd.R_alloc | apply Kd.R_drewN | apply Kd.R_drew)); exact HO_11.out⟩, ⟨by (with_reducible repeat (first | apply Kd.R_alloc | apply Kd.R_drewN | apply Kd.R_drew)); exact HO_611000.out⟩, ⟨by (with_reducible repeat (first | apply Kd.R_alloc | apply Kd.R_drewN | apply Kd.R_drew)); exact HO_611001.out⟩, ⟨by (with_reducible repeat (first | refine blk_drewN ?_ _ | refine blk_drew ?_ | refine blk_alloc ?_ _)); exact BK603.out⟩, ⟨by (with_reducible repeat (first | refine blk_drewN ?_ _ | refine blk_drew ?_ | refine blk_alloc ?_ _)); exact BK610.out⟩, ⟨by repeat (first | (with_reducible first | exact HB.out | apply below_alloc | apply pw_below_drewN | apply below_drew1 | refine below_set ?_ GE603.out | refine below_set ?_ GE610.out) | exact HB.out)⟩⟩
                case round =>
                  clear H'
                  try clear c1
                  try clear c2
                  try clear p2
                  try clear c3
                  try clear c4
                  try clear p6
                  try clear q6
                  try clear hx6
                  try clear qi6
                  try clear c11
                  try clear c14
                  try clear c15
                  try clear c15b0
                  try clear c15b1
                  try clear c16
                  try clear c18
                  try clear c19
                  try clear c22
                  try clear c22b0
                  try clear c24
                  try clear c24b0
                  try clear c24b1
                  try clear c25
                  try clear c26
                  try clear c30
                  try clear c30b0
                  try clear c30b1
                  try clear c31
                  try clear c34
                  try clear c34b0
                  try clear c34b1
                  try clear c34b2
                  try clear c35
                  try clear c35b0
                  try clear c35b1
                  try clear c36
                  try clear c36b0
                  try clear c36b1
                  try clear c37
                  try clear c37b0
                  try clear c37b1
                  try clear c38
                  try clear c42
                  try clear hcz12_0
                  try clear hcz12_1
                  try clear hcz20_0
                  try clear hcz20_1
                  try clear hcz27_0
                  try clear hcz27_1
                  try clear hcz32_0
                  try clear hcz32_1
                  try clear hcz39_0
                  try clear hcz39_1
                  try clear hcz43_0
                  try clear hcz43_1
                  try clear hcz7_0
                  try clear hcz7_1
                  try clear hcz7_2
                  try clear hcz7_3
                  try clear hcz7_4
                  try clear hcz7_5
                  try clear hcz7_6
                  try clear hfz12_0
                  try clear hfz12_1
                  try clear hfz20_0
                  try clear hfz20_1
                  try clear hfz27_0
                  try clear hfz27_1
                  try clear hfz32_0
                  try clear hfz32_1
                  try clear hfz39_0
                  try clear hfz39_1
                  try clear hfz43_0
                  try clear hfz43_1
                  try clear hfz7_0
                  try clear hfz7_1
                  try clear hfz7_2
                  try clear hfz7_3
                  try clear hfz7_4
                  try clear hfz7_5
                  try clear hfz7_6
                  try clear hx623_0
                  try clear p2
                  try clear p623
                  try clear q623
                  obtain ⟨x15_3, rfl, HA, HK3, HO_9, HO_11, HO_611000, HO_611001, BK603, BK610, HB⟩ := hrel
                  cases gk with
                  | zero => exact absurd HA.out (by simp [foretellkeep_NextAfter.l1])
                  | succ k3 =>
                    have H := HA.out
                    clear HA
                    simp only [foretellkeep_NextAfter.l1] at H
                    by_cases c45 : x15_3 < (x11_2.length : Int)
                    · rw [if_pos c45] at H
                      have c45b0 : decide (x15_3 < (x11_2.length : Int)) = true := decide_eq_true c45
                      clear c45
                      by_cases c46 : 0 ≤ x15_3
                      · rw [if_pos c46] at H
                        have c46b0 : decide (0 ≤ x15_3) = true := decide_eq_true c46
                        clear c46
                        replace H := Option.bind_eq_some_iff.mp H
                        obtain ⟨t625, A470, H⟩ := H
                        replace H : (if t625 = true then (foretellkeep_NextAfter.l1 k3 t614 t617 x11_2 (wrap64 (x15_3 + 1))) else (some false)) = some r := H
                        have A47 := Aside0.mk A470
                        clear A470
                        by_cases c48 : t625 = true
                        · subst c48
                          have H1 : (foretellkeep_NextAfter.l1 k3 t614 t617 x11_2 (wrap64 (x15_3 + 1))) = some r := by rw [if_pos rfl] at H; exact H
                          clear H
                          have H := H1
                          clear H1
                          have H' := Aside0.mk H
                          clear H
                          have p624 : 0 ≤ (x15_3 : Int) := of_decide_eq_true (by first | (with_reducible assumption) | assumption)
                          have q624 : x15_3 < (x11_2.length : Int) := of_decide_eq_true (by first | (with_reducible assumption) | assumption)
                          obtain ⟨ad624, e624, hx624_0⟩ := Kd.at_int (Kd.R_reads' HO_11.out).2.2 x15_3 p624 q624
                          cases e624
                          replace p624 := eq_true p624
                          replace q624 := eq_true q624
                          obtain ⟨Ao49, co49, eo49⟩ := Kd.R_slice HO_9.out
                          subst eo49
                          go_wp2_with (first | ((with_reducible refine gate_callee (f := 26) rfl ?_); refine goesL_ (some 89) rfl rfl Tryd.func26 (by kernel_rfl) rfl #[.slice Ao49 t614.length co49, .int .i64 (rd x11_2 x15_3)] rfl (by (try simp only [List.map_toArray, List.map_cons, List.map_nil]); first | done | rfl | (simp only [List.length_drop, List.length_take]; rfl)) ?_; (with_reducible refine (foretellkeep_has.calls k3 _ _ t614 (rd x11_2 x15_3) true _ ?side1 ?side2 A47.out).mono ?_); (case side1 => repeat (first | exact (Kd.R_reads' HO_9.out).2.2 | (with_reducible refine Kd.C_alloc ?_ _) | (with_reducible refine Kd.C_drewN ?_ _) | (with_reducible refine Kd.C_drew ?_))); (case side2 => exact (Kd.R_reads' HO_9.out).2.1); rintro e w' ⟨rfl, ⟨nd, rfl⟩⟩; refine ⟨_, rfl, ?_⟩))
                          go_roundg k3
                          case measure => have := HJ4.out; have := HK2.out; have := HK3.out; omega
                          case rel => exact ⟨(wrap64 (x15_3 + 1)), (by first | rfl | (simp; done) | (simp [*]; done)), H', ⟨by have := HJ4.out; have := HK2.out; have := HK3.out; omega⟩, ⟨by (with_reducible repeat (first | apply Kd.R_alloc | apply Kd.R_drewN | apply Kd.R_drew)); exact HO_9.out⟩, ⟨by (with_reducible repeat (first | apply Kd.R_alloc | apply Kd.R_drewN | apply Kd.R_drew)); exact HO_11.out⟩, ⟨by (with_reducible repeat (first | apply Kd.R_alloc | apply Kd.R_drewN | apply Kd.R_drew)); exact HO_611000.out⟩, ⟨by (with_reducible repeat (first | apply Kd.R_alloc | apply Kd.R_drewN | apply Kd.R_drew)); exact HO_611001.out⟩, ⟨by (with_reducible repeat (first | refine blk_drewN ?_ _ | refine blk_drew ?_ | refine blk_alloc ?_ _)); exact BK603.out⟩, ⟨by (with_reducible repeat (first | refine blk_drewN ?_ _ | refine blk_drew ?_ | refine blk_alloc ?_ _)); exact BK610.out⟩, ⟨by repeat (first | (with_reducible first | exact HB.out | apply below_alloc | apply pw_below_drewN | apply below_drew1 | refine below_set ?_ GE603.out | refine below_set ?_ GE610.out) | exact HB.out)⟩⟩
                        · replace c48 := Bool.eq_false_iff.mpr c48
                          subst c48
                          have H1 : (some false) = some r := by rw [if_neg (show ¬ (false = true) by decide)] at H; exact H
                          clear H
                          have H := H1
                          clear H1
                          exact absurd ((Option.some.inj H).trans hr_.out) (by decide)
                      · rw [if_neg c46] at H
                        exact absurd H (by simp)
                    · rw [if_neg c45] at H
                      have c45b0 : decide (x15_3 < (x11_2.length : Int)) = false := decide_eq_false c45
                      clear c45
                      have H' := Aside0.mk H
                      clear H
                      go_wp2
                      go_loopg [16] k3 (fun kq v16 w' => ∃ (x16_4 : Int), v16 = .int .i64 x16_4 ∧ Aside0 (foretellkeep_NextAfter.l2 kq t614 t617 x11_2 x16_4 = some r) ∧ Aside0 (kq ≤ k3) ∧ Aside0 (Kd.R (Kd.int .i64) 3 w' w.heap.size (fun k_ => some k_ ≠ ((.slice Ao44 x11_2.length co44) : Value).ownBlock) v615 t614) ∧ Aside0 (Kd.R (Kd.int .i64) 3 w' w.heap.size (fun k_ => some k_ ≠ (v615 : Value).ownBlock) (.slice Ao44 x11_2.length co44) x11_2) ∧ Aside0 (Kd.R k32 32 w' w.heap.size (fun _ => True) (.slice Ao10 t604.length co10) t604) ∧ Aside0 (Kd.R k42 42 w' w.heap.size (fun _ => True) (.slice Ao13 t607.length co13) t607) ∧ Aside0 (w'.heap[gb603]? = some (.cells #[.int .i64 a0_0, .int .i64 a0_1, .int .i64 a0_2, .int .i64 a0_3, .int .i64 a0_4, .int .i64 a0_5, (.slice A0_6 l0_6.length c0_6)] 25 (0, 0))) ∧ Aside0 (w'.heap[gb610]? = some (.cells #[(.slice Ao10 t604.length co10), (.slice Ao13 t607.length co13)] 29 (0, 0))) ∧ Aside0 (Below w.heap.size w w'))
                      case atStart => exact ⟨(0), (by first | rfl | (simp; done) | (simp [*]; done)), H', ⟨Nat.le_refl _⟩, ⟨by (with_reducible repeat (first | apply Kd.R_alloc | apply Kd.R_drewN | apply Kd.R_drew)); exact HO_9.out⟩, ⟨by (with_reducible repeat (first | apply Kd.R_alloc | apply Kd.R_drewN | apply Kd.R_drew)); exact HO_11.out⟩, ⟨by (with_reducible repeat (first | apply Kd.R_alloc | apply Kd.R_drewN | apply Kd.R_drew)); exact HO_611000.out⟩, ⟨by (with_reducible repeat (first | apply Kd.R_alloc | apply Kd.R_drewN | apply Kd.R_drew)); exact HO_611001.out⟩, ⟨by (with_reducible repeat (first | refine blk_drewN ?_ _ | refine blk_drew ?_ | refine blk_alloc ?_ _)); exact BK603.out⟩, ⟨by (with_reducible repeat (first | refine blk_drewN ?_ _ | refine blk_drew ?_ | refine blk_alloc ?_ _)); exact BK610.out⟩, ⟨by repeat (first | (with_reducible first | exact HB.out | apply below_alloc | apply pw_below_drewN | apply below_drew1 | refine below_set ?_ GE603.out | refine below_set ?_ GE610.out) | exact HB.out)⟩⟩
                      case round =>
                        clear H'
                        try clear c1
                        try clear c2
                        try clear p2
                        try clear c3
                        try clear c4
                        try clear p6
                        try clear q6
                        try clear hx6
                        try clear qi6
                        try clear c11
                        try clear c14
                        try clear c15
                        try clear c15b0
                        try clear c15b1
                        try clear c16
                        try clear c18
                        try clear c19
                        try clear c22
                        try clear c22b0
                        try clear c24
                        try clear c24b0
                        try clear c24b1
                        try clear c25
                        try clear c26
                        try clear c30
                        try clear c30b0
                        try clear c30b1
                        try clear c31
                        try clear c34
                        try clear c34b0
                        try clear c34b1
                        try clear c34b2
                        try clear c35
                        try clear c35b0
                        try clear c35b1
                        try clear c36
                        try clear c36b0
                        try clear c36b1
                        try clear c37
                        try clear c37b0
                        try clear c37b1
                        try clear c38
                        try clear c42
                        try clear c45
                        try clear c45b0
                        try clear c46
                        try clear c46b0
                        try clear c48
                        try clear hcz12_0
                        try clear hcz12_1
                        try clear hcz20_0
                        try clear hcz20_1
                        try clear hcz27_0
                        try clear hcz27_1
                        try clear hcz32_0
                        try clear hcz32_1
                        try clear hcz39_0
                        try clear hcz39_1
                        try clear hcz43_0
                        try clear hcz43_1
                        try clear hcz7_0
                        try clear hcz7_1
                        try clear hcz7_2
                        try clear hcz7_3
                        try clear hcz7_4
                        try clear hcz7_5
                        try clear hcz7_6
                        try clear hfz12_0
                        try clear hfz12_1
                        try clear hfz20_0
                        try clear hfz20_1
                        try clear hfz27_0
                        try clear hfz27_1
                        try clear hfz32_0
                        try clear hfz32_1
                        try clear hfz39_0
                        try clear hfz39_1
                        try clear hfz43_0
                        try clear hfz43_1
                        try clear hfz7_0
                        try clear hfz7_1
                        try clear hfz7_2
                        try clear hfz7_3
                        try clear hfz7_4
                        try clear hfz7_5
                        try clear hfz7_6
                        try clear hx623_0
                        try clear hx624_0
                        try clear p2
                        try clear p6
                        try clear p623
                        try clear p624
                        try clear q6
                        try clear q623
                        try clear q624
                        obtain ⟨x16_4, rfl, HA, HK4, HO_9, HO_11, HO_611000, HO_611001, BK603, BK610, HB⟩ := hrel
                        cases gk with
                        | zero => exact absurd HA.out (by simp [foretellkeep_NextAfter.l2])
                        | succ k4 =>
                          have H := HA.out
                          clear HA
                          simp only [foretellkeep_NextAfter.l2] at H
                          by_cases c50 : x16_4 < (t614.length : Int)
                          · rw [if_pos c50] at H
                            have c50b0 : decide (x16_4 < (t614.length : Int)) = true := decide_eq_true c50
                            clear c50
                            by_cases c51 : 0 ≤ x16_4
                            · rw [if_pos c51] at H
                              have c51b0 : decide (0 ≤ x16_4) = true := decide_eq_true c51
                              clear c51
                              replace H := Option.bind_eq_some_iff.mp H
                              obtain ⟨t627, A520, H⟩ := H
                              replace H : (if t627 = true then (foretellkeep_NextAfter.l2 k4 t614 t617 x11_2 (wrap64 (x16_4 + 1))) else (some false)) = some r := H
                              have A52 := Aside0.mk A520
                              clear A520
                              by_cases c53 : t627 = true
                              · subst c53
                                have H1 : (foretellkeep_NextAfter.l2 k4 t614 t617 x11_2 (wrap64 (x16_4 + 1))) = some r := by rw [if_pos rfl] at H; exact H
                                clear H
                                have H := H1
                                clear H1
                                have H' := Aside0.mk H
                                clear H
                                obtain ⟨Ao54, co54, eo54⟩ := Kd.R_slice HO_9.out
                                subst eo54
                                have p626 : 0 ≤ (x16_4 : Int) := of_decide_eq_true (by first | (with_reducible assumption) | assumption)
                                have q626 : x16_4 < (t614.length : Int) := of_decide_eq_true (by first | (with_reducible assumption) | assumption)
                                obtain ⟨ad626, e626, hx626_0⟩ := Kd.at_int (Kd.R_reads' HO_9.out).2.2 x16_4 p626 q626
                                cases e626
                                replace p626 := eq_true p626
                                replace q626 := eq_true q626
                                go_wp2_with (first | ((with_reducible refine gate_callee (f := 26) rfl ?_); refine goesL_ (some 102) rfl rfl Tryd.func26 (by kernel_rfl) rfl #[.slice Ao44 x11_2.length co44, .int .i64 (rd t614 x16_4)] rfl (by (try simp only [List.map_toArray, List.map_cons, List.map_nil]); first | done | rfl | (simp only [List.length_drop, List.length_take]; rfl)) ?_; (with_reducible refine (foretellkeep_has.calls k4 _ _ x11_2 (rd t614 x16_4) true _ ?side1 ?side2 A52.out).mono ?_); (case side1 => repeat (first | exact (Kd.R_reads' HO_11.out).2.2 | (with_reducible refine Kd.C_alloc ?_ _) | (with_reducible refine Kd.C_drewN ?_ _) | (with_reducible refine Kd.C_drew ?_))); (case side2 => exact (Kd.R_reads' HO_11.out).2.1); rintro e w' ⟨rfl, ⟨nd, rfl⟩⟩; refine ⟨_, rfl, ?_⟩))
                                go_roundg k4
                                case measure => have := HJ4.out; have := HK2.out; have := HK3.out; have := HK4.out; omega
                                case rel => exact ⟨(wrap64 (x16_4 + 1)), (by first | rfl | (simp; done) | (simp [*]; done)), H', ⟨by have := HJ4.out; have := HK2.out; have := HK3.out; have := HK4.out; omega⟩, ⟨by (with_reducible repeat (first | apply Kd.R_alloc | apply Kd.R_drewN | apply Kd.R_drew)); exact HO_9.out⟩, ⟨by (with_reducible repeat (first | apply Kd.R_alloc | apply Kd.R_drewN | apply Kd.R_drew)); exact HO_11.out⟩, ⟨by (with_reducible repeat (first | apply Kd.R_alloc | apply Kd.R_drewN | apply Kd.R_drew)); exact HO_611000.out⟩, ⟨by (with_reducible repeat (first | apply Kd.R_alloc | apply Kd.R_drewN | apply Kd.R_drew)); exact HO_611001.out⟩, ⟨by (with_reducible repeat (first | refine blk_drewN ?_ _ | refine blk_drew ?_ | refine blk_alloc ?_ _)); exact BK603.out⟩, ⟨by (with_reducible repeat (first | refine blk_drewN ?_ _ | refine blk_drew ?_ | refine blk_alloc ?_ _)); exact BK610.out⟩, ⟨by repeat (first | (with_reducible first | exact HB.out | apply below_alloc | apply pw_below_drewN | apply below_drew1 | refine below_set ?_ GE603.out | refine below_set ?_ GE610.out) | exact HB.out)⟩⟩
                              · replace c53 := Bool.eq_false_iff.mpr c53
                                subst c53
                                have H1 : (some false) = some r := by rw [if_neg (show ¬ (false = true) by decide)] at H; exact H
                                clear H
                                have H := H1
                                clear H1
                                exact absurd ((Option.some.inj H).trans hr_.out) (by decide)
                            · rw [if_neg c51] at H
                              exact absurd H (by simp)
                          · rw [if_neg c50] at H
                            have c50b0 : decide (x16_4 < (t614.length : Int)) = false := decide_eq_false c50
                            clear c50
                            obtain rfl := Option.some.inj H
                            obtain ⟨Ao55, co55, eo55⟩ := Kd.R_slice HO_9.out
                            subst eo55
                            go_wp2
                            go_ret
                            exact ⟨by first | rfl | (simp [errW_none, errW_some] <;> rfl) | (simp [*, errW_none, errW_some] <;> rfl), by repeat (first | (with_reducible first | exact HB.out | apply below_alloc | apply pw_below_drewN | apply below_drew1 | refine below_set ?_ GE603.out | refine below_set ?_ GE610.out) | exact HB.out)⟩

end Go.Proofs.YteennleoieafiaaDoor.P
end
