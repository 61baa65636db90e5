-- a walk, laid out by a program of this repo over the seat's translation
import Derived.Test.YtpkigkmkolbiiaaF0
import Derived.Test.YtpkigkmkolbiiaaFForetellkeepGraph
import Derived.Test.YtpkigkmkolbiiaaFSccParts
import Derived.Test.YtpkigkmkolbiiaaFSccFair
namespace Go.Proofs.Ytpkigkmkolbiiaa.P
open Go.RowKit Go.Proofs.YtpkigkmkolbiiaaW.PrintWords Go.Proofs.YtpkigkmkolbiiaaW.PrintLast Go.Proofs.YtpkigkmkolbiiaaW.PrintMore Go.Proofs.Ytpkigkmkolbiiaa.G
attribute [local go_sem] max2_int min2_int max_two min_two max_three min_three max_four min_four   -- for this text's walks alone
set_option linter.unusedVariables false
set_option linter.unusedSimpArgs false

/-! ### foretellkeep_PartsLine: function 7 -/
mutual
def foretellkeep_PartsLine.l0 : Nat → Int → List (S45) → Int → List (List Int) → List Int → Int → Option (Bool)
  | 0, _, _, _, _, _, _ => none
  | k + 1, x4, x344000, x344001, x344002, x344003, x344004 => if x4 < (x344002.length : Int) then (foretellkeep_PartsLine.l1 k x4 ([] : List Int) 0 x344000 x344001 x344002 x344003 x344004) else ((scc_Parts.f k x344000 x344001 x344002 x344003 x344004).bind fun bt353 => ((scc_Fair.f k x344000 x344001 x344002 x344003 x344004).bind fun bt357 => (if bt353.2 = 0 then (if bt357.2 = 11 then (foretellkeep_PartsLine.j2 k bt353.1 ((bt353.1.length : Int) != (x344000.length : Int))) else (foretellkeep_PartsLine.j2 k bt353.1 true)) else (foretellkeep_PartsLine.j2 k bt353.1 true))))
def foretellkeep_PartsLine.l1 : Nat → Int → List Int → Int → List (S45) → Int → List (List Int) → List Int → Int → Option (Bool)
  | 0, _, _, _, _, _, _, _, _ => none
  | k + 1, x4, x5, x6, x344000, x344001, x344002, x344003, x344004 => if 0 ≤ x4 then (if x4 < (x344002.length : Int) then (if x6 < ((rd_L1 x344002 x4).length : Int) then (if 0 ≤ x6 then (if (rd (rd_L1 x344002 x4) x6) > x4 then (if x5.length < 17592186044416 then (foretellkeep_PartsLine.l1 k x4 (x5 ++ [rd (rd_L1 x344002 x4) x6]) (wrap64 (x6 + 1)) x344000 x344001 x344002 x344003 x344004) else (none)) else (foretellkeep_PartsLine.l1 k x4 x5 (wrap64 (x6 + 1)) x344000 x344001 x344002 x344003 x344004)) else (none)) else (foretellkeep_PartsLine.l0 k (wrap64 (x4 + 1)) x344000 x344001 (x344002.set (x4 : Int).toNat x5) x344003 x344004)) else (none)) else (none)
def foretellkeep_PartsLine.j2 : Nat → List Int → Bool → Option (Bool)
  | 0, _, _ => none
  | k + 1, x7, x80 => if x80 = true then (some false) else (foretellkeep_PartsLine.l2 k x7 0)
def foretellkeep_PartsLine.l2 : Nat → List Int → Int → Option (Bool)
  | 0, _, _ => none
  | k + 1, x7, x11 => if x11 < (x7.length : Int) then (if 0 ≤ x11 then (if (rd x7 x11) = x11 then (foretellkeep_PartsLine.l2 k x7 (wrap64 (x11 + 1))) else (some false)) else (none)) else (some true)
end
def foretellkeep_PartsLine.f (k : Nat) (l0_0 : List (List Int)) (l0_1 : List Int) (a0_2 : Int) (a0_3 : Int) : Option (Bool) := (foretellkeep_Graph.f k l0_0 l0_1 a0_2 a0_3).bind fun bt332 => (foretellkeep_PartsLine.l0 k 0 bt332.1 bt332.2.1 bt332.2.2.1 bt332.2.2.2.1 bt332.2.2.2.2)
theorem foretellkeep_PartsLine.mono_l : ∀ k, (∀ y0 y1 y2 y3 y4 y5, LeO (foretellkeep_PartsLine.l0 k y0 y1 y2 y3 y4 y5) (foretellkeep_PartsLine.l0 (k + 1) y0 y1 y2 y3 y4 y5)) ∧ (∀ y0 y1 y2 y3 y4 y5 y6 y7, LeO (foretellkeep_PartsLine.l1 k y0 y1 y2 y3 y4 y5 y6 y7) (foretellkeep_PartsLine.l1 (k + 1) y0 y1 y2 y3 y4 y5 y6 y7)) ∧ (∀ y0 y1, LeO (foretellkeep_PartsLine.j2 k y0 y1) (foretellkeep_PartsLine.j2 (k + 1) y0 y1)) ∧ (∀ y0 y1, LeO (foretellkeep_PartsLine.l2 k y0 y1) (foretellkeep_PartsLine.l2 (k + 1) y0 y1))
  | 0 => ⟨fun _ _ _ _ _ _ r h => by simp [foretellkeep_PartsLine.l0] at h, fun _ _ _ _ _ _ _ _ r h => by simp [foretellkeep_PartsLine.l1] at h, fun _ _ r h => by simp [foretellkeep_PartsLine.j2] at h, fun _ _ r h => by simp [foretellkeep_PartsLine.l2] at h⟩
  | k + 1 => by
    obtain ⟨ih0, ih1, ih2, ih3⟩ := foretellkeep_PartsLine.mono_l k
    refine ⟨?_, ?_, ?_, ?_⟩
    · intro y0 y1 y2 y3 y4 y5
      unfold foretellkeep_PartsLine.l0
      repeat' first
      | (with_reducible exact ih0 _ _ _ _ _ _)
      | (with_reducible exact ih1 _ _ _ _ _ _ _ _)
      | (with_reducible exact ih2 _ _)
      | (with_reducible exact ih3 _ _)
      | (with_reducible exact foretellkeep_Graph.mono _ _ _ _ _)
      | (with_reducible exact scc_Fair.mono _ _ _ _ _ _)
      | (with_reducible exact scc_Parts.mono _ _ _ _ _ _)
      | (with_reducible exact LeO.refl _)
      | (with_reducible exact LeO.none _)
      | (with_reducible refine LeO.ite ?_ ?_)
      | (with_reducible refine LeO.bind ?_ (fun _ => ?_))
      | exact ih0 _ _ _ _ _ _
      | exact ih1 _ _ _ _ _ _ _ _
      | exact ih2 _ _
      | exact ih3 _ _
      | exact foretellkeep_Graph.mono _ _ _ _ _
      | exact scc_Fair.mono _ _ _ _ _ _
      | exact scc_Parts.mono _ _ _ _ _ _
      | exact LeO.none _
      | refine LeO.ite ?_ ?_
      | refine LeO.bind ?_ (fun _ => ?_)
    · intro y0 y1 y2 y3 y4 y5 y6 y7
      unfold foretellkeep_PartsLine.l1
      repeat' first
      | (with_reducible exact ih0 _ _ _ _ _ _)
      | (with_reducible exact ih1 _ _ _ _ _ _ _ _)
      | (with_reducible exact ih2 _ _)
      | (with_reducible exact ih3 _ _)
      | (with_reducible exact foretellkeep_Graph.mono _ _ _ _ _)
      | (with_reducible exact scc_Fair.mono _ _ _ _ _ _)
      | (with_reducible exact scc_Parts.mono _ _ _ _ _ _)
      | (with_reducible exact LeO.refl _)
      | (with_reducible exact LeO.none _)
      | (with_reducible refine LeO.ite ?_ ?_)
      | (with_reducible refine LeO.bind ?_ (fun _ => ?_))
      | exact ih0 _ _ _ _ _ _
      | exact ih1 _ _ _ _ _ _ _ _
      | exact ih2 _ _
      | exact ih3 _ _
      | exact foretellkeep_Graph.mono _ _ _ _ _
      | exact scc_Fair.mono _ _ _ _ _ _
      | exact scc_Parts.mono _ _ _ _ _ _
      | exact LeO.none _
      | refine LeO.ite ?_ ?_
      | refine LeO.bind ?_ (fun _ => ?_)
    · intro y0 y1
      unfold foretellkeep_PartsLine.j2
      repeat' first
      | (with_reducible exact ih0 _ _ _ _ _ _)
      | (with_reducible exact ih1 _ _ _ _ _ _ _ _)
      | (with_reducible exact ih2 _ _)
      | (with_reducible exact ih3 _ _)
      | (with_reducible exact foretellkeep_Graph.mono _ _ _ _ _)
      | (with_reducible exact scc_Fair.mono _ _ _ _ _ _)
      | (with_reducible exact scc_Parts.mono _ _ _ _ _ _)
      | (with_reducible exact LeO.refl _)
      | (with_reducible exact LeO.none _)
      | (with_reducible refine LeO.ite ?_ ?_)
      | (with_reducible refine LeO.bind ?_ (fun _ => ?_))
      | exact ih0 _ _ _ _ _ _
      | exact ih1 _ _ _ _ _ _ _ _
      | exact ih2 _ _
      | exact ih3 _ _
      | exact foretellkeep_Graph.mono _ _ _ _ _
      | exact scc_Fair.mono _ _ _ _ _ _
      | exact scc_Parts.mono _ _ _ _ _ _
      | exact LeO.none _
      | refine LeO.ite ?_ ?_
      | refine LeO.bind ?_ (fun _ => ?_)
    · intro y0 y1
      unfold foretellkeep_PartsLine.l2
      repeat' first
      | (with_reducible exact ih0 _ _ _ _ _ _)
      | (with_reducible exact ih1 _ _ _ _ _ _ _ _)
      | (with_reducible exact ih2 _ _)
      | (with_reducible exact ih3 _ _)
      | (with_reducible exact foretellkeep_Graph.mono _ _ _ _ _)
      | (with_reducible exact scc_Fair.mono _ _ _ _ _ _)
      | (with_reducible exact scc_Parts.mono _ _ _ _ _ _)
      | (with_reducible exact LeO.refl _)
      | (with_reducible exact LeO.none _)
      | (with_reducible refine LeO.ite ?_ ?_)
      | (with_reducible refine LeO.bind ?_ (fun _ => ?_))
      | exact ih0 _ _ _ _ _ _
      | exact ih1 _ _ _ _ _ _ _ _
      | exact ih2 _ _
      | exact ih3 _ _
      | exact foretellkeep_Graph.mono _ _ _ _ _
      | exact scc_Fair.mono _ _ _ _ _ _
      | exact scc_Parts.mono _ _ _ _ _ _
      | exact LeO.none _
      | refine LeO.ite ?_ ?_
      | refine LeO.bind ?_ (fun _ => ?_)
theorem foretellkeep_PartsLine.mono : ∀ a0 a1 a2 a3 k, LeO (foretellkeep_PartsLine.f k a0 a1 a2 a3) (foretellkeep_PartsLine.f (k + 1) a0 a1 a2 a3) := by
  intro a0 a1 a2 a3 k
  obtain ⟨ih0, ih1, ih2, ih3⟩ := foretellkeep_PartsLine.mono_l k
  unfold foretellkeep_PartsLine.f
  repeat' first
      | (with_reducible exact ih0 _ _ _ _ _ _)
      | (with_reducible exact ih1 _ _ _ _ _ _ _ _)
      | (with_reducible exact ih2 _ _)
      | (with_reducible exact ih3 _ _)
      | (with_reducible exact foretellkeep_Graph.mono _ _ _ _ _)
      | (with_reducible exact scc_Fair.mono _ _ _ _ _ _)
      | (with_reducible exact scc_Parts.mono _ _ _ _ _ _)
      | (with_reducible exact LeO.refl _)
      | (with_reducible exact LeO.none _)
      | (with_reducible refine LeO.ite ?_ ?_)
      | (with_reducible refine LeO.bind ?_ (fun _ => ?_))
      | exact ih0 _ _ _ _ _ _
      | exact ih1 _ _ _ _ _ _ _ _
      | exact ih2 _ _
      | exact ih3 _ _
      | exact foretellkeep_Graph.mono _ _ _ _ _
      | exact scc_Fair.mono _ _ _ _ _ _
      | exact scc_Parts.mono _ _ _ _ _ _
      | exact LeO.none _
      | refine LeO.ite ?_ ?_
      | refine LeO.bind ?_ (fun _ => ?_)
set_option maxHeartbeats 8000000 in
set_option maxRecDepth 100000 in
theorem foretellkeep_PartsLine.calls (k : Nat) (A0_0 : Option Addr) (c0_0 : Nat) (l0_0 : List (List Int)) (A0_1 : Option Addr) (c0_1 : Nat) (l0_1 : List Int) (a0_2 : Int) (a0_3 : Int) (r : Bool) (w : World) (hr0_0 : Kd.C (Kd.slice 3 (Kd.int .i64)) w A0_0 l0_0.length l0_0) (hc0_0 : l0_0.length ≤ c0_0) (hr0_1 : Kd.C (Kd.int .i64) w A0_1 l0_1.length l0_1) (hc0_1 : l0_1.length ≤ c0_1) (hr_ : Aside0 (r = true)) (h : foretellkeep_PartsLine.f k l0_0 l0_1 a0_2 a0_3 = some r) :
    Calls Try.prog 7 #[.agg #[.slice A0_0 l0_0.length c0_0, .slice A0_1 l0_1.length c0_1, .int .i64 a0_2, .int .i64 a0_3]] w fun e w' => e = .returned (.bool r) ∧ Below w.heap.size w w' := by
  have hu25 := Try.underlying25
  have hu28 := Try.underlying28
  have HR0_0 := Aside0.mk hr0_0
  have HC0_0 := Aside0.mk hc0_0
  clear hr0_0 hc0_0
  have HR0_1 := Aside0.mk hr0_1
  have HC0_1 := Aside0.mk hc0_1
  clear hr0_1 hc0_1
  have HB := Aside0.mk (Below.refl w.heap.size w)
  have H : ((foretellkeep_Graph.f k l0_0 l0_1 a0_2 a0_3).bind fun bt332 => (foretellkeep_PartsLine.l0 k 0 bt332.1 bt332.2.1 bt332.2.2.1 bt332.2.2.2.1 bt332.2.2.2.2)) = some r := h
  clear h
  replace H := Option.bind_eq_some_iff.mp H
  obtain ⟨⟨t332, t335, t336, t339, t342⟩, A20, H⟩ := H
  replace H : (foretellkeep_PartsLine.l0 k 0 t332 t335 t336 t339 t342) = some r := H
  have A2 := Aside0.mk A20
  clear A20
  have H' := Aside0.mk H
  clear H
  go_enter Try.func7, Try.ntmps7
  go_wp2_with (first | ((with_reducible refine gate_dst (N := 1) rfl ?_); (try (refine gate_guard (by rfl) ?_; dsimp only)); refine box_event ?hg (N := 1) ?hd (cs := #[.slice A0_0 l0_0.length c0_0, .slice A0_1 l0_1.length c0_1, .int .i64 a0_2, .int .i64 a0_3]) (t := 25) ?hr ?_; (case hd => rfl); (case hg => rfl); (case hr => first | (go_simp; done) | (go_simp; rfl)); intro gb331 hg w3 hbox hb; have n0_ := Aside0.mk (below_step (by repeat (first | (with_reducible first | exact HB.out | apply below_alloc | apply pw_below_drewN | apply below_drew1) | exact HB.out)) hb); have n1_ := Aside0.mk (hbox); have n2_ := Aside0.mk ((by rw [hg]; exact (below_size (by repeat (first | (with_reducible first | exact HB.out | apply below_alloc | apply pw_below_drewN | apply below_drew1) | exact HB.out))) : w.heap.size ≤ gb331)); have n3_ := Aside0.mk ((by rw [hg]; exact (below_size (by repeat (first | (with_reducible first | exact HB.out | apply below_alloc | apply pw_below_drewN | apply below_drew1) | exact HB.out))) : w.heap.size ≤ gb331)); clear HB; have HB := n0_; have BK331 := n1_; have GW331 := n2_; have GE331 := n3_; clear n0_ n1_ n2_ n3_; clear hb hbox hg; have hcz4_0 : w3.cell? ⟨gb331, 0, none⟩ = some (.slice A0_0 l0_0.length c0_0) := (blk_cell BK331.out 0).trans rfl; have hcz4_1 : w3.cell? ⟨gb331, 1, none⟩ = some (.slice A0_1 l0_1.length c0_1) := (blk_cell BK331.out 1).trans rfl; have hcz4_2 : w3.cell? ⟨gb331, 2, none⟩ = some (.int .i64 a0_2) := (blk_cell BK331.out 2).trans rfl; have hcz4_3 : w3.cell? ⟨gb331, 3, none⟩ = some (.int .i64 a0_3) := (blk_cell BK331.out 3).trans rfl; have hfz4_0 := blk_frozen BK331.out 0; have hfz4_1 := blk_frozen BK331.out 1; have hfz4_2 := blk_frozen BK331.out 2; have hfz4_3 := blk_frozen BK331.out 3) | ((with_reducible refine gate_callee (f := 9) rfl ?_); refine goesL_ (some 13) rfl rfl Try.func9 (by kernel_rfl) rfl #[.agg #[.slice A0_0 l0_0.length c0_0, .slice A0_1 l0_1.length c0_1, .int .i64 a0_2, .int .i64 a0_3]] rfl (by (try simp only [List.map_toArray, List.map_cons, List.map_nil]); first | done | rfl | (simp only [List.length_drop, List.length_take]; rfl)) ?_; (with_reducible refine (foretellkeep_Graph.calls k _ _ l0_0 _ _ l0_1 a0_2 a0_3 t332 t335 t336 t339 t342 _ ?side1 ?side2 ?side3 ?side4 A2.out).mono ?_); (case side1 => repeat (first | exact (Kd.C_below HR0_0.out HB.out) | (with_reducible refine Kd.C_alloc ?_ _) | (with_reducible refine Kd.C_drewN ?_ _) | (with_reducible refine Kd.C_drew ?_))); (case side2 => exact HC0_0.out); (case side3 => repeat (first | exact (Kd.C_below HR0_1.out HB.out) | (with_reducible refine Kd.C_alloc ?_ _) | (with_reducible refine Kd.C_drewN ?_ _) | (with_reducible refine Kd.C_drew ?_))); (case side4 => exact HC0_1.out); rintro e w5 ⟨v333, v337, v340, rfl, ho0, ho1, ho2, hb⟩; refine ⟨_, rfl, ?_⟩; have n0_ := Aside0.mk (Kd.R_lower ho0 (below_size (by repeat (first | (with_reducible first | exact HB.out | apply below_alloc | apply pw_below_drewN | apply below_drew1 | refine below_set ?_ GE331.out) | exact HB.out)))); have n1_ := Aside0.mk (Kd.S_lower ho1 (below_size (by repeat (first | (with_reducible first | exact HB.out | apply below_alloc | apply pw_below_drewN | apply below_drew1 | refine below_set ?_ GE331.out) | exact HB.out)))); have n2_ := Aside0.mk (Kd.R_lower ho2 (below_size (by repeat (first | (with_reducible first | exact HB.out | apply below_alloc | apply pw_below_drewN | apply below_drew1 | refine below_set ?_ GE331.out) | exact HB.out)))); have n3_ := Aside0.mk (blk_below (g := gb331) (o := .cells #[.slice A0_0 l0_0.length c0_0, .slice A0_1 l0_1.length c0_1, .int .i64 a0_2, .int .i64 a0_3] 25 (0, 0)) (by (with_reducible repeat (first | refine blk_drewN ?_ _ | refine blk_drew ?_ | refine blk_alloc ?_ _)); exact BK331.out) hb); have n4_ := Aside0.mk (below_step (by repeat (first | (with_reducible first | exact HB.out | apply below_alloc | apply pw_below_drewN | apply below_drew1 | refine below_set ?_ GE331.out) | exact HB.out)) hb); clear BK331; clear HB; have HO334 := n0_; have HO338 := n1_; have HO341 := n2_; have BK331 := n3_; have HB := n4_; clear n0_ n1_ n2_ n3_ n4_; (try clear hb); (try clear hb2); (try clear hk); (try clear hi); (try clear ho0); (try clear ho1); (try clear ho2)) | ((with_reducible refine gate_dst (N := 3) rfl ?_); (try (refine gate_guard (by rfl) ?_; dsimp only)); refine box_event ?hg (N := 3) ?hd (cs := #[.slice none 0 0, .int .i64 0, .slice none 0 0, .slice none 0 0, .int .i64 0]) (t := 28) ?hr ?_; (case hd => rfl); (case hg => rfl); (case hr => first | (go_simp; done) | (go_simp; rfl)); intro gb343 hg w6 hbox hb; have n0_ := Aside0.mk (Kd.R_below (by (with_reducible repeat (first | apply Kd.R_alloc | apply Kd.R_drewN | apply Kd.R_drew)); exact HO334.out) hb); have n1_ := Aside0.mk (Kd.S_below (by (with_reducible repeat (first | apply Kd.S_alloc | apply Kd.S_drewN | apply Kd.S_drew)); exact HO338.out) hb); have n2_ := Aside0.mk (Kd.R_below (by (with_reducible repeat (first | apply Kd.R_alloc | apply Kd.R_drewN | apply Kd.R_drew)); exact HO341.out) hb); have n3_ := Aside0.mk (blk_below (g := gb331) (o := .cells #[.slice A0_0 l0_0.length c0_0, .slice A0_1 l0_1.length c0_1, .int .i64 a0_2, .int .i64 a0_3] 25 (0, 0)) (by (with_reducible repeat (first | refine blk_drewN ?_ _ | refine blk_drew ?_ | refine blk_alloc ?_ _)); exact BK331.out) hb); have n4_ := Aside0.mk (below_step (by repeat (first | (with_reducible first | exact HB.out | apply below_alloc | apply pw_below_drewN | apply below_drew1 | refine below_set ?_ GE331.out) | exact HB.out)) hb); have n5_ := Aside0.mk (hbox); have n6_ := Aside0.mk ((by rw [hg]; exact (below_size (by repeat (first | (with_reducible first | exact HB.out | apply below_alloc | apply pw_below_drewN | apply below_drew1 | refine below_set ?_ GE331.out) | exact HB.out))) : w.heap.size ≤ gb343)); have n7_ := Aside0.mk ((by rw [hg]; exact (below_size (by repeat (first | (with_reducible first | exact HB.out | apply below_alloc | apply pw_below_drewN | apply below_drew1 | refine below_set ?_ GE331.out) | exact HB.out))) : w.heap.size ≤ gb343)); have n8_ := Aside0.mk ((by rw [hg]; exact Nat.ne_of_lt (blk_lt (g := gb331) (o := .cells #[.slice A0_0 l0_0.length c0_0, .slice A0_1 l0_1.length c0_1, .int .i64 a0_2, .int .i64 a0_3] 25 (0, 0)) (by (with_reducible repeat (first | refine blk_drewN ?_ _ | refine blk_drew ?_ | refine blk_alloc ?_ _)); exact BK331.out)) : gb331 ≠ gb343)); have n9_ := Aside0.mk ((by rw [hg]; exact Nat.ne_of_gt (blk_lt (g := gb331) (o := .cells #[.slice A0_0 l0_0.length c0_0, .slice A0_1 l0_1.length c0_1, .int .i64 a0_2, .int .i64 a0_3] 25 (0, 0)) (by (with_reducible repeat (first | refine blk_drewN ?_ _ | refine blk_drew ?_ | refine blk_alloc ?_ _)); exact BK331.out)) : gb343 ≠ gb331)); clear HO334; clear HO338; clear HO341; clear BK331; clear HB; have HO334 := n0_; have HO338 := n1_; have HO341 := n2_; have BK331 := n3_; have HB := n4_; have BK343 := n5_; have GW343 := n6_; have GE343 := n7_; have NB331_343 := n8_; have NB343_331 := n9_; clear n0_ n1_ n2_ n3_ n4_ n5_ n6_ n7_ n8_ n9_; clear hb hbox hg; obtain ⟨Ao7, co7, eo7⟩ := Kd.R_slice HO334.out; subst eo7; have hnb8 := NB343_331.out; have hnc8 := NB331_343.out; have hcz9_0 : w6.cell? ⟨gb343, 0, none⟩ = some (.slice none 0 0) := (blk_cell BK343.out 0).trans rfl; have hcz9_1 : w6.cell? ⟨gb343, 1, none⟩ = some (.int .i64 0) := (blk_cell BK343.out 1).trans rfl; have hcz9_2 : w6.cell? ⟨gb343, 2, none⟩ = some (.slice none 0 0) := (blk_cell BK343.out 2).trans rfl; have hcz9_3 : w6.cell? ⟨gb343, 3, none⟩ = some (.slice none 0 0) := (blk_cell BK343.out 3).trans rfl; have hcz9_4 : w6.cell? ⟨gb343, 4, none⟩ = some (.int .i64 0) := (blk_cell BK343.out 4).trans rfl; have hfz9_0 := blk_frozen BK343.out 0; have hfz9_1 := blk_frozen BK343.out 1; have hfz9_2 := blk_frozen BK343.out 2; have hfz9_3 := blk_frozen BK343.out 3; have hfz9_4 := blk_frozen BK343.out 4; obtain ⟨Ao10, co10, eo10⟩ := Kd.S_slice HO338.out; subst eo10; obtain ⟨Ao11, co11, eo11⟩ := Kd.R_slice HO341.out; subst eo11))
  go_loopg [4] k (fun kq v4 w' => ∃ (x4_1 : Int) (x344002_1 : List (List Int)) (u344002 : Value), v4 = .int .i64 x4_1 ∧ Aside0 (foretellkeep_PartsLine.l0 kq x4_1 t332 t335 x344002_1 t339 t342 = some r) ∧ Aside0 (kq ≤ k) ∧ Aside0 (Kd.R k45 45 w' w.heap.size (fun _ => True) (.slice Ao7 t332.length co7) t332) ∧ Aside0 (Kd.S (Kd.slice 3 (Kd.int .i64)) 23 w' w.heap.size (fun k_ => some k_ ≠ ((.slice Ao11 t339.length co11) : Value).ownBlock) u344002 x344002_1) ∧ Aside0 (Kd.R (Kd.int .i64) 3 w' w.heap.size (fun _ => True) (.slice Ao11 t339.length co11) t339) ∧ Aside0 (w'.heap[gb331]? = some (.cells #[(.slice A0_0 l0_0.length c0_0), (.slice A0_1 l0_1.length c0_1), .int .i64 a0_2, .int .i64 a0_3] 25 (0, 0))) ∧ Aside0 (w'.heap[gb343]? = some (.cells #[(.slice Ao7 t332.length co7), .int .i64 t335, u344002, (.slice Ao11 t339.length co11), .int .i64 t342] 28 (0, 0))) ∧ Aside0 (Below w.heap.size w w'))
  case atStart => exact ⟨(0), (t336), (.slice Ao10 t336.length co10), (by first | rfl | (simp; done) | (simp [*]; done)), H', ⟨Nat.le_refl _⟩, ⟨by (with_reducible repeat (first | apply Kd.R_alloc | apply Kd.R_drewN | apply Kd.R_drew)); exact Kd.R_mono (Kd.R_far (p := ⟨gb343, 4, none⟩) (Kd.R_far (p := ⟨gb343, 3, none⟩) (Kd.R_far (p := ⟨gb343, 2, none⟩) (Kd.R_far (p := ⟨gb343, 1, none⟩) (Kd.R_far (p := ⟨gb343, 0, none⟩) (Kd.R_types HO334.out BK343.out (by decide)) (fun _ hk => hk.2) (.slice Ao7 t332.length co7)) (fun _ hk => hk.2) (.int .i64 t335)) (fun _ hk => hk.2) (.slice Ao10 t336.length co10)) (fun _ hk => hk.2) (.slice Ao11 t339.length co11)) (fun _ hk => hk.2) (.int .i64 t342)) (fun _ hk => trivial)⟩, ⟨by (with_reducible repeat (first | apply Kd.S_alloc | apply Kd.S_drewN | apply Kd.S_drew)); exact Kd.S_mono (Kd.S_far (p := ⟨gb343, 4, none⟩) (Kd.S_far (p := ⟨gb343, 3, none⟩) (Kd.S_far (p := ⟨gb343, 2, none⟩) (Kd.S_far (p := ⟨gb343, 1, none⟩) (Kd.S_far (p := ⟨gb343, 0, none⟩) (Kd.S_types HO338.out BK343.out (by decide)) (fun _ hk => hk.2) (.slice Ao7 t332.length co7)) (fun _ hk => hk.2) (.int .i64 t335)) (fun _ hk => hk.2) (.slice Ao10 t336.length co10)) (fun _ hk => hk.2) (.slice Ao11 t339.length co11)) (fun _ hk => hk.2) (.int .i64 t342)) (fun _ hk => hk.1)⟩, ⟨by (with_reducible repeat (first | apply Kd.R_alloc | apply Kd.R_drewN | apply Kd.R_drew)); exact Kd.R_mono (Kd.R_far (p := ⟨gb343, 4, none⟩) (Kd.R_far (p := ⟨gb343, 3, none⟩) (Kd.R_far (p := ⟨gb343, 2, none⟩) (Kd.R_far (p := ⟨gb343, 1, none⟩) (Kd.R_far (p := ⟨gb343, 0, none⟩) (Kd.R_types HO341.out BK343.out (by decide)) (fun _ hk => hk.2) (.slice Ao7 t332.length co7)) (fun _ hk => hk.2) (.int .i64 t335)) (fun _ hk => hk.2) (.slice Ao10 t336.length co10)) (fun _ hk => hk.2) (.slice Ao11 t339.length co11)) (fun _ hk => hk.2) (.int .i64 t342)) (fun _ hk => trivial)⟩, ⟨by (with_reducible repeat (first | refine blk_drewN ?_ _ | refine blk_drew ?_ | refine blk_alloc ?_ _)); refine blk_far ?_ NB331_343.out _; (with_reducible repeat (first | refine blk_drewN ?_ _ | refine blk_drew ?_ | refine blk_alloc ?_ _)); refine blk_far ?_ NB331_343.out _; (with_reducible repeat (first | refine blk_drewN ?_ _ | refine blk_drew ?_ | refine blk_alloc ?_ _)); refine blk_far ?_ NB331_343.out _; (with_reducible repeat (first | refine blk_drewN ?_ _ | refine blk_drew ?_ | refine blk_alloc ?_ _)); refine blk_far ?_ NB331_343.out _; (with_reducible repeat (first | refine blk_drewN ?_ _ | refine blk_drew ?_ | refine blk_alloc ?_ _)); refine blk_far ?_ NB331_343.out _; (with_reducible repeat (first | refine blk_drewN ?_ _ | refine blk_drew ?_ | refine blk_alloc ?_ _)); exact BK331.out⟩, ⟨by (with_reducible repeat (first | refine blk_drewN ?_ _ | refine blk_drew ?_ | refine blk_alloc ?_ _)); refine blk_put (cs := #[.slice Ao7 t332.length co7, .int .i64 t335, .slice Ao10 t336.length co10, .slice Ao11 t339.length co11, .int .i64 0]) ?_ 4 _ rfl; (with_reducible repeat (first | refine blk_drewN ?_ _ | refine blk_drew ?_ | refine blk_alloc ?_ _)); refine blk_put (cs := #[.slice Ao7 t332.length co7, .int .i64 t335, .slice Ao10 t336.length co10, .slice none 0 0, .int .i64 0]) ?_ 3 _ rfl; (with_reducible repeat (first | refine blk_drewN ?_ _ | refine blk_drew ?_ | refine blk_alloc ?_ _)); refine blk_put (cs := #[.slice Ao7 t332.length co7, .int .i64 t335, .slice none 0 0, .slice none 0 0, .int .i64 0]) ?_ 2 _ rfl; (with_reducible repeat (first | refine blk_drewN ?_ _ | refine blk_drew ?_ | refine blk_alloc ?_ _)); refine blk_put (cs := #[.slice Ao7 t332.length co7, .int .i64 0, .slice none 0 0, .slice none 0 0, .int .i64 0]) ?_ 1 _ rfl; (with_reducible repeat (first | refine blk_drewN ?_ _ | refine blk_drew ?_ | refine blk_alloc ?_ _)); refine blk_put (cs := #[.slice none 0 0, .int .i64 0, .slice none 0 0, .slice none 0 0, .int .i64 0]) ?_ 0 _ rfl; (with_reducible repeat (first | refine blk_drewN ?_ _ | refine blk_drew ?_ | refine blk_alloc ?_ _)); exact BK343.out⟩, ⟨by repeat (first | (with_reducible first | exact HB.out | apply below_alloc | apply pw_below_drewN | apply below_drew1 | refine below_set ?_ GE331.out | refine below_set ?_ GE343.out) | exact HB.out)⟩⟩
  case round =>
    clear H'
    try clear p2
    try clear c7
    try clear c8
    try clear c9
    try clear hcz4_0
    try clear hcz4_1
    try clear hcz4_2
    try clear hcz4_3
    try clear hcz9_0
    try clear hcz9_1
    try clear hcz9_2
    try clear hcz9_3
    try clear hcz9_4
    try clear hfz4_0
    try clear hfz4_1
    try clear hfz4_2
    try clear hfz4_3
    try clear hfz9_0
    try clear hfz9_1
    try clear hfz9_2
    try clear hfz9_3
    try clear hfz9_4
    obtain ⟨x4_1, x344002_1, u344002, rfl, HA, HK1, HO_344000, HO_344002, HO_344003, BK331, BK343, HB⟩ := hrel
    cases gk with
    | zero => exact absurd HA.out (by simp [foretellkeep_PartsLine.l0])
    | succ k1 =>
      have H := HA.out
      clear HA
      simp only [foretellkeep_PartsLine.l0] at H
      by_cases c12 : x4_1 < (x344002_1.length : Int)
      · rw [if_pos c12] at H
        have c12b0 : decide (x4_1 < (x344002_1.length : Int)) = true := decide_eq_true c12
        clear c12
        have H' := Aside0.mk H
        clear H
        have hnb13 := NB343_331.out
        have hnc13 := NB331_343.out
        have hcz14_0 : wr.cell? ⟨gb343, 0, none⟩ = some (.slice Ao7 t332.length co7) := (blk_cell BK343.out 0).trans rfl
        have hcz14_1 : wr.cell? ⟨gb343, 1, none⟩ = some (.int .i64 t335) := (blk_cell BK343.out 1).trans rfl
        have hcz14_2 : wr.cell? ⟨gb343, 2, none⟩ = some (u344002) := (blk_cell BK343.out 2).trans rfl
        have hcz14_3 : wr.cell? ⟨gb343, 3, none⟩ = some (.slice Ao11 t339.length co11) := (blk_cell BK343.out 3).trans rfl
        have hcz14_4 : wr.cell? ⟨gb343, 4, none⟩ = some (.int .i64 t342) := (blk_cell BK343.out 4).trans rfl
        have hfz14_0 := blk_frozen BK343.out 0
        have hfz14_1 := blk_frozen BK343.out 1
        have hfz14_2 := blk_frozen BK343.out 2
        have hfz14_3 := blk_frozen BK343.out 3
        have hfz14_4 := blk_frozen BK343.out 4
        obtain ⟨Ao15, co15, eo15⟩ := Kd.S_slice HO_344002.out
        subst eo15
        go_wp2
        go_loopg [5, 6] k1 (fun kq v5 v6 w' => ∃ (x5_2 : List Int) (x6_2 : Int), v6 = .int .i64 x6_2 ∧ Aside0 (foretellkeep_PartsLine.l1 kq x4_1 x5_2 x6_2 t332 t335 x344002_1 t339 t342 = some r) ∧ Aside0 (kq ≤ k1) ∧ Aside0 (Kd.R (Kd.int .i64) 3 w' w.heap.size (fun k_ => some k_ ≠ ((.slice Ao11 t339.length co11) : Value).ownBlock) v5 x5_2) ∧ Aside0 (Kd.R k45 45 w' w.heap.size (fun _ => True) (.slice Ao7 t332.length co7) t332) ∧ Aside0 (Kd.S (Kd.slice 3 (Kd.int .i64)) 23 w' w.heap.size (fun k_ => some k_ ≠ (v5 : Value).ownBlock ∧ some k_ ≠ ((.slice Ao11 t339.length co11) : Value).ownBlock) (.slice Ao15 x344002_1.length co15) x344002_1) ∧ Aside0 (Kd.R (Kd.int .i64) 3 w' w.heap.size (fun k_ => some k_ ≠ (v5 : Value).ownBlock) (.slice Ao11 t339.length co11) t339) ∧ Aside0 (w'.heap[gb331]? = some (.cells #[(.slice A0_0 l0_0.length c0_0), (.slice A0_1 l0_1.length c0_1), .int .i64 a0_2, .int .i64 a0_3] 25 (0, 0))) ∧ Aside0 (w'.heap[gb343]? = some (.cells #[(.slice Ao7 t332.length co7), .int .i64 t335, (.slice Ao15 x344002_1.length co15), (.slice Ao11 t339.length co11), .int .i64 t342] 28 (0, 0))) ∧ Aside0 (Below w.heap.size w w'))
        case atStart => exact ⟨(([] : List Int)), (0), (by first | rfl | (simp; done) | (simp [*]; done)), H', ⟨Nat.le_refl _⟩, ⟨by first | exact Kd.R_nil _ _ _ _ _ | exact Kd.N_nil _ _ _ _ _ | exact Kd.V_nil _ _ _ _ _ | exact Kd.Q_nil _ _ _ _ _ | exact Kd.S_nil _ _ _ _ _⟩, ⟨by (with_reducible repeat (first | apply Kd.R_alloc | apply Kd.R_drewN | apply Kd.R_drew)); exact HO_344000.out⟩, ⟨by (with_reducible repeat (first | apply Kd.S_alloc | apply Kd.S_drewN | apply Kd.S_drew)); exact Kd.S_mono HO_344002.out (fun _ hk => ⟨(by simp [Value.ownBlock]), hk⟩)⟩, ⟨by (with_reducible repeat (first | apply Kd.R_alloc | apply Kd.R_drewN | apply Kd.R_drew)); exact Kd.R_mono HO_344003.out (fun _ hk => (by simp [Value.ownBlock]))⟩, ⟨by (with_reducible repeat (first | refine blk_drewN ?_ _ | refine blk_drew ?_ | refine blk_alloc ?_ _)); exact BK331.out⟩, ⟨by (with_reducible repeat (first | refine blk_drewN ?_ _ | refine blk_drew ?_ | refine blk_alloc ?_ _)); exact BK343.out⟩, ⟨by repeat (first | (with_reducible first | exact HB.out | apply below_alloc | apply pw_below_drewN | apply below_drew1 | refine below_set ?_ GE331.out | refine below_set ?_ GE343.out) | exact HB.out)⟩⟩
        case round =>
          clear H'
          try clear c1
          try clear p2
          try clear c7
          try clear c8
          try clear c9
          try clear c12
          try clear c12b0
          try clear c13
          try clear hcz14_0
          try clear hcz14_1
          try clear hcz14_2
          try clear hcz14_3
          try clear hcz14_4
          try clear hcz4_0
          try clear hcz4_1
          try clear hcz4_2
          try clear hcz4_3
          try clear hcz9_0
          try clear hcz9_1
          try clear hcz9_2
          try clear hcz9_3
          try clear hcz9_4
          try clear hfz14_0
          try clear hfz14_1
          try clear hfz14_2
          try clear hfz14_3
          try clear hfz14_4
          try clear hfz4_0
          try clear hfz4_1
          try clear hfz4_2
          try clear hfz4_3
          try clear hfz9_0
          try clear hfz9_1
          try clear hfz9_2
          try clear hfz9_3
          try clear hfz9_4
          try clear p2
          obtain ⟨x5_2, x6_2, rfl, HA, HK2, HO_5, HO_344000, HO_344002, HO_344003, BK331, BK343, HB⟩ := hrel
          cases gk with
          | zero => exact absurd HA.out (by simp [foretellkeep_PartsLine.l1])
          | succ k2 =>
            have H := HA.out
            clear HA
            simp only [foretellkeep_PartsLine.l1] at H
            by_cases c16 : 0 ≤ x4_1
            · rw [if_pos c16] at H
              have c16b0 : decide (0 ≤ x4_1) = true := decide_eq_true c16
              clear c16
              by_cases c17 : x4_1 < (x344002_1.length : Int)
              · rw [if_pos c17] at H
                have c17b0 : decide (x4_1 < (x344002_1.length : Int)) = true := decide_eq_true c17
                clear c17
                by_cases c18 : x6_2 < ((rd_L1 x344002_1 x4_1).length : Int)
                · rw [if_pos c18] at H
                  have c18b0 : decide (x6_2 < ((rd_L1 x344002_1 x4_1).length : Int)) = true := decide_eq_true c18
                  clear c18
                  by_cases c19 : 0 ≤ x6_2
                  · rw [if_pos c19] at H
                    have c19b0 : decide (0 ≤ x6_2) = true := decide_eq_true c19
                    clear c19
                    by_cases c20 : (rd (rd_L1 x344002_1 x4_1) x6_2) > x4_1
                    · rw [if_pos c20] at H
                      have c20b0 : decide (x4_1 < (rd (rd_L1 x344002_1 x4_1) x6_2)) = true := decide_eq_true c20
                      clear c20
                      by_cases c21 : x5_2.length < 17592186044416
                      · rw [if_pos c21] at H
                        have LMc21 := Aside0.mk c21
                        clear c21
                        obtain ⟨y349, hy349⟩ : ∃ y_ : List Int, y_ = (x5_2 ++ [rd (rd_L1 x344002_1 x4_1) x6_2]) := ⟨_, rfl⟩
                        replace H : (foretellkeep_PartsLine.l1 k2 x4_1 y349 (wrap64 (x6_2 + 1)) t332 t335 x344002_1 t339 t342) = some r := by first | (rw [hy349]; with_reducible exact H) | (have H2_ := (Option.bind_some _ _).symm.trans H; rw [hy349]; with_reducible exact H2_) | (have H2_ := (Option.bind_some _ _).symm.trans H; with_reducible exact H2_) | with_reducible exact H | (rw [hy349]; exact H) | exact H
                        have Ny349 := Aside0.mk hy349
                        clear hy349
                        have H' := Aside0.mk H
                        clear H
                        have hnb22 := NB343_331.out
                        have hnc22 := NB331_343.out
                        have hcz23_0 : wr.cell? ⟨gb343, 0, none⟩ = some (.slice Ao7 t332.length co7) := (blk_cell BK343.out 0).trans rfl
                        have hcz23_1 : wr.cell? ⟨gb343, 1, none⟩ = some (.int .i64 t335) := (blk_cell BK343.out 1).trans rfl
                        have hcz23_2 : wr.cell? ⟨gb343, 2, none⟩ = some (.slice Ao15 x344002_1.length co15) := (blk_cell BK343.out 2).trans rfl
                        have hcz23_3 : wr.cell? ⟨gb343, 3, none⟩ = some (.slice Ao11 t339.length co11) := (blk_cell BK343.out 3).trans rfl
                        have hcz23_4 : wr.cell? ⟨gb343, 4, none⟩ = some (.int .i64 t342) := (blk_cell BK343.out 4).trans rfl
                        have hfz23_0 := blk_frozen BK343.out 0
                        have hfz23_1 := blk_frozen BK343.out 1
                        have hfz23_2 := blk_frozen BK343.out 2
                        have hfz23_3 := blk_frozen BK343.out 3
                        have hfz23_4 := blk_frozen BK343.out 4
                        have p344 : 0 ≤ (x4_1 : Int) := of_decide_eq_true (by first | (with_reducible assumption) | assumption)
                        have q344 : x4_1 < (x344002_1.length : Int) := of_decide_eq_true (by first | (with_reducible assumption) | assumption)
                        obtain ⟨ad344, A344_0, c344_0, e344, hx344_0, hl344_0, hi344_0⟩ := at_L1 (Kd.S_reads' HO_344002.out).2.2 x4_1 p344 q344
                        cases e344
                        obtain ⟨ce344, hce344, hMe344, hcc344⟩ := Kd.S_get HO_344002.out [] x4_1 p344 (by first | exact q344 | exact of_decide_eq_true (by first | (with_reducible assumption) | assumption) | (have e_ := (Kd.S_reads' HO_344002.out).1; omega))
                        obtain ⟨ve344_0, rfl, ge344_0⟩ := hMe344
                        have hv344_0 := hcc344 0 _ rfl
                        rw [Nat.add_zero, show ((Kd.slice 3 (Kd.int .i64))).sz = 1 from rfl, Nat.mul_one] at hv344_0
                        replace hv344_0 := Option.some.inj (hv344_0.symm.trans hx344_0)
                        rw [hv344_0] at ge344_0
                        have HL344_0 := Aside0.mk (show Kd.R (Kd.int .i64) 3 _ _ _ _ (rd_L1 x344002_1 x4_1) from ge344_0)
                        clear hv344_0 ge344_0
                        clear hcc344 hce344
                        have HR344_0 := Aside0.mk hi344_0
                        have HC344_0 := Aside0.mk hl344_0
                        clear hi344_0 hl344_0
                        replace p344 := eq_true p344
                        replace q344 := eq_true q344
                        have p345 : 0 ≤ (x4_1 : Int) := of_decide_eq_true (by first | (with_reducible assumption) | assumption)
                        have q345 : x4_1 < (x344002_1.length : Int) := of_decide_eq_true (by first | (with_reducible assumption) | assumption)
                        obtain ⟨ad345, A345_0, c345_0, e345, hx345_0, hl345_0, hi345_0⟩ := at_L1 (Kd.S_reads' HO_344002.out).2.2 x4_1 p345 q345
                        obtain rfl : ad344 = ad345 := (by injection e345)
                        obtain ⟨ce345, hce345, hMe345, hcc345⟩ := Kd.S_get HO_344002.out [] x4_1 p345 (by first | exact q345 | exact of_decide_eq_true (by first | (with_reducible assumption) | assumption) | (have e_ := (Kd.S_reads' HO_344002.out).1; omega))
                        obtain ⟨ve345_0, rfl, ge345_0⟩ := hMe345
                        have hv345_0 := hcc345 0 _ rfl
                        rw [Nat.add_zero, show ((Kd.slice 3 (Kd.int .i64))).sz = 1 from rfl, Nat.mul_one] at hv345_0
                        replace hv345_0 := Option.some.inj (hv345_0.symm.trans hx345_0)
                        rw [hv345_0] at ge345_0
                        have HL345_0 := Aside0.mk (show Kd.R (Kd.int .i64) 3 _ _ _ _ (rd_L1 x344002_1 x4_1) from ge345_0)
                        clear hv345_0 ge345_0
                        clear hcc345 hce345
                        have HR345_0 := Aside0.mk hi345_0
                        have HC345_0 := Aside0.mk hl345_0
                        clear hi345_0 hl345_0
                        replace p345 := eq_true p345
                        replace q345 := eq_true q345
                        have ea_ := Option.some.inj (hx344_0.symm.trans hx345_0)
                        injection ea_ with ea_ en_ ec_
                        subst ea_
                        subst ec_
                        clear en_
                        have p346 : 0 ≤ (x6_2 : Int) := of_decide_eq_true (by first | (with_reducible assumption) | assumption)
                        have q346 : x6_2 < ((rd_L1 x344002_1 x4_1).length : Int) := of_decide_eq_true (by first | (with_reducible assumption) | assumption)
                        obtain ⟨ad346, e346, hx346_0⟩ := Kd.at_int (by repeat (first | (with_reducible exact HR345_0.out) | (with_reducible refine Kd.C_alloc ?_ _) | (with_reducible refine Kd.C_drewN ?_ _) | (with_reducible refine Kd.C_drew ?_) | exact HR345_0.out)) x6_2 p346 q346
                        cases e346
                        replace p346 := eq_true p346
                        replace q346 := eq_true q346
                        have p347 : 0 ≤ (x4_1 : Int) := of_decide_eq_true (by first | (with_reducible assumption) | assumption)
                        have q347 : x4_1 < (x344002_1.length : Int) := of_decide_eq_true (by first | (with_reducible assumption) | assumption)
                        obtain ⟨ad347, A347_0, c347_0, e347, hx347_0, hl347_0, hi347_0⟩ := at_L1 (Kd.S_reads' HO_344002.out).2.2 x4_1 p347 q347
                        obtain rfl : ad344 = ad347 := (by injection e347)
                        obtain ⟨ce347, hce347, hMe347, hcc347⟩ := Kd.S_get HO_344002.out [] x4_1 p347 (by first | exact q347 | exact of_decide_eq_true (by first | (with_reducible assumption) | assumption) | (have e_ := (Kd.S_reads' HO_344002.out).1; omega))
                        obtain ⟨ve347_0, rfl, ge347_0⟩ := hMe347
                        have hv347_0 := hcc347 0 _ rfl
                        rw [Nat.add_zero, show ((Kd.slice 3 (Kd.int .i64))).sz = 1 from rfl, Nat.mul_one] at hv347_0
                        replace hv347_0 := Option.some.inj (hv347_0.symm.trans hx347_0)
                        rw [hv347_0] at ge347_0
                        have HL347_0 := Aside0.mk (show Kd.R (Kd.int .i64) 3 _ _ _ _ (rd_L1 x344002_1 x4_1) from ge347_0)
                        clear hv347_0 ge347_0
                        clear hcc347 hce347
                        have HR347_0 := Aside0.mk hi347_0
                        have HC347_0 := Aside0.mk hl347_0
                        clear hi347_0 hl347_0
                        replace p347 := eq_true p347
                        replace q347 := eq_true q347
                        have ea_ := Option.some.inj (hx344_0.symm.trans hx347_0)
                        injection ea_ with ea_ en_ ec_
                        subst ea_
                        subst ec_
                        clear en_
                        have p348 : 0 ≤ (x6_2 : Int) := of_decide_eq_true (by first | (with_reducible assumption) | assumption)
                        have q348 : x6_2 < ((rd_L1 x344002_1 x4_1).length : Int) := of_decide_eq_true (by first | (with_reducible assumption) | assumption)
                        obtain ⟨ad348, e348, hx348_0⟩ := Kd.at_int (by repeat (first | (with_reducible exact HR347_0.out) | (with_reducible refine Kd.C_alloc ?_ _) | (with_reducible refine Kd.C_drewN ?_ _) | (with_reducible refine Kd.C_drew ?_) | exact HR347_0.out)) x6_2 p348 q348
                        cases e348
                        replace p348 := eq_true p348
                        replace q348 := eq_true q348
                        go_wp2_with (first | ((with_reducible refine gate_builtin (b := .append) (xs := #[.tmp 41, .tmp 50]) rfl ?_); (try (refine gate_guard (by rfl) ?_; dsimp only)); at_builtin; refine Kd.R_append (Kd.int .i64) (w0 := w) w.heap.size rfl (.tmp 41) (.tmp 50) 23 3 (.int .i64 0) 8 rfl Try.underlying23 info3 rfl (by decide) (by omega) u5 x5_2 (rd (rd_L1 x344002_1 x4_1) x6_2) [.int .i64 (rd (rd_L1 x344002_1 x4_1) x6_2)] (fun k_ => some k_ ≠ (.slice Ao11 t339.length co11 : Value).ownBlock) (fun _ => False) rfl rfl ?aP (fun _ hk => hk.elim) ?aF ?aO ?aB ?aS ?aL ?_; (case aP => exact rfl); (case aB => exact (by repeat (first | (with_reducible first | exact HB.out | apply below_alloc | apply pw_below_drewN | apply below_drew1 | refine below_set ?_ GE331.out | refine below_set ?_ GE343.out) | exact HB.out))); (case aF => exact (fun k_ hk => Kd.fresh' (Kd.R_lt (by (with_reducible repeat (first | apply Kd.R_alloc | apply Kd.R_drewN | apply Kd.R_drew)); exact HO_344003.out)) k_ hk)); (case aO => exact (by (with_reducible repeat (first | apply Kd.R_alloc | apply Kd.R_drewN | apply Kd.R_drew)); exact HO_5.out)); (case aS => exact (below_size (by repeat (first | (with_reducible first | exact HB.out | apply below_alloc | apply pw_below_drewN | apply below_drew1 | refine below_set ?_ GE331.out | refine below_set ?_ GE343.out) | exact HB.out)))); (case aL => have := LMc21.out; omega); intro v350 w24 ho hb hg hat; rw [← Ny349.out] at ho; have n0_ := Aside0.mk (Kd.R_over' (by (with_reducible repeat (first | apply Kd.R_alloc | apply Kd.R_drewN | apply Kd.R_drew)); exact HO_344000.out) (Kd.R_typed (by (with_reducible repeat (first | apply Kd.R_alloc | apply Kd.R_drewN | apply Kd.R_drew)); exact HO_5.out)) (by decide) hg); have n1_ := Aside0.mk (Kd.S_after (ok := (fun k_ => some k_ ≠ (.slice Ao11 t339.length co11 : Value).ownBlock)) (by (with_reducible repeat (first | apply Kd.S_alloc | apply Kd.S_drewN | apply Kd.S_drew)); exact Kd.S_mono HO_344002.out (fun _ hk => ⟨hk.2, hk.1⟩)) hg hat); have n2_ := Aside0.mk (Kd.R_after (ok := (fun _ => True)) (by (with_reducible repeat (first | apply Kd.R_alloc | apply Kd.R_drewN | apply Kd.R_drew)); exact Kd.R_mono HO_344003.out (fun _ hk => ⟨trivial, hk⟩)) hg hat); have n3_ := Aside0.mk (blk_grown (g := gb331) (o := .cells #[.slice A0_0 l0_0.length c0_0, .slice A0_1 l0_1.length c0_1, .int .i64 a0_2, .int .i64 a0_3] 25 (0, 0)) (by (with_reducible repeat (first | refine blk_drewN ?_ _ | refine blk_drew ?_ | refine blk_alloc ?_ _)); exact BK331.out) hg (Kd.R_ne HO_5.out BK331.out (by decide))); have n4_ := Aside0.mk (blk_grown (g := gb343) (o := .cells #[.slice Ao7 t332.length co7, .int .i64 t335, .slice (some ad344) x344002_1.length co15, .slice Ao11 t339.length co11, .int .i64 t342] 28 (0, 0)) (by (with_reducible repeat (first | refine blk_drewN ?_ _ | refine blk_drew ?_ | refine blk_alloc ?_ _)); exact BK343.out) hg (Kd.R_ne HO_5.out BK343.out (by decide))); have n5_ := Aside0.mk (Kd.R_after (ok := (fun k_ => some k_ ≠ (.slice (some ad344) x344002_1.length co15 : Value).ownBlock ∧ some k_ ≠ (.slice Ao11 t339.length co11 : Value).ownBlock)) (by (with_reducible repeat (first | apply Kd.R_alloc | apply Kd.R_drewN | apply Kd.R_drew)); exact Kd.R_mono HL344_0.out (fun _ hk => ⟨⟨hk.2, hk.1.2⟩, hk.1.1⟩)) hg hat); have n6_ := Aside0.mk (Kd.R_after (ok := (fun k_ => some k_ ≠ (.slice (some ad344) x344002_1.length co15 : Value).ownBlock ∧ some k_ ≠ (.slice Ao11 t339.length co11 : Value).ownBlock)) (by (with_reducible repeat (first | apply Kd.R_alloc | apply Kd.R_drewN | apply Kd.R_drew)); exact Kd.R_mono HL345_0.out (fun _ hk => ⟨⟨hk.2, hk.1.2⟩, hk.1.1⟩)) hg hat); have n7_ := Aside0.mk (Kd.R_after (ok := (fun k_ => some k_ ≠ (.slice (some ad344) x344002_1.length co15 : Value).ownBlock ∧ some k_ ≠ (.slice Ao11 t339.length co11 : Value).ownBlock)) (by (with_reducible repeat (first | apply Kd.R_alloc | apply Kd.R_drewN | apply Kd.R_drew)); exact Kd.R_mono HL347_0.out (fun _ hk => ⟨⟨hk.2, hk.1.2⟩, hk.1.1⟩)) hg hat); have n8_ := Aside0.mk (hb); have n9_ := Aside0.mk (ho); clear HO_344000; clear HO_344002; clear HO_344003; clear BK331; clear BK343; clear HL344_0; clear HL345_0; clear HL347_0; clear HB; clear HO_5; have HO_344000 := n0_; have HO_344002 := n1_; have HO_344003 := n2_; have BK331 := n3_; have BK343 := n4_; have HL344_0 := n5_; have HL345_0 := n6_; have HL347_0 := n7_; have HB := n8_; have HO351 := n9_; clear n0_ n1_ n2_ n3_ n4_ n5_ n6_ n7_ n8_ n9_; clear ho hb hg hat))
                        go_roundg k2
                        case measure => have := HK1.out; have := HK2.out; omega
                        case rel => exact ⟨(y349), (wrap64 (x6_2 + 1)), (by first | rfl | (simp; done) | (simp [*]; done)), H', ⟨by have := HK1.out; have := HK2.out; omega⟩, ⟨by (with_reducible repeat (first | apply Kd.R_alloc | apply Kd.R_drewN | apply Kd.R_drew)); exact HO351.out⟩, ⟨by (with_reducible repeat (first | apply Kd.R_alloc | apply Kd.R_drewN | apply Kd.R_drew)); exact HO_344000.out⟩, ⟨by (with_reducible repeat (first | apply Kd.S_alloc | apply Kd.S_drewN | apply Kd.S_drew)); exact Kd.S_mono HO_344002.out (fun _ hk => ⟨hk.2, hk.1⟩)⟩, ⟨by (with_reducible repeat (first | apply Kd.R_alloc | apply Kd.R_drewN | apply Kd.R_drew)); exact Kd.R_mono HO_344003.out (fun _ hk => hk.2)⟩, ⟨by (with_reducible repeat (first | refine blk_drewN ?_ _ | refine blk_drew ?_ | refine blk_alloc ?_ _)); exact BK331.out⟩, ⟨by (with_reducible repeat (first | refine blk_drewN ?_ _ | refine blk_drew ?_ | refine blk_alloc ?_ _)); exact BK343.out⟩, ⟨by repeat (first | (with_reducible first | exact HB.out | apply below_alloc | apply pw_below_drewN | apply below_drew1 | refine below_set ?_ GE331.out | refine below_set ?_ GE343.out) | exact HB.out)⟩⟩
                      · rw [if_neg c21] at H
                        exact absurd H (by simp)
                    · rw [if_neg c20] at H
                      have c20b0 : decide (x4_1 < (rd (rd_L1 x344002_1 x4_1) x6_2)) = false := decide_eq_false c20
                      clear c20
                      have H' := Aside0.mk H
                      clear H
                      have hnb25 := NB343_331.out
                      have hnc25 := NB331_343.out
                      have hcz26_0 : wr.cell? ⟨gb343, 0, none⟩ = some (.slice Ao7 t332.length co7) := (blk_cell BK343.out 0).trans rfl
                      have hcz26_1 : wr.cell? ⟨gb343, 1, none⟩ = some (.int .i64 t335) := (blk_cell BK343.out 1).trans rfl
                      have hcz26_2 : wr.cell? ⟨gb343, 2, none⟩ = some (.slice Ao15 x344002_1.length co15) := (blk_cell BK343.out 2).trans rfl
                      have hcz26_3 : wr.cell? ⟨gb343, 3, none⟩ = some (.slice Ao11 t339.length co11) := (blk_cell BK343.out 3).trans rfl
                      have hcz26_4 : wr.cell? ⟨gb343, 4, none⟩ = some (.int .i64 t342) := (blk_cell BK343.out 4).trans rfl
                      have hfz26_0 := blk_frozen BK343.out 0
                      have hfz26_1 := blk_frozen BK343.out 1
                      have hfz26_2 := blk_frozen BK343.out 2
                      have hfz26_3 := blk_frozen BK343.out 3
                      have hfz26_4 := blk_frozen BK343.out 4
                      have p344 : 0 ≤ (x4_1 : Int) := of_decide_eq_true (by first | (with_reducible assumption) | assumption)
                      have q344 : x4_1 < (x344002_1.length : Int) := of_decide_eq_true (by first | (with_reducible assumption) | assumption)
                      obtain ⟨ad344, A344_0, c344_0, e344, hx344_0, hl344_0, hi344_0⟩ := at_L1 (Kd.S_reads' HO_344002.out).2.2 x4_1 p344 q344
                      cases e344
                      obtain ⟨ce344, hce344, hMe344, hcc344⟩ := Kd.S_get HO_344002.out [] x4_1 p344 (by first | exact q344 | exact of_decide_eq_true (by first | (with_reducible assumption) | assumption) | (have e_ := (Kd.S_reads' HO_344002.out).1; omega))
                      obtain ⟨ve344_0, rfl, ge344_0⟩ := hMe344
                      have hv344_0 := hcc344 0 _ rfl
                      rw [Nat.add_zero, show ((Kd.slice 3 (Kd.int .i64))).sz = 1 from rfl, Nat.mul_one] at hv344_0
                      replace hv344_0 := Option.some.inj (hv344_0.symm.trans hx344_0)
                      rw [hv344_0] at ge344_0
                      have HL344_0 := Aside0.mk (show Kd.R (Kd.int .i64) 3 _ _ _ _ (rd_L1 x344002_1 x4_1) from ge344_0)
                      clear hv344_0 ge344_0
                      clear hcc344 hce344
                      have HR344_0 := Aside0.mk hi344_0
                      have HC344_0 := Aside0.mk hl344_0
                      clear hi344_0 hl344_0
                      replace p344 := eq_true p344
                      replace q344 := eq_true q344
                      have p345 : 0 ≤ (x4_1 : Int) := of_decide_eq_true (by first | (with_reducible assumption) | assumption)
                      have q345 : x4_1 < (x344002_1.length : Int) := of_decide_eq_true (by first | (with_reducible assumption) | assumption)
                      obtain ⟨ad345, A345_0, c345_0, e345, hx345_0, hl345_0, hi345_0⟩ := at_L1 (Kd.S_reads' HO_344002.out).2.2 x4_1 p345 q345
                      obtain rfl : ad344 = ad345 := (by injection e345)
                      obtain ⟨ce345, hce345, hMe345, hcc345⟩ := Kd.S_get HO_344002.out [] x4_1 p345 (by first | exact q345 | exact of_decide_eq_true (by first | (with_reducible assumption) | assumption) | (have e_ := (Kd.S_reads' HO_344002.out).1; omega))
                      obtain ⟨ve345_0, rfl, ge345_0⟩ := hMe345
                      have hv345_0 := hcc345 0 _ rfl
                      rw [Nat.add_zero, show ((Kd.slice 3 (Kd.int .i64))).sz = 1 from rfl, Nat.mul_one] at hv345_0
                      replace hv345_0 := Option.some.inj (hv345_0.symm.trans hx345_0)
                      rw [hv345_0] at ge345_0
                      have HL345_0 := Aside0.mk (show Kd.R (Kd.int .i64) 3 _ _ _ _ (rd_L1 x344002_1 x4_1) from ge345_0)
                      clear hv345_0 ge345_0
                      clear hcc345 hce345
                      have HR345_0 := Aside0.mk hi345_0
                      have HC345_0 := Aside0.mk hl345_0
                      clear hi345_0 hl345_0
                      replace p345 := eq_true p345
                      replace q345 := eq_true q345
                      have ea_ := Option.some.inj (hx344_0.symm.trans hx345_0)
                      injection ea_ with ea_ en_ ec_
                      subst ea_
                      subst ec_
                      clear en_
                      have p346 : 0 ≤ (x6_2 : Int) := of_decide_eq_true (by first | (with_reducible assumption) | assumption)
                      have q346 : x6_2 < ((rd_L1 x344002_1 x4_1).length : Int) := of_decide_eq_true (by first | (with_reducible assumption) | assumption)
                      obtain ⟨ad346, e346, hx346_0⟩ := Kd.at_int (by repeat (first | (with_reducible exact HR345_0.out) | (with_reducible refine Kd.C_alloc ?_ _) | (with_reducible refine Kd.C_drewN ?_ _) | (with_reducible refine Kd.C_drew ?_) | exact HR345_0.out)) x6_2 p346 q346
                      cases e346
                      replace p346 := eq_true p346
                      replace q346 := eq_true q346
                      go_wp2
                      go_roundg k2
                      case measure => have := HK1.out; have := HK2.out; omega
                      case rel => exact ⟨(x5_2), (wrap64 (x6_2 + 1)), (by first | rfl | (simp; done) | (simp [*]; done)), H', ⟨by have := HK1.out; have := HK2.out; omega⟩, ⟨by (with_reducible repeat (first | apply Kd.R_alloc | apply Kd.R_drewN | apply Kd.R_drew)); exact HO_5.out⟩, ⟨by (with_reducible repeat (first | apply Kd.R_alloc | apply Kd.R_drewN | apply Kd.R_drew)); exact HO_344000.out⟩, ⟨by (with_reducible repeat (first | apply Kd.S_alloc | apply Kd.S_drewN | apply Kd.S_drew)); exact HO_344002.out⟩, ⟨by (with_reducible repeat (first | apply Kd.R_alloc | apply Kd.R_drewN | apply Kd.R_drew)); exact HO_344003.out⟩, ⟨by (with_reducible repeat (first | refine blk_drewN ?_ _ | refine blk_drew ?_ | refine blk_alloc ?_ _)); exact BK331.out⟩, ⟨by (with_reducible repeat (first | refine blk_drewN ?_ _ | refine blk_drew ?_ | refine blk_alloc ?_ _)); exact BK343.out⟩, ⟨by repeat (first | (with_reducible first | exact HB.out | apply below_alloc | apply pw_below_drewN | apply below_drew1 | refine below_set ?_ GE331.out | refine below_set ?_ GE343.out) | exact HB.out)⟩⟩
                  · rw [if_neg c19] at H
                    exact absurd H (by simp)
                · rw [if_neg c18] at H
                  have c18b0 : decide (x6_2 < ((rd_L1 x344002_1 x4_1).length : Int)) = false := decide_eq_false c18
                  clear c18
                  obtain ⟨y352, hy352⟩ : ∃ y_ : List (List Int), y_ = (x344002_1.set (x4_1 : Int).toNat x5_2) := ⟨_, rfl⟩
                  replace H : (foretellkeep_PartsLine.l0 k2 (wrap64 (x4_1 + 1)) t332 t335 y352 t339 t342) = some r := by first | (rw [hy352]; with_reducible exact H) | (have H2_ := (Option.bind_some _ _).symm.trans H; rw [hy352]; with_reducible exact H2_) | (have H2_ := (Option.bind_some _ _).symm.trans H; with_reducible exact H2_) | with_reducible exact H | (rw [hy352]; exact H) | exact H
                  have Ny352 := Aside0.mk hy352
                  clear hy352
                  have H' := Aside0.mk H
                  clear H
                  have hnb28 := NB343_331.out
                  have hnc28 := NB331_343.out
                  have hcz29_0 : wr.cell? ⟨gb343, 0, none⟩ = some (.slice Ao7 t332.length co7) := (blk_cell BK343.out 0).trans rfl
                  have hcz29_1 : wr.cell? ⟨gb343, 1, none⟩ = some (.int .i64 t335) := (blk_cell BK343.out 1).trans rfl
                  have hcz29_2 : wr.cell? ⟨gb343, 2, none⟩ = some (.slice Ao15 x344002_1.length co15) := (blk_cell BK343.out 2).trans rfl
                  have hcz29_3 : wr.cell? ⟨gb343, 3, none⟩ = some (.slice Ao11 t339.length co11) := (blk_cell BK343.out 3).trans rfl
                  have hcz29_4 : wr.cell? ⟨gb343, 4, none⟩ = some (.int .i64 t342) := (blk_cell BK343.out 4).trans rfl
                  have hfz29_0 := blk_frozen BK343.out 0
                  have hfz29_1 := blk_frozen BK343.out 1
                  have hfz29_2 := blk_frozen BK343.out 2
                  have hfz29_3 := blk_frozen BK343.out 3
                  have hfz29_4 := blk_frozen BK343.out 4
                  have p344 : 0 ≤ (x4_1 : Int) := of_decide_eq_true (by first | (with_reducible assumption) | assumption)
                  have q344 : x4_1 < (x344002_1.length : Int) := of_decide_eq_true (by first | (with_reducible assumption) | assumption)
                  obtain ⟨ad344, A344_0, c344_0, e344, hx344_0, hl344_0, hi344_0⟩ := at_L1 (Kd.S_reads' HO_344002.out).2.2 x4_1 p344 q344
                  cases e344
                  obtain ⟨ce344, hce344, hMe344, hcc344⟩ := Kd.S_get HO_344002.out [] x4_1 p344 (by first | exact q344 | exact of_decide_eq_true (by first | (with_reducible assumption) | assumption) | (have e_ := (Kd.S_reads' HO_344002.out).1; omega))
                  obtain ⟨ve344_0, rfl, ge344_0⟩ := hMe344
                  have hv344_0 := hcc344 0 _ rfl
                  rw [Nat.add_zero, show ((Kd.slice 3 (Kd.int .i64))).sz = 1 from rfl, Nat.mul_one] at hv344_0
                  replace hv344_0 := Option.some.inj (hv344_0.symm.trans hx344_0)
                  rw [hv344_0] at ge344_0
                  have HL344_0 := Aside0.mk (show Kd.R (Kd.int .i64) 3 _ _ _ _ (rd_L1 x344002_1 x4_1) from ge344_0)
                  clear hv344_0 ge344_0
                  clear hcc344 hce344
                  have HR344_0 := Aside0.mk hi344_0
                  have HC344_0 := Aside0.mk hl344_0
                  clear hi344_0 hl344_0
                  replace p344 := eq_true p344
                  replace q344 := eq_true q344
                  have p27 : 0 ≤ (x4_1 : Int) := of_decide_eq_true (by first | (with_reducible assumption) | assumption)
                  have q27 : (x4_1 : Int) < ((x344002_1.length : Int) : Int) := of_decide_eq_true (by first | (with_reducible assumption) | assumption)
                  obtain ⟨go27, co27, eo27, gb27, gl27, cl27, HG27⟩ := Kd.S_form HO_344002.out (by omega)
                  (first | cases eo27 | (injection eo27 with ea_ en_ ec_; (first | subst ea_ | (injection ea_ with ea_; subst ea_)); subst ec_; clear en_))
                  have GB27 := Aside0.mk gb27
                  have GG27 := Aside0.mk HG27
                  clear gb27 gl27 HG27
                  (first | simp only [add_plain] at hx344_0 | skip)
                  (first | simp only [add_plain] at hx345_0 | skip)
                  (first | simp only [add_plain] at hx347_0 | skip)
                  obtain ⟨_, ce27, hcl27, hM27, hcc27, hfr27, _, _⟩ := Kd.S_elem HO_344002.out [] (x4_1 : Int) p27 q27
                  obtain ⟨ve27_0, rfl, ge27_0⟩ := hM27
                  have hx27_0 := hcc27 0 _ rfl
                  have hf27_0 := hfr27 0
                  (try simp only [show ((Kd.slice 3 (Kd.int .i64))).sz = 1 from rfl, Nat.mul_one, Nat.add_zero] at hx27_0)
                  (try simp only [show ((Kd.slice 3 (Kd.int .i64))).sz = 1 from rfl, Nat.mul_one, Nat.add_zero] at hf27_0)
                  clear hcl27 hcc27 hfr27; (try clear hM27)
                  replace p27 := eq_true p27
                  replace q27 := eq_true q27
                  obtain ⟨Ao30, co30, eo30⟩ := Kd.R_slice HO_5.out
                  subst eo30
                  have HX31 := Aside0.mk (show Kd.S (Kd.slice 3 (Kd.int .i64)) 23 wr w.heap.size (fun k_ => ((fun k_ => some k_ ≠ (.slice Ao11 t339.length co11 : Value).ownBlock)) k_ ∧ ¬ ((fun k_ => some k_ = (.slice Ao30 x5_2.length co30 : Value).ownBlock)) k_) (.slice (some ⟨go27, 0, none⟩) x344002_1.length co15) x344002_1 from (by (with_reducible repeat (first | apply Kd.S_alloc | apply Kd.S_drewN | apply Kd.S_drew)); exact Kd.S_mono HO_344002.out (fun k_ hk => ⟨hk.2, fun e_ => hk.1 e_⟩)))
                  obtain ⟨oki31, ce31, hcl31, hM31, hcc31, hfr31, hoki31, hH31⟩ := Kd.S_elem HX31.out [] (x4_1 : Int) (of_decide_eq_true (by first | (with_reducible assumption) | assumption)) (by have h_ : (x4_1 : Int) < ((x344002_1.length : Int) : Int) := of_decide_eq_true (by first | (with_reducible assumption) | assumption); first | exact h_ | (have e_ := (Kd.S_reads' HO_344002.out).1; omega) | simpa using h_)
                  obtain ⟨ve31_0, rfl, ge31_0⟩ := hM31
                  have HP31 := Kd.S_seg hH31 (of_decide_eq_true (by first | (with_reducible assumption) | assumption)) (by have h_ : (x4_1 : Int) < ((x344002_1.length : Int) : Int) := of_decide_eq_true (by first | (with_reducible assumption) | assumption); first | exact h_ | (have e_ := (Kd.S_reads' HO_344002.out).1; omega) | simpa using h_) (seg := [.slice Ao30 x5_2.length co30]) (j := 0) (show 1 ≤ 1 from by decide) (x' := x5_2) (Kd.M_row (Kd.R_mono (Kd.R_tight rfl (Kd.R_mono (ok' := fun k_ => ((fun k_ => some k_ ≠ (.slice Ao11 t339.length co11 : Value).ownBlock)) k_ ∧ k_ ≠ go27) (Kd.R_apart' (HO_5.out) (Kd.S_typed HO_344002.out) (by decide)) (fun k_ hk => ⟨hk.1, fun e_ => (hk.2) (by rw [e_]; rfl)⟩))) (fun _ h_ => Or.inr (h_)))) (fun _ hk => hk) (fun k_ hk_ => ((Kd.R_mono (ok' := fun k_ => ((fun k_ => some k_ ≠ (.slice Ao11 t339.length co11 : Value).ownBlock)) k_ ∧ k_ ≠ go27) (Kd.R_apart' (HO_5.out) (Kd.S_typed HO_344002.out) (by decide)) (fun k_ hk => ⟨hk.1, fun e_ => (hk.2) (by rw [e_]; rfl)⟩))).1 k_ hk_.symm)
                  have hx31_0 := hcc31 0 _ rfl
                  (try simp only [show ((Kd.slice 3 (Kd.int .i64))).sz = 1 from rfl, Nat.mul_one, Nat.add_zero] at hx31_0)
                  have hf31_0 := hfr31 0
                  (try simp only [show ((Kd.slice 3 (Kd.int .i64))).sz = 1 from rfl, Nat.mul_one, Nat.add_zero] at hf31_0)
                  clear hcl31 hcc31 hfr31; (try clear hM31); clear hoki31 hH31
                  (try simp only [show ((Kd.slice 3 (Kd.int .i64))).sz = 1 from rfl, Nat.mul_one, Nat.add_zero] at HP31)
                  go_wp2_with (first | ((with_reducible refine gate_store (t := 23) (p := 56) rfl ?_); refine store_event (t := 23) (p := 56) (v := ?vo_w32) (w1 := (wr.setCell ⟨go27, (x4_1 : Int).toNat, none⟩ (.slice Ao30 x5_2.length co30))) ?hg ?ho ?hn ?hr ?_; (case ho => rfl); (case hg => rfl); (case hn => rfl); (case hr => first | (go_simp; done) | (go_simp; rfl)); intro w32 hw; have hg : wr.grownBy w32 (some go27) := (by rw [hw]; exact HP31.2); have hp_ : Kd.S (Kd.slice 3 (Kd.int .i64)) 23 w32 w.heap.size (fun k_ => some k_ ≠ (.slice Ao11 t339.length co11 : Value).ownBlock) (.slice (some ⟨go27, 0, none⟩) x344002_1.length co15) y352 := (by rw [hw, Ny352.out]; exact HP31.1); clear HP31; have n0_ := Aside0.mk (Kd.R_over' (v := (.slice (some ⟨go27, 0, none⟩) x344002_1.length co15)) (by (with_reducible repeat (first | apply Kd.R_alloc | apply Kd.R_drewN | apply Kd.R_drew)); exact HO_344000.out) (Kd.S_typed HO_344002.out) (by decide) hg); have n1_ := Aside0.mk (hp_); have n2_ := Aside0.mk (Kd.R_over' (v := (.slice (some ⟨go27, 0, none⟩) x344002_1.length co15)) (by (with_reducible repeat (first | apply Kd.R_alloc | apply Kd.R_drewN | apply Kd.R_drew)); exact HO_344003.out) (Kd.S_typed HO_344002.out) (by decide) hg); have n3_ := Aside0.mk (blk_grown (g := gb331) (o := .cells #[.slice A0_0 l0_0.length c0_0, .slice A0_1 l0_1.length c0_1, .int .i64 a0_2, .int .i64 a0_3] 25 (0, 0)) (by (with_reducible repeat (first | refine blk_drewN ?_ _ | refine blk_drew ?_ | refine blk_alloc ?_ _)); exact BK331.out) hg (Kd.S_ne HO_344002.out BK331.out (by decide))); have n4_ := Aside0.mk (blk_grown (g := gb343) (o := .cells #[.slice Ao7 t332.length co7, .int .i64 t335, .slice (some ⟨go27, 0, none⟩) x344002_1.length co15, .slice Ao11 t339.length co11, .int .i64 t342] 28 (0, 0)) (by (with_reducible repeat (first | refine blk_drewN ?_ _ | refine blk_drew ?_ | refine blk_alloc ?_ _)); exact BK343.out) hg (Kd.S_ne HO_344002.out BK343.out (by decide))); have n5_ := Aside0.mk (Kd.R_after (v := (.slice (some ⟨go27, 0, none⟩) x344002_1.length co15)) (v1 := (.slice (some ⟨go27, 0, none⟩) x344002_1.length co15)) (ok := (fun k_ => some k_ ≠ (.slice Ao30 x5_2.length co30 : Value).ownBlock ∧ some k_ ≠ (.slice Ao11 t339.length co11 : Value).ownBlock)) (by (with_reducible repeat (first | apply Kd.R_alloc | apply Kd.R_drewN | apply Kd.R_drew)); exact HL344_0.out) hg (.inl rfl)); have n6_ := Aside0.mk ((by rw [hw]; exact below_set (HB.out) GB27.out : Below w.heap.size w w32)); clear HO_344000; clear HO_344002; clear HO_344003; clear BK331; clear BK343; clear HL344_0; clear HB; clear HO_5; have HO_344000 := n0_; have HO_344002 := n1_; have HO_344003 := n2_; have BK331 := n3_; have BK343 := n4_; have HL344_0 := n5_; have HB := n6_; clear n0_ n1_ n2_ n3_ n4_ n5_ n6_; clear hg hw hp_))
                  go_roundg k2
                  case measure => have := HK1.out; have := HK2.out; omega
                  case rel => exact ⟨(wrap64 (x4_1 + 1)), (y352), (.slice (some ⟨go27, 0, none⟩) x344002_1.length co15), (by first | rfl | (simp; done) | (simp [*]; done)), H', ⟨by have := HK1.out; have := HK2.out; omega⟩, ⟨by (with_reducible repeat (first | apply Kd.R_alloc | apply Kd.R_drewN | apply Kd.R_drew)); exact HO_344000.out⟩, ⟨by (with_reducible repeat (first | apply Kd.S_alloc | apply Kd.S_drewN | apply Kd.S_drew)); exact HO_344002.out⟩, ⟨by (with_reducible repeat (first | apply Kd.R_alloc | apply Kd.R_drewN | apply Kd.R_drew)); exact Kd.R_mono HO_344003.out (fun _ hk => trivial)⟩, ⟨by (with_reducible repeat (first | refine blk_drewN ?_ _ | refine blk_drew ?_ | refine blk_alloc ?_ _)); exact BK331.out⟩, ⟨by (with_reducible repeat (first | refine blk_drewN ?_ _ | refine blk_drew ?_ | refine blk_alloc ?_ _)); exact BK343.out⟩, ⟨by repeat (first | (with_reducible first | exact HB.out | apply below_alloc | apply pw_below_drewN | apply below_drew1 | refine below_set ?_ GE331.out | refine below_set ?_ GE343.out) | exact HB.out)⟩⟩
              · rw [if_neg c17] at H
                exact absurd H (by simp)
            · rw [if_neg c16] at H
              exact absurd H (by simp)
      · rw [if_neg c12] at H
        have c12b0 : decide (x4_1 < (x344002_1.length : Int)) = false := decide_eq_false c12
        clear c12
        replace H := Option.bind_eq_some_iff.mp H
        obtain ⟨⟨t353, t356⟩, A330, H⟩ := H
        replace H : ((scc_Fair.f k1 t332 t335 x344002_1 t339 t342).bind fun bt357 => (if t356 = 0 then (if bt357.2 = 11 then (foretellkeep_PartsLine.j2 k1 t353 ((t353.length : Int) != (t332.length : Int))) else (foretellkeep_PartsLine.j2 k1 t353 true)) else (foretellkeep_PartsLine.j2 k1 t353 true))) = some r := H
        have A33 := Aside0.mk A330
        clear A330
        replace H := Option.bind_eq_some_iff.mp H
        obtain ⟨⟨t357, t358⟩, A340, H⟩ := H
        replace H : (if t356 = 0 then (if t358 = 11 then (foretellkeep_PartsLine.j2 k1 t353 ((t353.length : Int) != (t332.length : Int))) else (foretellkeep_PartsLine.j2 k1 t353 true)) else (foretellkeep_PartsLine.j2 k1 t353 true)) = some r := H
        have A34 := Aside0.mk A340
        clear A340
        have HC35 := Aside0.mk H
        clear H
        have hnb36 := NB343_331.out
        have hnc36 := NB331_343.out
        have hcz37_0 : wr.cell? ⟨gb343, 0, none⟩ = some (.slice Ao7 t332.length co7) := (blk_cell BK343.out 0).trans rfl
        have hcz37_1 : wr.cell? ⟨gb343, 1, none⟩ = some (.int .i64 t335) := (blk_cell BK343.out 1).trans rfl
        have hcz37_2 : wr.cell? ⟨gb343, 2, none⟩ = some (u344002) := (blk_cell BK343.out 2).trans rfl
        have hcz37_3 : wr.cell? ⟨gb343, 3, none⟩ = some (.slice Ao11 t339.length co11) := (blk_cell BK343.out 3).trans rfl
        have hcz37_4 : wr.cell? ⟨gb343, 4, none⟩ = some (.int .i64 t342) := (blk_cell BK343.out 4).trans rfl
        have hfz37_0 := blk_frozen BK343.out 0
        have hfz37_1 := blk_frozen BK343.out 1
        have hfz37_2 := blk_frozen BK343.out 2
        have hfz37_3 := blk_frozen BK343.out 3
        have hfz37_4 := blk_frozen BK343.out 4
        obtain ⟨Ao38, co38, eo38⟩ := Kd.S_slice HO_344002.out
        subst eo38
        go_upto_region 14 with (first | ((with_reducible refine gate_callee (f := 13) rfl ?_); refine goesL_ (some 59) rfl rfl Try.func13 (by kernel_rfl) rfl #[.agg #[.slice Ao7 t332.length co7, .int .i64 t335, .slice Ao38 x344002_1.length co38, .slice Ao11 t339.length co11, .int .i64 t342]] rfl (by (try simp only [List.map_toArray, List.map_cons, List.map_nil]); first | done | rfl | (simp only [List.length_drop, List.length_take]; rfl)) ?_; (with_reducible refine (scc_Parts.calls k1 _ _ t332 t335 _ _ x344002_1 _ _ t339 t342 t353 t356 _ ?side1 ?side2 ?side3 ?side4 ?side5 ?side6 A33.out).mono ?_); (case side1 => repeat (first | exact (Kd.R_reads' HO_344000.out).2.2 | (with_reducible refine Kd.C_alloc ?_ _) | (with_reducible refine Kd.C_drewN ?_ _) | (with_reducible refine Kd.C_drew ?_))); (case side2 => exact (Kd.R_reads' HO_344000.out).2.1); (case side3 => repeat (first | exact (Kd.S_reads' HO_344002.out).2.2 | (with_reducible refine Kd.C_alloc ?_ _) | (with_reducible refine Kd.C_drewN ?_ _) | (with_reducible refine Kd.C_drew ?_))); (case side4 => exact (Kd.S_reads' HO_344002.out).2.1); (case side5 => repeat (first | exact (Kd.R_reads' HO_344003.out).2.2 | (with_reducible refine Kd.C_alloc ?_ _) | (with_reducible refine Kd.C_drewN ?_ _) | (with_reducible refine Kd.C_drew ?_))); (case side6 => exact (Kd.R_reads' HO_344003.out).2.1); rintro e w39 ⟨v354, rfl, ho0, hb⟩; refine ⟨_, rfl, ?_⟩; have n0_ := Aside0.mk (Kd.R_below (by (with_reducible repeat (first | apply Kd.R_alloc | apply Kd.R_drewN | apply Kd.R_drew)); exact HO_344000.out) hb); have n1_ := Aside0.mk (Kd.S_elder' (by (with_reducible repeat (first | apply Kd.S_alloc | apply Kd.S_drewN | apply Kd.S_drew)); exact HO_344002.out) (Kd.R_base ho0) hb); have n2_ := Aside0.mk (Kd.R_elder' (by (with_reducible repeat (first | apply Kd.R_alloc | apply Kd.R_drewN | apply Kd.R_drew)); exact HO_344003.out) (Kd.R_base ho0) hb); have n3_ := Aside0.mk (Kd.R_lower (Kd.R_new' ho0 (Kd.R_lt (by (with_reducible repeat (first | apply Kd.R_alloc | apply Kd.R_drewN | apply Kd.R_drew)); exact HO_344003.out))) (below_size (by repeat (first | (with_reducible first | exact HB.out | apply below_alloc | apply pw_below_drewN | apply below_drew1 | refine below_set ?_ GE331.out | refine below_set ?_ GE343.out) | exact HB.out)))); have n4_ := Aside0.mk (blk_below (g := gb331) (o := .cells #[.slice A0_0 l0_0.length c0_0, .slice A0_1 l0_1.length c0_1, .int .i64 a0_2, .int .i64 a0_3] 25 (0, 0)) (by (with_reducible repeat (first | refine blk_drewN ?_ _ | refine blk_drew ?_ | refine blk_alloc ?_ _)); exact BK331.out) hb); have n5_ := Aside0.mk (blk_below (g := gb343) (o := .cells #[.slice Ao7 t332.length co7, .int .i64 t335, .slice Ao38 x344002_1.length co38, .slice Ao11 t339.length co11, .int .i64 t342] 28 (0, 0)) (by (with_reducible repeat (first | refine blk_drewN ?_ _ | refine blk_drew ?_ | refine blk_alloc ?_ _)); exact BK343.out) hb); have n6_ := Aside0.mk (below_step (by repeat (first | (with_reducible first | exact HB.out | apply below_alloc | apply pw_below_drewN | apply below_drew1 | refine below_set ?_ GE331.out | refine below_set ?_ GE343.out) | exact HB.out)) hb); clear HO_344000; clear HO_344002; clear HO_344003; clear BK331; clear BK343; clear HB; have HO_344000 := n0_; have HO_344002 := n1_; have HO_344003 := n2_; have HO355 := n3_; have BK331 := n4_; have BK343 := n5_; have HB := n6_; clear n0_ n1_ n2_ n3_ n4_ n5_ n6_; (try clear hb); (try clear hb2); (try clear hk); (try clear hi); (try clear ho0); have hcz40_0 : w39.cell? ⟨gb343, 0, none⟩ = some (.slice Ao7 t332.length co7) := (blk_cell BK343.out 0).trans rfl; have hcz40_1 : w39.cell? ⟨gb343, 1, none⟩ = some (.int .i64 t335) := (blk_cell BK343.out 1).trans rfl; have hcz40_2 : w39.cell? ⟨gb343, 2, none⟩ = some (.slice Ao38 x344002_1.length co38) := (blk_cell BK343.out 2).trans rfl; have hcz40_3 : w39.cell? ⟨gb343, 3, none⟩ = some (.slice Ao11 t339.length co11) := (blk_cell BK343.out 3).trans rfl; have hcz40_4 : w39.cell? ⟨gb343, 4, none⟩ = some (.int .i64 t342) := (blk_cell BK343.out 4).trans rfl; have hfz40_0 := blk_frozen BK343.out 0; have hfz40_1 := blk_frozen BK343.out 1; have hfz40_2 := blk_frozen BK343.out 2; have hfz40_3 := blk_frozen BK343.out 3; have hfz40_4 := blk_frozen BK343.out 4) | ((with_reducible refine gate_callee (f := 15) rfl ?_); refine goesL_ (some 64) rfl rfl Try.func15 (by kernel_rfl) rfl #[.agg #[.slice Ao7 t332.length co7, .int .i64 t335, .slice Ao38 x344002_1.length co38, .slice Ao11 t339.length co11, .int .i64 t342]] rfl (by (try simp only [List.map_toArray, List.map_cons, List.map_nil]); first | done | rfl | (simp only [List.length_drop, List.length_take]; rfl)) ?_; (with_reducible refine (scc_Fair.calls k1 _ _ t332 t335 _ _ x344002_1 _ _ t339 t342 t357 t358 _ ?side1 ?side2 ?side3 ?side4 ?side5 ?side6 A34.out).mono ?_); (case side1 => repeat (first | exact (Kd.R_reads' HO_344000.out).2.2 | (with_reducible refine Kd.C_alloc ?_ _) | (with_reducible refine Kd.C_drewN ?_ _) | (with_reducible refine Kd.C_drew ?_))); (case side2 => exact (Kd.R_reads' HO_344000.out).2.1); (case side3 => repeat (first | exact (Kd.S_reads' HO_344002.out).2.2 | (with_reducible refine Kd.C_alloc ?_ _) | (with_reducible refine Kd.C_drewN ?_ _) | (with_reducible refine Kd.C_drew ?_))); (case side4 => exact (Kd.S_reads' HO_344002.out).2.1); (case side5 => repeat (first | exact (Kd.R_reads' HO_344003.out).2.2 | (with_reducible refine Kd.C_alloc ?_ _) | (with_reducible refine Kd.C_drewN ?_ _) | (with_reducible refine Kd.C_drew ?_))); (case side6 => exact (Kd.R_reads' HO_344003.out).2.1); rintro e w41 ⟨rfl, hb⟩; refine ⟨_, rfl, ?_⟩; have n0_ := Aside0.mk (Kd.R_below (by (with_reducible repeat (first | apply Kd.R_alloc | apply Kd.R_drewN | apply Kd.R_drew)); exact HO_344000.out) hb); have n1_ := Aside0.mk (Kd.S_below (by (with_reducible repeat (first | apply Kd.S_alloc | apply Kd.S_drewN | apply Kd.S_drew)); exact HO_344002.out) hb); have n2_ := Aside0.mk (Kd.R_below (by (with_reducible repeat (first | apply Kd.R_alloc | apply Kd.R_drewN | apply Kd.R_drew)); exact HO_344003.out) hb); have n3_ := Aside0.mk (Kd.R_below (by (with_reducible repeat (first | apply Kd.R_alloc | apply Kd.R_drewN | apply Kd.R_drew)); exact HO355.out) hb); have n4_ := Aside0.mk (blk_below (g := gb331) (o := .cells #[.slice A0_0 l0_0.length c0_0, .slice A0_1 l0_1.length c0_1, .int .i64 a0_2, .int .i64 a0_3] 25 (0, 0)) (by (with_reducible repeat (first | refine blk_drewN ?_ _ | refine blk_drew ?_ | refine blk_alloc ?_ _)); exact BK331.out) hb); have n5_ := Aside0.mk (blk_below (g := gb343) (o := .cells #[.slice Ao7 t332.length co7, .int .i64 t335, .slice Ao38 x344002_1.length co38, .slice Ao11 t339.length co11, .int .i64 t342] 28 (0, 0)) (by (with_reducible repeat (first | refine blk_drewN ?_ _ | refine blk_drew ?_ | refine blk_alloc ?_ _)); exact BK343.out) hb); have n6_ := Aside0.mk (below_step (by repeat (first | (with_reducible first | exact HB.out | apply below_alloc | apply pw_below_drewN | apply below_drew1 | refine below_set ?_ GE331.out | refine below_set ?_ GE343.out) | exact HB.out)) hb); clear HO_344000; clear HO_344002; clear HO_344003; clear HO355; clear BK331; clear BK343; clear HB; have HO_344000 := n0_; have HO_344002 := n1_; have HO_344003 := n2_; have HO355 := n3_; have BK331 := n4_; have BK343 := n5_; have HB := n6_; clear n0_ n1_ n2_ n3_ n4_ n5_ n6_; (try clear hb); (try clear hb2); (try clear hk); (try clear hi)))
        (try simp only [Act.put, List.setIfInBounds_toArray, List.set_cons_zero, List.set_cons_succ])
        go_cut [80] (fun v80 wc => ∃ (kq : Nat) (x80_34 : Bool), v80 = .bool x80_34 ∧ Aside0 (foretellkeep_PartsLine.j2 kq t353 x80_34 = some r) ∧ Aside0 (kq ≤ k1) ∧ Aside0 (Kd.R (Kd.int .i64) 3 wc w.heap.size (fun k_ => some k_ ≠ ((.slice Ao11 t339.length co11) : Value).ownBlock) v354 t353) ∧ Aside0 (Kd.R k45 45 wc w.heap.size (fun _ => True) (.slice Ao7 t332.length co7) t332) ∧ Aside0 (Kd.S (Kd.slice 3 (Kd.int .i64)) 23 wc w.heap.size (fun k_ => some k_ ≠ (v354 : Value).ownBlock ∧ some k_ ≠ ((.slice Ao11 t339.length co11) : Value).ownBlock) (.slice Ao38 x344002_1.length co38) x344002_1) ∧ Aside0 (Kd.R (Kd.int .i64) 3 wc w.heap.size (fun k_ => some k_ ≠ (v354 : Value).ownBlock) (.slice Ao11 t339.length co11) t339) ∧ Aside0 (wc.heap[gb331]? = some (.cells #[(.slice A0_0 l0_0.length c0_0), (.slice A0_1 l0_1.length c0_1), .int .i64 a0_2, .int .i64 a0_3] 25 (0, 0))) ∧ Aside0 (wc.heap[gb343]? = some (.cells #[(.slice Ao7 t332.length co7), .int .i64 t335, (.slice Ao38 x344002_1.length co38), (.slice Ao11 t339.length co11), .int .i64 t342] 28 (0, 0))) ∧ Aside0 (Below w.heap.size w wc))
        case first =>
          have H := HC35.out
          clear HC35
          by_cases c42 : t356 = 0
          · rw [if_pos c42] at H
            have c42b0 : (t356 == 0) = true := beq_iff_eq.mpr c42
            have c42b1 : (t356 != 0) = false := bne_eq_false_iff_eq.mpr c42
            clear c42
            (first | rw [c42b0] | (simp only [i64_w, i32_w]; rw [c42b0]) | skip)
            by_cases c43 : t358 = 11
            · rw [if_pos c43] at H
              have c43b0 : (t358 == 11) = true := beq_iff_eq.mpr c43
              have c43b1 : (t358 != 11) = false := bne_eq_false_iff_eq.mpr c43
              clear c43
              have H' := Aside0.mk H
              clear H
              obtain ⟨Ao44, co44, eo44⟩ := Kd.R_slice HO355.out
              subst eo44
              have hnb45 := NB343_331.out
              have hnc45 := NB331_343.out
              have hcz46_0 : w41.cell? ⟨gb343, 0, none⟩ = some (.slice Ao7 t332.length co7) := (blk_cell BK343.out 0).trans rfl
              have hcz46_1 : w41.cell? ⟨gb343, 1, none⟩ = some (.int .i64 t335) := (blk_cell BK343.out 1).trans rfl
              have hcz46_2 : w41.cell? ⟨gb343, 2, none⟩ = some (.slice Ao38 x344002_1.length co38) := (blk_cell BK343.out 2).trans rfl
              have hcz46_3 : w41.cell? ⟨gb343, 3, none⟩ = some (.slice Ao11 t339.length co11) := (blk_cell BK343.out 3).trans rfl
              have hcz46_4 : w41.cell? ⟨gb343, 4, none⟩ = some (.int .i64 t342) := (blk_cell BK343.out 4).trans rfl
              have hfz46_0 := blk_frozen BK343.out 0
              have hfz46_1 := blk_frozen BK343.out 1
              have hfz46_2 := blk_frozen BK343.out 2
              have hfz46_3 := blk_frozen BK343.out 3
              have hfz46_4 := blk_frozen BK343.out 4
              go_wp2
              go_meet
              case rel => exact ⟨_, (((t353.length : Int) != (t332.length : Int))), (by first | rfl | (simp; done) | (simp [*]; done)), H', ⟨by have := HK1.out; first | omega | exact Nat.le_refl _⟩, ⟨by (with_reducible repeat (first | apply Kd.R_alloc | apply Kd.R_drewN | apply Kd.R_drew)); exact Kd.R_mono HO355.out (fun _ hk => hk.2)⟩, ⟨by (with_reducible repeat (first | apply Kd.R_alloc | apply Kd.R_drewN | apply Kd.R_drew)); exact HO_344000.out⟩, ⟨by (with_reducible repeat (first | apply Kd.S_alloc | apply Kd.S_drewN | apply Kd.S_drew)); exact Kd.S_mono HO_344002.out (fun _ hk => ⟨hk.2, hk.1⟩)⟩, ⟨by (with_reducible repeat (first | apply Kd.R_alloc | apply Kd.R_drewN | apply Kd.R_drew)); exact Kd.R_mono HO_344003.out (fun _ hk => hk.2)⟩, ⟨by (with_reducible repeat (first | refine blk_drewN ?_ _ | refine blk_drew ?_ | refine blk_alloc ?_ _)); exact BK331.out⟩, ⟨by (with_reducible repeat (first | refine blk_drewN ?_ _ | refine blk_drew ?_ | refine blk_alloc ?_ _)); exact BK343.out⟩, ⟨by repeat (first | (with_reducible first | exact HB.out | apply below_alloc | apply pw_below_drewN | apply below_drew1 | refine below_set ?_ GE331.out | refine below_set ?_ GE343.out) | exact HB.out)⟩⟩
            · rw [if_neg c43] at H
              have c43b0 : (t358 == 11) = false := beq_eq_false_iff_ne.mpr c43
              have c43b1 : (t358 != 11) = true := bne_iff_ne.mpr c43
              have H' := Aside0.mk H
              clear H
              go_wp2
              go_meet
              case rel => exact ⟨_, (true), (by first | rfl | (simp; done) | (simp [*]; done)), H', ⟨by have := HK1.out; first | omega | exact Nat.le_refl _⟩, ⟨by (with_reducible repeat (first | apply Kd.R_alloc | apply Kd.R_drewN | apply Kd.R_drew)); exact Kd.R_mono HO355.out (fun _ hk => hk.2)⟩, ⟨by (with_reducible repeat (first | apply Kd.R_alloc | apply Kd.R_drewN | apply Kd.R_drew)); exact HO_344000.out⟩, ⟨by (with_reducible repeat (first | apply Kd.S_alloc | apply Kd.S_drewN | apply Kd.S_drew)); exact Kd.S_mono HO_344002.out (fun _ hk => ⟨hk.2, hk.1⟩)⟩, ⟨by (with_reducible repeat (first | apply Kd.R_alloc | apply Kd.R_drewN | apply Kd.R_drew)); exact Kd.R_mono HO_344003.out (fun _ hk => hk.2)⟩, ⟨by (with_reducible repeat (first | refine blk_drewN ?_ _ | refine blk_drew ?_ | refine blk_alloc ?_ _)); exact BK331.out⟩, ⟨by (with_reducible repeat (first | refine blk_drewN ?_ _ | refine blk_drew ?_ | refine blk_alloc ?_ _)); exact BK343.out⟩, ⟨by repeat (first | (with_reducible first | exact HB.out | apply below_alloc | apply pw_below_drewN | apply below_drew1 | refine below_set ?_ GE331.out | refine below_set ?_ GE343.out) | exact HB.out)⟩⟩
          · rw [if_neg c42] at H
            have c42b0 : (t356 == 0) = false := beq_eq_false_iff_ne.mpr c42
            have c42b1 : (t356 != 0) = true := bne_iff_ne.mpr c42
            (first | rw [c42b0] | (simp only [i64_w, i32_w]; rw [c42b0]) | skip)
            have H' := Aside0.mk H
            clear H
            go_wp2
            go_meet
            case rel => exact ⟨_, (true), (by first | rfl | (simp; done) | (simp [*]; done)), H', ⟨by have := HK1.out; first | omega | exact Nat.le_refl _⟩, ⟨by (with_reducible repeat (first | apply Kd.R_alloc | apply Kd.R_drewN | apply Kd.R_drew)); exact Kd.R_mono HO355.out (fun _ hk => hk.2)⟩, ⟨by (with_reducible repeat (first | apply Kd.R_alloc | apply Kd.R_drewN | apply Kd.R_drew)); exact HO_344000.out⟩, ⟨by (with_reducible repeat (first | apply Kd.S_alloc | apply Kd.S_drewN | apply Kd.S_drew)); exact Kd.S_mono HO_344002.out (fun _ hk => ⟨hk.2, hk.1⟩)⟩, ⟨by (with_reducible repeat (first | apply Kd.R_alloc | apply Kd.R_drewN | apply Kd.R_drew)); exact Kd.R_mono HO_344003.out (fun _ hk => hk.2)⟩, ⟨by (with_reducible repeat (first | refine blk_drewN ?_ _ | refine blk_drew ?_ | refine blk_alloc ?_ _)); exact BK331.out⟩, ⟨by (with_reducible repeat (first | refine blk_drewN ?_ _ | refine blk_drew ?_ | refine blk_alloc ?_ _)); exact BK343.out⟩, ⟨by repeat (first | (with_reducible first | exact HB.out | apply below_alloc | apply pw_below_drewN | apply below_drew1 | refine below_set ?_ GE331.out | refine below_set ?_ GE343.out) | exact HB.out)⟩⟩
        case rest =>
          clear HC35
          try clear c1
          try clear c2
          try clear p2
          try clear q2
          try clear hx2
          try clear hf2
          try clear c3
          try clear p3
          try clear q3
          try clear hx3
          try clear hf3
          try clear c4
          try clear p6
          try clear c7
          try clear c8
          try clear c9
          try clear c12
          try clear c12b0
          try clear c13
          try clear c15
          try clear c16
          try clear c16b0
          try clear c17
          try clear c17b0
          try clear c18
          try clear c18b0
          try clear c19
          try clear c19b0
          try clear c20
          try clear c20b0
          try clear c21
          try clear c22
          try clear c25
          try clear c27
          try clear p27
          try clear q27
          try clear hx27
          try clear hf27
          try clear c28
          try clear c31
          try clear hx31
          try clear hf31
          try clear c34
          try clear p34
          try clear q34
          try clear hx34
          try clear c36
          try clear c42
          try clear c42b0
          try clear c42b1
          try clear c43
          try clear c43b0
          try clear c43b1
          try clear c45
          try clear hcz14_0
          try clear hcz14_1
          try clear hcz14_2
          try clear hcz14_3
          try clear hcz14_4
          try clear hcz23_0
          try clear hcz23_1
          try clear hcz23_2
          try clear hcz23_3
          try clear hcz23_4
          try clear hcz26_0
          try clear hcz26_1
          try clear hcz26_2
          try clear hcz26_3
          try clear hcz26_4
          try clear hcz29_0
          try clear hcz29_1
          try clear hcz29_2
          try clear hcz29_3
          try clear hcz29_4
          try clear hcz37_0
          try clear hcz37_1
          try clear hcz37_2
          try clear hcz37_3
          try clear hcz37_4
          try clear hcz40_0
          try clear hcz40_1
          try clear hcz40_2
          try clear hcz40_3
          try clear hcz40_4
          try clear hcz46_0
          try clear hcz46_1
          try clear hcz46_2
          try clear hcz46_3
          try clear hcz46_4
          try clear hcz4_0
          try clear hcz4_1
          try clear hcz4_2
          try clear hcz4_3
          try clear hcz9_0
          try clear hcz9_1
          try clear hcz9_2
          try clear hcz9_3
          try clear hcz9_4
          try clear hfz14_0
          try clear hfz14_1
          try clear hfz14_2
          try clear hfz14_3
          try clear hfz14_4
          try clear hfz23_0
          try clear hfz23_1
          try clear hfz23_2
          try clear hfz23_3
          try clear hfz23_4
          try clear hfz26_0
          try clear hfz26_1
          try clear hfz26_2
          try clear hfz26_3
          try clear hfz26_4
          try clear hfz29_0
          try clear hfz29_1
          try clear hfz29_2
          try clear hfz29_3
          try clear hfz29_4
          try clear hfz37_0
          try clear hfz37_1
          try clear hfz37_2
          try clear hfz37_3
          try clear hfz37_4
          try clear hfz40_0
          try clear hfz40_1
          try clear hfz40_2
          try clear hfz40_3
          try clear hfz40_4
          try clear hfz46_0
          try clear hfz46_1
          try clear hfz46_2
          try clear hfz46_3
          try clear hfz46_4
          try clear hfz4_0
          try clear hfz4_1
          try clear hfz4_2
          try clear hfz4_3
          try clear hfz9_0
          try clear hfz9_1
          try clear hfz9_2
          try clear hfz9_3
          try clear hfz9_4
          try clear hx27_0
          try clear hx31_0
          try clear hx344_0
          try clear hx345_0
          try clear hx346_0
          try clear hx347_0
          try clear hx348_0
          try clear p2
          try clear p27
          try clear p344
          try clear p345
          try clear p346
          try clear p347
          try clear p348
          try clear q27
          try clear q344
          try clear q345
          try clear q346
          try clear q347
          try clear q348
          obtain ⟨kq, x80_34, rfl, HA, HJ34, HO_7, HO_344000, HO_344002, HO_344003, BK331, BK343, HB⟩ := hcut
          cases kq with
          | zero => exact absurd HA.out (by simp [foretellkeep_PartsLine.j2])
          | succ kj34 =>
            have H := HA.out
            clear HA
            simp only [foretellkeep_PartsLine.j2] at H
            by_cases c47 : x80_34 = true
            · subst c47
              have H1 : (some false) = some r := by rw [if_pos rfl] at H; exact H
              clear H
              have H := H1
              clear H1
              exact absurd ((Option.some.inj H).trans hr_.out) (by decide)
            · replace c47 := Bool.eq_false_iff.mpr c47
              subst c47
              have H1 : (foretellkeep_PartsLine.l2 kj34 t353 0) = some r := by rw [if_neg (show ¬ (false = true) by decide)] at H; exact H
              clear H
              have H := H1
              clear H1
              have H' := Aside0.mk H
              clear H
              go_wp2
              go_loopg [11] kj34 (fun kq v11 w' => ∃ (x11_3 : Int), v11 = .int .i64 x11_3 ∧ Aside0 (foretellkeep_PartsLine.l2 kq t353 x11_3 = some r) ∧ Aside0 (kq ≤ kj34) ∧ Aside0 (Kd.R (Kd.int .i64) 3 w' w.heap.size (fun k_ => some k_ ≠ ((.slice Ao11 t339.length co11) : Value).ownBlock) v354 t353) ∧ Aside0 (Kd.R k45 45 w' w.heap.size (fun _ => True) (.slice Ao7 t332.length co7) t332) ∧ Aside0 (Kd.S (Kd.slice 3 (Kd.int .i64)) 23 w' w.heap.size (fun k_ => some k_ ≠ (v354 : Value).ownBlock ∧ some k_ ≠ ((.slice Ao11 t339.length co11) : Value).ownBlock) (.slice Ao38 x344002_1.length co38) x344002_1) ∧ Aside0 (Kd.R (Kd.int .i64) 3 w' w.heap.size (fun k_ => some k_ ≠ (v354 : Value).ownBlock) (.slice Ao11 t339.length co11) t339) ∧ Aside0 (w'.heap[gb331]? = some (.cells #[(.slice A0_0 l0_0.length c0_0), (.slice A0_1 l0_1.length c0_1), .int .i64 a0_2, .int .i64 a0_3] 25 (0, 0))) ∧ Aside0 (w'.heap[gb343]? = some (.cells #[(.slice Ao7 t332.length co7), .int .i64 t335, (.slice Ao38 x344002_1.length co38), (.slice Ao11 t339.length co11), .int .i64 t342] 28 (0, 0))) ∧ Aside0 (Below w.heap.size w w'))
              case atStart => exact ⟨(0), (by first | rfl | (simp; done) | (simp [*]; done)), H', ⟨Nat.le_refl _⟩, ⟨by (with_reducible repeat (first | apply Kd.R_alloc | apply Kd.R_drewN | apply Kd.R_drew)); exact HO_7.out⟩, ⟨by (with_reducible repeat (first | apply Kd.R_alloc | apply Kd.R_drewN | apply Kd.R_drew)); exact HO_344000.out⟩, ⟨by (with_reducible repeat (first | apply Kd.S_alloc | apply Kd.S_drewN | apply Kd.S_drew)); exact HO_344002.out⟩, ⟨by (with_reducible repeat (first | apply Kd.R_alloc | apply Kd.R_drewN | apply Kd.R_drew)); exact HO_344003.out⟩, ⟨by (with_reducible repeat (first | refine blk_drewN ?_ _ | refine blk_drew ?_ | refine blk_alloc ?_ _)); exact BK331.out⟩, ⟨by (with_reducible repeat (first | refine blk_drewN ?_ _ | refine blk_drew ?_ | refine blk_alloc ?_ _)); exact BK343.out⟩, ⟨by repeat (first | (with_reducible first | exact HB.out | apply below_alloc | apply pw_below_drewN | apply below_drew1 | refine below_set ?_ GE331.out | refine below_set ?_ GE343.out) | exact HB.out)⟩⟩
              case round =>
                clear H'
                try clear c1
                try clear c2
                try clear p2
                try clear q2
                try clear hx2
                try clear hf2
                try clear c3
                try clear p3
                try clear q3
                try clear hx3
                try clear hf3
                try clear c4
                try clear p6
                try clear c7
                try clear c8
                try clear c9
                try clear c12
                try clear c12b0
                try clear c13
                try clear c15
                try clear c16
                try clear c16b0
                try clear c17
                try clear c17b0
                try clear c18
                try clear c18b0
                try clear c19
                try clear c19b0
                try clear c20
                try clear c20b0
                try clear c21
                try clear c22
                try clear c25
                try clear c27
                try clear p27
                try clear q27
                try clear hx27
                try clear hf27
                try clear c28
                try clear c31
                try clear hx31
                try clear hf31
                try clear c34
                try clear p34
                try clear q34
                try clear hx34
                try clear c36
                try clear c42
                try clear c42b0
                try clear c42b1
                try clear c43
                try clear c43b0
                try clear c43b1
                try clear c45
                try clear c47
                try clear hcz14_0
                try clear hcz14_1
                try clear hcz14_2
                try clear hcz14_3
                try clear hcz14_4
                try clear hcz23_0
                try clear hcz23_1
                try clear hcz23_2
                try clear hcz23_3
                try clear hcz23_4
                try clear hcz26_0
                try clear hcz26_1
                try clear hcz26_2
                try clear hcz26_3
                try clear hcz26_4
                try clear hcz29_0
                try clear hcz29_1
                try clear hcz29_2
                try clear hcz29_3
                try clear hcz29_4
                try clear hcz37_0
                try clear hcz37_1
                try clear hcz37_2
                try clear hcz37_3
                try clear hcz37_4
                try clear hcz40_0
                try clear hcz40_1
                try clear hcz40_2
                try clear hcz40_3
                try clear hcz40_4
                try clear hcz46_0
                try clear hcz46_1
                try clear hcz46_2
                try clear hcz46_3
                try clear hcz46_4
                try clear hcz4_0
                try clear hcz4_1
                try clear hcz4_2
                try clear hcz4_3
                try clear hcz9_0
                try clear hcz9_1
                try clear hcz9_2
                try clear hcz9_3
                try clear hcz9_4
                try clear hfz14_0
                try clear hfz14_1
                try clear hfz14_2
                try clear hfz14_3
                try clear hfz14_4
                try clear hfz23_0
                try clear hfz23_1
                try clear hfz23_2
                try clear hfz23_3
                try clear hfz23_4
                try clear hfz26_0
                try clear hfz26_1
                try clear hfz26_2
                try clear hfz26_3
                try clear hfz26_4
                try clear hfz29_0
                try clear hfz29_1
                try clear hfz29_2
                try clear hfz29_3
                try clear hfz29_4
                try clear hfz37_0
                try clear hfz37_1
                try clear hfz37_2
                try clear hfz37_3
                try clear hfz37_4
                try clear hfz40_0
                try clear hfz40_1
                try clear hfz40_2
                try clear hfz40_3
                try clear hfz40_4
                try clear hfz46_0
                try clear hfz46_1
                try clear hfz46_2
                try clear hfz46_3
                try clear hfz46_4
                try clear hfz4_0
                try clear hfz4_1
                try clear hfz4_2
                try clear hfz4_3
                try clear hfz9_0
                try clear hfz9_1
                try clear hfz9_2
                try clear hfz9_3
                try clear hfz9_4
                try clear hx27_0
                try clear hx31_0
                try clear hx344_0
                try clear hx345_0
                try clear hx346_0
                try clear hx347_0
                try clear hx348_0
                try clear p2
                try clear p27
                try clear p3
                try clear p34
                try clear p344
                try clear p345
                try clear p346
                try clear p347
                try clear p348
                try clear p6
                try clear q2
                try clear q27
                try clear q3
                try clear q34
                try clear q344
                try clear q345
                try clear q346
                try clear q347
                try clear q348
                obtain ⟨x11_3, rfl, HA, HK3, HO_7, HO_344000, HO_344002, HO_344003, BK331, BK343, HB⟩ := hrel
                cases gk with
                | zero => exact absurd HA.out (by simp [foretellkeep_PartsLine.l2])
                | succ k3 =>
                  have H := HA.out
                  clear HA
                  simp only [foretellkeep_PartsLine.l2] at H
                  by_cases c48 : x11_3 < (t353.length : Int)
                  · rw [if_pos c48] at H
                    have c48b0 : decide (x11_3 < (t353.length : Int)) = true := decide_eq_true c48
                    clear c48
                    by_cases c49 : 0 ≤ x11_3
                    · rw [if_pos c49] at H
                      have c49b0 : decide (0 ≤ x11_3) = true := decide_eq_true c49
                      clear c49
                      by_cases c50 : (rd t353 x11_3) = x11_3
                      · rw [if_pos c50] at H
                        have c50b0 : ((rd t353 x11_3) == x11_3) = true := beq_iff_eq.mpr c50
                        have c50b1 : ((rd t353 x11_3) != x11_3) = false := bne_eq_false_iff_eq.mpr c50
                        clear c50
                        have H' := Aside0.mk H
                        clear H
                        obtain ⟨Ao51, co51, eo51⟩ := Kd.R_slice HO_7.out
                        subst eo51
                        have p359 : 0 ≤ (x11_3 : Int) := of_decide_eq_true (by first | (with_reducible assumption) | assumption)
                        have q359 : x11_3 < (t353.length : Int) := of_decide_eq_true (by first | (with_reducible assumption) | assumption)
                        obtain ⟨ad359, e359, hx359_0⟩ := Kd.at_int (Kd.R_reads' HO_7.out).2.2 x11_3 p359 q359
                        cases e359
                        replace p359 := eq_true p359
                        replace q359 := eq_true q359
                        go_wp2
                        go_roundg k3
                        case measure => have := HK1.out; have := HJ34.out; have := HK3.out; omega
                        case rel => exact ⟨(wrap64 (x11_3 + 1)), (by first | rfl | (simp; done) | (simp [*]; done)), H', ⟨by have := HK1.out; have := HJ34.out; have := HK3.out; omega⟩, ⟨by (with_reducible repeat (first | apply Kd.R_alloc | apply Kd.R_drewN | apply Kd.R_drew)); exact HO_7.out⟩, ⟨by (with_reducible repeat (first | apply Kd.R_alloc | apply Kd.R_drewN | apply Kd.R_drew)); exact HO_344000.out⟩, ⟨by (with_reducible repeat (first | apply Kd.S_alloc | apply Kd.S_drewN | apply Kd.S_drew)); exact HO_344002.out⟩, ⟨by (with_reducible repeat (first | apply Kd.R_alloc | apply Kd.R_drewN | apply Kd.R_drew)); exact HO_344003.out⟩, ⟨by (with_reducible repeat (first | refine blk_drewN ?_ _ | refine blk_drew ?_ | refine blk_alloc ?_ _)); exact BK331.out⟩, ⟨by (with_reducible repeat (first | refine blk_drewN ?_ _ | refine blk_drew ?_ | refine blk_alloc ?_ _)); exact BK343.out⟩, ⟨by repeat (first | (with_reducible first | exact HB.out | apply below_alloc | apply pw_below_drewN | apply below_drew1 | refine below_set ?_ GE331.out | refine below_set ?_ GE343.out) | exact HB.out)⟩⟩
                      · rw [if_neg c50] at H
                        exact absurd ((Option.some.inj H).trans hr_.out) (by decide)
                    · rw [if_neg c49] at H
                      exact absurd H (by simp)
                  · rw [if_neg c48] at H
                    have c48b0 : decide (x11_3 < (t353.length : Int)) = false := decide_eq_false c48
                    clear c48
                    obtain rfl := Option.some.inj H
                    obtain ⟨Ao52, co52, eo52⟩ := Kd.R_slice HO_7.out
                    subst eo52
                    go_wp2
                    go_ret
                    exact ⟨by first | rfl | (simp [errW_none, errW_some] <;> rfl) | (simp [*, errW_none, errW_some] <;> rfl), by repeat (first | (with_reducible first | exact HB.out | apply below_alloc | apply pw_below_drewN | apply below_drew1 | refine below_set ?_ GE331.out | refine below_set ?_ GE343.out) | exact HB.out)⟩

end Go.Proofs.Ytpkigkmkolbiiaa.P
