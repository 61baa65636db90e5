-- PACKED by pack.py of this repo: FForetellkeepStepTwice
import Derived.Test.YteennleoieafiaaDoorK2
import Derived.Test.YteennleoieafiaaDoorK3
import Derived.Test.YteennleoieafiaaDoorK6
import Derived.Test.YteennleoieafiaaDoorK11
import Derived.Test.YteennleoieafiaaDoorK18
section
namespace Go.Proofs.YteennleoieafiaaDoor.P
open Go.RowKit Go.Proofs.YteennleoieafiaaDoorW.PrintWords Go.Proofs.YteennleoieafiaaDoorW.PrintLast Go.Proofs.YteennleoieafiaaDoorW.PrintMore Go.Proofs.YteennleoieafiaaDoor.G
attribute [local go_sem] max2_int min2_int max_two min_two max_three min_three max_four min_four   -- for this text's walks alone
set_option linter.unusedVariables false
set_option linter.unusedSimpArgs false

/-! ### foretellkeep_StepTwice: function 10 -/
mutual
def foretellkeep_StepTwice.j0 : Nat → Int → Int → Int → Bool → List (S32) → List (S42) → Option (Bool)
  | 0, _, _, _, _, _, _ => none
  | k + 1, x1, x2, x8, x30, x567000, x567001 => if x30 = true then (some false) else ((foretellkeep_picked.f x1 x8).bind fun t569 => ((step_Next.f k x567000 x567001 t569).bind fun bt570 => (foretellkeep_StepTwice.l0 k x2 t569 bt570.1 bt570.2 (wrap64 ((x567001.length : Int) - 1)) x567000 x567001 x567000 ([] : List (S42)))))
def foretellkeep_StepTwice.l0 : Nat → Int → Int → List Int → Int → Int → List (S32) → List (S42) → List (S32) → List (S42) → Option (Bool)
  | 0, _, _, _, _, _, _, _, _, _ => none
  | k + 1, x2, x10, x11, x12, x14, x567000, x567001, x575000, x575001 => if x14 ≥ 0 then (if 0 ≤ x14 then (if x14 < (x567001.length : Int) then (if x575001.length < 2932031007402 then (foretellkeep_StepTwice.l0 k x2 x10 x11 x12 (wrap64 (x14 - 1)) x567000 x567001 x575000 (x575001 ++ [(⟨(rd_T42 x567001 x14).f0, (rd_T42 x567001 x14).f1⟩ : S42)])) else (none)) else (none)) else (none)) else (if (x567001.length : Int) > 0 then ((foretellkeep_picked.f x2 (x567001.length : Int)).bind fun t579 => (if 0 ≤ t579 then (if t579 < (x567001.length : Int) then (if x575001.length < 2932031007402 then (foretellkeep_StepTwice.j2 k x10 x11 x12 x575000 (x575001 ++ [(⟨(rd_T42 x567001 t579).f0, (rd_T42 x567001 t579).f1⟩ : S42)])) else (none)) else (none)) else (none))) else (foretellkeep_StepTwice.j2 k x10 x11 x12 x575000 x575001))
def foretellkeep_StepTwice.j2 : Nat → Int → List Int → Int → List (S32) → List (S42) → Option (Bool)
  | 0, _, _, _, _, _ => none
  | k + 1, x10, x11, x12, x575000, x575001 => (step_Next.f k x575000 x575001 x10).bind fun bt584 => (if x12 = 0 then (if bt584.2 = 0 then (if (x11.length : Int) = (bt584.1.length : Int) then (foretellkeep_StepTwice.j3 k x11 bt584.1 ((x11.length : Int) == 0)) else (foretellkeep_StepTwice.j3 k x11 bt584.1 true)) else (foretellkeep_StepTwice.j3 k x11 bt584.1 true)) else (foretellkeep_StepTwice.j3 k x11 bt584.1 true))
def foretellkeep_StepTwice.j3 : Nat → List Int → List Int → Bool → Option (Bool)
  | 0, _, _, _ => none
  | k + 1, x11, x15, x102 => if x102 = true then (some false) else (foretellkeep_StepTwice.l1 k x11 x15 0)
def foretellkeep_StepTwice.l1 : Nat → List Int → List Int → Int → Option (Bool)
  | 0, _, _, _ => none
  | k + 1, x11, x15, x17 => if x17 < (x11.length : Int) then (if 0 ≤ x17 then (if x17 < (x15.length : Int) then (if (rd x11 x17) = (rd x15 x17) then (foretellkeep_StepTwice.l1 k x11 x15 (wrap64 (x17 + 1))) else (some false)) else (none)) else (none)) else (some true)
end
def foretellkeep_StepTwice.f (k : Nat) (a0_0 : Int) (a0_1 : Int) (a0_2 : Int) (a0_3 : Int) (a0_4 : Int) (a0_5 : Int) (l0_6 : List (S65)) (a1 : Int) (a2 : Int) : Option (Bool) := (foretellkeep_Model.f k a0_0 a0_1 a0_2 a0_3 a0_4 a0_5 l0_6).bind fun bt560 => ((model_Count.f k bt560.1 bt560.2).bind fun bt567 => (if bt567.2 = 0 then (foretellkeep_StepTwice.j0 k a1 a2 bt567.1 (decide (bt567.1 < 1)) bt560.1 bt560.2) else (foretellkeep_StepTwice.j0 k a1 a2 bt567.1 true bt560.1 bt560.2)))
theorem foretellkeep_StepTwice.mono_l : ∀ k, (∀ y0 y1 y2 y3 y4 y5, LeO (foretellkeep_StepTwice.j0 k y0 y1 y2 y3 y4 y5) (foretellkeep_StepTwice.j0 (k + 1) y0 y1 y2 y3 y4 y5)) ∧ (∀ y0 y1 y2 y3 y4 y5 y6 y7 y8, LeO (foretellkeep_StepTwice.l0 k y0 y1 y2 y3 y4 y5 y6 y7 y8) (foretellkeep_StepTwice.l0 (k + 1) y0 y1 y2 y3 y4 y5 y6 y7 y8)) ∧ (∀ y0 y1 y2 y3 y4, LeO (foretellkeep_StepTwice.j2 k y0 y1 y2 y3 y4) (foretellkeep_StepTwice.j2 (k + 1) y0 y1 y2 y3 y4)) ∧ (∀ y0 y1 y2, LeO (foretellkeep_StepTwice.j3 k y0 y1 y2) (foretellkeep_StepTwice.j3 (k + 1) y0 y1 y2)) ∧ (∀ y0 y1 y2, LeO (foretellkeep_StepTwice.l1 k y0 y1 y2) (foretellkeep_StepTwice.l1 (k + 1) y0 y1 y2))
  | 0 => ⟨fun _ _ _ _ _ _ r h => by simp [foretellkeep_StepTwice.j0] at h, fun _ _ _ _ _ _ _ _ _ r h => by simp [foretellkeep_StepTwice.l0] at h, fun _ _ _ _ _ r h => by simp [foretellkeep_StepTwice.j2] at h, fun _ _ _ r h => by simp [foretellkeep_StepTwice.j3] at h, fun _ _ _ r h => by simp [foretellkeep_StepTwice.l1] at h⟩
  | k + 1 => by
    obtain ⟨ih0, ih1, ih2, ih3, ih4⟩ := foretellkeep_StepTwice.mono_l k
    refine ⟨?_, ?_, ?_, ?_, ?_⟩
    · intro y0 y1 y2 y3 y4 y5
      unfold foretellkeep_StepTwice.j0
      repeat' first
      | (with_reducible exact ih0 _ _ _ _ _ _)
      | (with_reducible exact ih1 _ _ _ _ _ _ _ _ _)
      | (with_reducible exact ih2 _ _ _ _ _)
      | (with_reducible exact ih3 _ _ _)
      | (with_reducible exact ih4 _ _ _)
      | (with_reducible exact foretellkeep_Model.mono _ _ _ _ _ _ _ _)
      | (with_reducible exact model_Count.mono _ _ _)
      | (with_reducible exact step_Next.mono _ _ _ _)
      | (with_reducible exact LeO.refl _)
      | (with_reducible exact LeO.none _)
      | (with_reducible refine LeO.ite ?_ ?_)
      | (with_reducible refine LeO.bind ?_ (fun _ => ?_))
      | exact ih0 _ _ _ _ _ _
      | exact ih1 _ _ _ _ _ _ _ _ _
      | exact ih2 _ _ _ _ _
      | exact ih3 _ _ _
      | exact ih4 _ _ _
      | exact foretellkeep_Model.mono _ _ _ _ _ _ _ _
      | exact model_Count.mono _ _ _
      | exact step_Next.mono _ _ _ _
      | exact LeO.none _
      | refine LeO.ite ?_ ?_
      | refine LeO.bind ?_ (fun _ => ?_)
    · intro y0 y1 y2 y3 y4 y5 y6 y7 y8
      unfold foretellkeep_StepTwice.l0
      repeat' first
      | (with_reducible exact ih0 _ _ _ _ _ _)
      | (with_reducible exact ih1 _ _ _ _ _ _ _ _ _)
      | (with_reducible exact ih2 _ _ _ _ _)
      | (with_reducible exact ih3 _ _ _)
      | (with_reducible exact ih4 _ _ _)
      | (with_reducible exact foretellkeep_Model.mono _ _ _ _ _ _ _ _)
      | (with_reducible exact model_Count.mono _ _ _)
      | (with_reducible exact step_Next.mono _ _ _ _)
      | (with_reducible exact LeO.refl _)
      | (with_reducible exact LeO.none _)
      | (with_reducible refine LeO.ite ?_ ?_)
      | (with_reducible refine LeO.bind ?_ (fun _ => ?_))
      | exact ih0 _ _ _ _ _ _
      | exact ih1 _ _ _ _ _ _ _ _ _
      | exact ih2 _ _ _ _ _
      | exact ih3 _ _ _
      | exact ih4 _ _ _
      | exact foretellkeep_Model.mono _ _ _ _ _ _ _ _
      | exact model_Count.mono _ _ _
      | exact step_Next.mono _ _ _ _
      | exact LeO.none _
      | refine LeO.ite ?_ ?_
      | refine LeO.bind ?_ (fun _ => ?_)
    · intro y0 y1 y2 y3 y4
      unfold foretellkeep_StepTwice.j2
      repeat' first
      | (with_reducible exact ih0 _ _ _ _ _ _)
      | (with_reducible exact ih1 _ _ _ _ _ _ _ _ _)
      | (with_reducible exact ih2 _ _ _ _ _)
      | (with_reducible exact ih3 _ _ _)
      | (with_reducible exact ih4 _ _ _)
      | (with_reducible exact foretellkeep_Model.mono _ _ _ _ _ _ _ _)
      | (with_reducible exact model_Count.mono _ _ _)
      | (with_reducible exact step_Next.mono _ _ _ _)
      | (with_reducible exact LeO.refl _)
      | (with_reducible exact LeO.none _)
      | (with_reducible refine LeO.ite ?_ ?_)
      | (with_reducible refine LeO.bind ?_ (fun _ => ?_))
      | exact ih0 _ _ _ _ _ _
      | exact ih1 _ _ _ _ _ _ _ _ _
      | exact ih2 _ _ _ _ _
      | exact ih3 _ _ _
      | exact ih4 _ _ _
      | exact foretellkeep_Model.mono _ _ _ _ _ _ _ _
      | exact model_Count.mono _ _ _
      | exact step_Next.mono _ _ _ _
      | exact LeO.none _
      | refine LeO.ite ?_ ?_
      | refine LeO.bind ?_ (fun _ => ?_)
    · intro y0 y1 y2
      unfold foretellkeep_StepTwice.j3
      repeat' first
      | (with_reducible exact ih0 _ _ _ _ _ _)
      | (with_reducible exact ih1 _ _ _ _ _ _ _ _ _)
      | (with_reducible exact ih2 _ _ _ _ _)
      | (with_reducible exact ih3 _ _ _)
      | (with_reducible exact ih4 _ _ _)
      | (with_reducible exact foretellkeep_Model.mono _ _ _ _ _ _ _ _)
      | (with_reducible exact model_Count.mono _ _ _)
      | (with_reducible exact step_Next.mono _ _ _ _)
      | (with_reducible exact LeO.refl _)
      | (with_reducible exact LeO.none _)
      | (with_reducible refine LeO.ite ?_ ?_)
      | (with_reducible refine LeO.bind ?_ (fun _ => ?_))
      | exact ih0 _ _ _ _ _ _
      | exact ih1 _ _ _ _ _ _ _ _ _
      | exact ih2 _ _ _ _ _
      | exact ih3 _ _ _
      | exact ih4 _ _ _
      | exact foretellkeep_Model.mono _ _ _ _ _ _ _ _
      | exact model_Count.mono _ _ _
      | exact step_Next.mono _ _ _ _
      | exact LeO.none _
      | refine LeO.ite ?_ ?_
      | refine LeO.bind ?_ (fun _ => ?_)
    · intro y0 y1 y2
      unfold foretellkeep_StepTwice.l1
      repeat' first
      | (with_reducible exact ih0 _ _ _ _ _ _)
      | (with_reducible exact ih1 _ _ _ _ _ _ _ _ _)
      | (with_reducible exact ih2 _ _ _ _ _)
      | (with_reducible exact ih3 _ _ _)
      | (with_reducible exact ih4 _ _ _)
      | (with_reducible exact foretellkeep_Model.mono _ _ _ _ _ _ _ _)
      | (with_reducible exact model_Count.mono _ _ _)
      | (with_reducible exact step_Next.mono _ _ _ _)
      | (with_reducible exact LeO.refl _)
      | (with_reducible exact LeO.none _)
      | (with_reducible refine LeO.ite ?_ ?_)
      | (with_reducible refine LeO.bind ?_ (fun _ => ?_))
      | exact ih0 _ _ _ _ _ _
      | exact ih1 _ _ _ _ _ _ _ _ _
      | exact ih2 _ _ _ _ _
      | exact ih3 _ _ _
      | exact ih4 _ _ _
      | exact foretellkeep_Model.mono _ _ _ _ _ _ _ _
      | exact model_Count.mono _ _ _
      | exact step_Next.mono _ _ _ _
      | exact LeO.none _
      | refine LeO.ite ?_ ?_
      | refine LeO.bind ?_ (fun _ => ?_)
theorem foretellkeep_StepTwice.mono : ∀ a0 a1 a2 a3 a4 a5 a6 a7 a8 k, LeO (foretellkeep_StepTwice.f k a0 a1 a2 a3 a4 a5 a6 a7 a8) (foretellkeep_StepTwice.f (k + 1) a0 a1 a2 a3 a4 a5 a6 a7 a8) := by
  intro a0 a1 a2 a3 a4 a5 a6 a7 a8 k
  obtain ⟨ih0, ih1, ih2, ih3, ih4⟩ := foretellkeep_StepTwice.mono_l k
  unfold foretellkeep_StepTwice.f
  repeat' first
      | (with_reducible exact ih0 _ _ _ _ _ _)
      | (with_reducible exact ih1 _ _ _ _ _ _ _ _ _)
      | (with_reducible exact ih2 _ _ _ _ _)
      | (with_reducible exact ih3 _ _ _)
      | (with_reducible exact ih4 _ _ _)
      | (with_reducible exact foretellkeep_Model.mono _ _ _ _ _ _ _ _)
      | (with_reducible exact model_Count.mono _ _ _)
      | (with_reducible exact step_Next.mono _ _ _ _)
      | (with_reducible exact LeO.refl _)
      | (with_reducible exact LeO.none _)
      | (with_reducible refine LeO.ite ?_ ?_)
      | (with_reducible refine LeO.bind ?_ (fun _ => ?_))
      | exact ih0 _ _ _ _ _ _
      | exact ih1 _ _ _ _ _ _ _ _ _
      | exact ih2 _ _ _ _ _
      | exact ih3 _ _ _
      | exact ih4 _ _ _
      | exact foretellkeep_Model.mono _ _ _ _ _ _ _ _
      | exact model_Count.mono _ _ _
      | exact step_Next.mono _ _ _ _
      | exact LeO.none _
      | refine LeO.ite ?_ ?_
      | refine LeO.bind ?_ (fun _ => ?_)
def foretellkeep_StepTwice.T12 : Bool × List (List Nat × List Nat) := (true, [([], []), ([0], [0]), ([], []), ([2], [2]), ([], []), ([3, 4], [3, 4]), ([5], [5]), ([6], [6]), ([1, 7], [1, 7]), ([0, 1, 2, 3, 4, 5, 6, 7, 8], []), ([9, 8, 8, 0, 1, 2, 3, 4, 5, 6, 7, 8], [8, 9])])
def foretellkeep_StepTwice.B12 : List Nat := [0, 1, 0, 4, 0, 28, 60, 124, 255, 511, 1023]
theorem foretellkeep_StepTwice.tab12 : rtab .any (opsOf Tryd.f10 12) = foretellkeep_StepTwice.T12 := by kernel_rfl
theorem foretellkeep_StepTwice.bits12 : waitsOk foretellkeep_StepTwice.T12.2 foretellkeep_StepTwice.B12 = true := by kernel_rfl
def foretellkeep_StepTwice.T14 : Bool × List (List Nat × List Nat) := (true, [([], []), ([0], [0]), ([], []), ([2], [2]), ([], []), ([], []), ([5], [5]), ([6], [6]), ([4, 7], [4, 7]), ([3, 8], [3, 8]), ([9], [9]), ([10], [10]), ([1, 11, 8], [1, 11]), ([0, 1, 2, 3, 4, 5, 6, 7, 8, 9, 10, 11, 12], []), ([13, 12, 12, 0, 1, 2, 3, 4, 5, 6, 7, 8, 9, 10, 11, 12], [12, 13])])
def foretellkeep_StepTwice.B14 : List Nat := [0, 1, 0, 4, 0, 0, 32, 96, 240, 508, 1020, 2044, 4095, 8191, 16383]
theorem foretellkeep_StepTwice.tab14 : rtab .any (opsOf Tryd.f10 14) = foretellkeep_StepTwice.T14 := by kernel_rfl
theorem foretellkeep_StepTwice.bits14 : waitsOk foretellkeep_StepTwice.T14.2 foretellkeep_StepTwice.B14 = true := by kernel_rfl
def foretellkeep_StepTwice.T21 : Bool × List (List Nat × List Nat) := (true, [([], []), ([], []), ([0, 1], [0, 1]), ([2], [2]), ([], []), ([], []), ([4, 5], [4, 5]), ([6], [6]), ([3, 7], [3, 7])])
def foretellkeep_StepTwice.B21 : List Nat := [0, 0, 3, 7, 0, 0, 48, 112, 255]
theorem foretellkeep_StepTwice.tab21 : rtab .any (opsOf Tryd.f10 21) = foretellkeep_StepTwice.T21 := by kernel_rfl
theorem foretellkeep_StepTwice.bits21 : waitsOk foretellkeep_StepTwice.T21.2 foretellkeep_StepTwice.B21 = true := by kernel_rfl
set_option maxHeartbeats 8000000 in
set_option maxRecDepth 100000 in
theorem foretellkeep_StepTwice.calls (k : Nat) (a0_0 : Int) (a0_1 : Int) (a0_2 : Int) (a0_3 : Int) (a0_4 : Int) (a0_5 : Int) (A0_6 : Option Addr) (c0_6 : Nat) (l0_6 : List (S65)) (a1 : Int) (a2 : Int) (r : Bool) (w : World) (hr0_6 : Kd.C k65 w A0_6 l0_6.length l0_6) (hc0_6 : l0_6.length ≤ c0_6) (hG_ : Glob w) (hr_ : Aside0 (r = true)) (h : foretellkeep_StepTwice.f k a0_0 a0_1 a0_2 a0_3 a0_4 a0_5 l0_6 a1 a2 = some r) :
    Calls Tryd.prog 10 #[.agg #[.int .i64 a0_0, .int .i64 a0_1, .int .i64 a0_2, .int .i64 a0_3, .int .i64 a0_4, .int .i64 a0_5, .slice A0_6 l0_6.length c0_6], .int .i64 a1, .int .i64 a2] w fun e w' => e = .returned (.bool r) ∧ Below w.heap.size w w' := by
  have hu25 := Tryd.underlying25
  have hu29 := Tryd.underlying29
  have hu42 := Tryd.underlying42
  have HR0_6 := Aside0.mk hr0_6
  have HC0_6 := Aside0.mk hc0_6
  clear hr0_6 hc0_6
  have HB := Aside0.mk (Below.refl w.heap.size w)
  have H : ((foretellkeep_Model.f k a0_0 a0_1 a0_2 a0_3 a0_4 a0_5 l0_6).bind fun bt560 => ((model_Count.f k bt560.1 bt560.2).bind fun bt567 => (if bt567.2 = 0 then (foretellkeep_StepTwice.j0 k a1 a2 bt567.1 (decide (bt567.1 < 1)) bt560.1 bt560.2) else (foretellkeep_StepTwice.j0 k a1 a2 bt567.1 true bt560.1 bt560.2)))) = some r := h
  clear h
  replace H := Option.bind_eq_some_iff.mp H
  obtain ⟨⟨t560, t563⟩, A40, H⟩ := H
  replace H : ((model_Count.f k t560 t563).bind fun bt567 => (if bt567.2 = 0 then (foretellkeep_StepTwice.j0 k a1 a2 bt567.1 (decide (bt567.1 < 1)) t560 t563) else (foretellkeep_StepTwice.j0 k a1 a2 bt567.1 true t560 t563))) = some r := H
  have A4 := Aside0.mk A40
  clear A40
  replace H := Option.bind_eq_some_iff.mp H
  obtain ⟨⟨t567, t568⟩, A50, H⟩ := H
  replace H : (if t568 = 0 then (foretellkeep_StepTwice.j0 k a1 a2 t567 (decide (t567 < 1)) t560 t563) else (foretellkeep_StepTwice.j0 k a1 a2 t567 true t560 t563)) = some r := H
  have A5 := Aside0.mk A50
  clear A50
  have HC6 := Aside0.mk H
  clear H
  go_enter Tryd.func10, Tryd.ntmps10
  go_upto_region 3 with (first | ((with_reducible refine gate_dst (N := 3) rfl ?_); (try (refine gate_guard (by rfl) ?_; dsimp only)); refine box_event ?hg (N := 3) ?hd (cs := #[.int .i64 a0_0, .int .i64 a0_1, .int .i64 a0_2, .int .i64 a0_3, .int .i64 a0_4, .int .i64 a0_5, .slice A0_6 l0_6.length c0_6]) (t := 25) ?hr ?_; (case hd => rfl); (case hg => rfl); (case hr => first | (go_simp; done) | (go_simp; rfl)); intro gb559 hg w7 hbox hb; have n0_ := Aside0.mk (below_step (by repeat (first | (with_reducible first | exact HB.out | apply below_alloc | apply pw_below_drewN | apply below_drew1) | exact HB.out)) hb); have n1_ := Aside0.mk (hbox); have n2_ := Aside0.mk ((by rw [hg]; exact (below_size (by repeat (first | (with_reducible first | exact HB.out | apply below_alloc | apply pw_below_drewN | apply below_drew1) | exact HB.out))) : w.heap.size ≤ gb559)); have n3_ := Aside0.mk ((by rw [hg]; exact (below_size (by repeat (first | (with_reducible first | exact HB.out | apply below_alloc | apply pw_below_drewN | apply below_drew1) | exact HB.out))) : w.heap.size ≤ gb559)); clear HB; have HB := n0_; have BK559 := n1_; have GW559 := n2_; have GE559 := n3_; clear n0_ n1_ n2_ n3_; clear hb hbox hg; have hcz8_0 : w7.cell? ⟨gb559, 0, none⟩ = some (.int .i64 a0_0) := (blk_cell BK559.out 0).trans rfl; have hcz8_1 : w7.cell? ⟨gb559, 1, none⟩ = some (.int .i64 a0_1) := (blk_cell BK559.out 1).trans rfl; have hcz8_2 : w7.cell? ⟨gb559, 2, none⟩ = some (.int .i64 a0_2) := (blk_cell BK559.out 2).trans rfl; have hcz8_3 : w7.cell? ⟨gb559, 3, none⟩ = some (.int .i64 a0_3) := (blk_cell BK559.out 3).trans rfl; have hcz8_4 : w7.cell? ⟨gb559, 4, none⟩ = some (.int .i64 a0_4) := (blk_cell BK559.out 4).trans rfl; have hcz8_5 : w7.cell? ⟨gb559, 5, none⟩ = some (.int .i64 a0_5) := (blk_cell BK559.out 5).trans rfl; have hcz8_6 : w7.cell? ⟨gb559, 6, none⟩ = some (.slice A0_6 l0_6.length c0_6) := (blk_cell BK559.out 6).trans rfl; have hfz8_0 := blk_frozen BK559.out 0; have hfz8_1 := blk_frozen BK559.out 1; have hfz8_2 := blk_frozen BK559.out 2; have hfz8_3 := blk_frozen BK559.out 3; have hfz8_4 := blk_frozen BK559.out 4; have hfz8_5 := blk_frozen BK559.out 5; have hfz8_6 := blk_frozen BK559.out 6) | ((with_reducible refine gate_callee (f := 14) rfl ?_); refine goesL_ (some 19) rfl rfl Tryd.func14 (by kernel_rfl) rfl #[.agg #[.int .i64 a0_0, .int .i64 a0_1, .int .i64 a0_2, .int .i64 a0_3, .int .i64 a0_4, .int .i64 a0_5, .slice A0_6 l0_6.length c0_6]] rfl (by (try simp only [List.map_toArray, List.map_cons, List.map_nil]); first | done | rfl | (simp only [List.length_drop, List.length_take]; rfl)) ?_; (with_reducible refine (foretellkeep_Model.calls k a0_0 a0_1 a0_2 a0_3 a0_4 a0_5 _ _ l0_6 t560 t563 _ ?side1 ?side2 A4.out).mono ?_); (case side1 => repeat (first | exact (Kd.C_below HR0_6.out HB.out) | (with_reducible refine Kd.C_alloc ?_ _) | (with_reducible refine Kd.C_drewN ?_ _) | (with_reducible refine Kd.C_drew ?_))); (case side2 => exact HC0_6.out); rintro e w9 ⟨v561, v564, rfl, ho0, ho1, hb⟩; refine ⟨_, rfl, ?_⟩; have n0_ := Aside0.mk (Kd.R_lower ho0 (below_size (by repeat (first | (with_reducible first | exact HB.out | apply below_alloc | apply pw_below_drewN | apply below_drew1 | refine below_set ?_ GE559.out) | exact HB.out)))); have n1_ := Aside0.mk (Kd.N_lower (Kd.N_mono (ok' := fun k_ => some k_ ≠ (v561 : Value).ownBlock ∧ k_ ≠ gb559) (Kd.R_N (Kd.R_bound (Kd.R_apart' ho1 (Kd.R_typed ho0) (by decide)))) (fun k_ hk_ => ⟨hk_.1.2, (Kd.freshB (g := gb559) (o := .cells #[.int .i64 a0_0, .int .i64 a0_1, .int .i64 a0_2, .int .i64 a0_3, .int .i64 a0_4, .int .i64 a0_5, .slice A0_6 l0_6.length c0_6] 25 (0, 0)) (by (with_reducible repeat (first | refine blk_drewN ?_ _ | refine blk_drew ?_ | refine blk_alloc ?_ _)); exact BK559.out) k_ hk_.2.1)⟩)) (below_size (by repeat (first | (with_reducible first | exact HB.out | apply below_alloc | apply pw_below_drewN | apply below_drew1 | refine below_set ?_ GE559.out) | exact HB.out)))); have n2_ := Aside0.mk (blk_below (g := gb559) (o := .cells #[.int .i64 a0_0, .int .i64 a0_1, .int .i64 a0_2, .int .i64 a0_3, .int .i64 a0_4, .int .i64 a0_5, .slice A0_6 l0_6.length c0_6] 25 (0, 0)) (by (with_reducible repeat (first | refine blk_drewN ?_ _ | refine blk_drew ?_ | refine blk_alloc ?_ _)); exact BK559.out) hb); have n3_ := Aside0.mk (below_step (by repeat (first | (with_reducible first | exact HB.out | apply below_alloc | apply pw_below_drewN | apply below_drew1 | refine below_set ?_ GE559.out) | exact HB.out)) hb); clear BK559; clear HB; have HO562 := n0_; have HO565 := n1_; have BK559 := n2_; have HB := n3_; clear n0_ n1_ n2_ n3_; (try clear hb); (try clear hb2); (try clear hk); (try clear hi); (try clear ho0); (try clear ho1)) | ((with_reducible refine gate_dst (N := 7) rfl ?_); (try (refine gate_guard (by rfl) ?_; dsimp only)); refine box_event ?hg (N := 7) ?hd (cs := #[.slice none 0 0, .slice none 0 0]) (t := 29) ?hr ?_; (case hd => rfl); (case hg => rfl); (case hr => first | (go_simp; done) | (go_simp; rfl)); intro gb566 hg w10 hbox hb; have n0_ := Aside0.mk (Kd.R_below (by (with_reducible repeat (first | apply Kd.R_alloc | apply Kd.R_drewN | apply Kd.R_drew)); exact HO562.out) hb); have n1_ := Aside0.mk (Kd.N_below (Kd.N_elderB (by (with_reducible repeat (first | apply Kd.N_alloc | apply Kd.N_drewN | apply Kd.N_drew)); exact HO565.out) gb566 (Nat.le_of_eq hg.symm)) hb); have n2_ := Aside0.mk (blk_below (g := gb559) (o := .cells #[.int .i64 a0_0, .int .i64 a0_1, .int .i64 a0_2, .int .i64 a0_3, .int .i64 a0_4, .int .i64 a0_5, .slice A0_6 l0_6.length c0_6] 25 (0, 0)) (by (with_reducible repeat (first | refine blk_drewN ?_ _ | refine blk_drew ?_ | refine blk_alloc ?_ _)); exact BK559.out) hb); have n3_ := Aside0.mk (below_step (by repeat (first | (with_reducible first | exact HB.out | apply below_alloc | apply pw_below_drewN | apply below_drew1 | refine below_set ?_ GE559.out) | exact HB.out)) hb); have n4_ := Aside0.mk (hbox); have n5_ := Aside0.mk ((by rw [hg]; exact (below_size (by repeat (first | (with_reducible first | exact HB.out | apply below_alloc | apply pw_below_drewN | apply below_drew1 | refine below_set ?_ GE559.out) | exact HB.out))) : w.heap.size ≤ gb566)); have n6_ := Aside0.mk ((by rw [hg]; exact (below_size (by repeat (first | (with_reducible first | exact HB.out | apply below_alloc | apply pw_below_drewN | apply below_drew1 | refine below_set ?_ GE559.out) | exact HB.out))) : w.heap.size ≤ gb566)); have n7_ := Aside0.mk ((by rw [hg]; exact Nat.ne_of_lt (blk_lt (g := gb559) (o := .cells #[.int .i64 a0_0, .int .i64 a0_1, .int .i64 a0_2, .int .i64 a0_3, .int .i64 a0_4, .int .i64 a0_5, .slice A0_6 l0_6.length c0_6] 25 (0, 0)) (by (with_reducible repeat (first | refine blk_drewN ?_ _ | refine blk_drew ?_ | refine blk_alloc ?_ _)); exact BK559.out)) : gb559 ≠ gb566)); have n8_ := Aside0.mk ((by rw [hg]; exact Nat.ne_of_gt (blk_lt (g := gb559) (o := .cells #[.int .i64 a0_0, .int .i64 a0_1, .int .i64 a0_2, .int .i64 a0_3, .int .i64 a0_4, .int .i64 a0_5, .slice A0_6 l0_6.length c0_6] 25 (0, 0)) (by (with_reducible repeat (first | refine blk_drewN ?_ _ | refine blk_drew ?_ | refine blk_alloc ?_ _)); exact BK559.out)) : gb566 ≠ gb559)); clear HO562; clear HO565; clear BK559; clear HB; have HO562 := n0_; have HO565 := n1_; have BK559 := n2_; have HB := n3_; have BK566 := n4_; have GW566 := n5_; have GE566 := n6_; have NB559_566 := n7_; have NB566_559 := n8_; clear n0_ n1_ n2_ n3_ n4_ n5_ n6_ n7_ n8_; clear hb hbox hg; obtain ⟨Ao11, co11, eo11⟩ := Kd.R_slice HO562.out; subst eo11; have hnb12 := NB566_559.out; have hnc12 := NB559_566.out; have hcz13_0 : w10.cell? ⟨gb566, 0, none⟩ = some (.slice none 0 0) := (blk_cell BK566.out 0).trans rfl; have hcz13_1 : w10.cell? ⟨gb566, 1, none⟩ = some (.slice none 0 0) := (blk_cell BK566.out 1).trans rfl; have hfz13_0 := blk_frozen BK566.out 0; have hfz13_1 := blk_frozen BK566.out 1; obtain ⟨Ao14, co14, eo14⟩ := Kd.N_slice HO565.out; subst eo14) | ((with_reducible refine gate_callee (f := 18) rfl ?_); refine goesL_ (some 22) rfl rfl Tryd.func18 (by kernel_rfl) rfl #[.agg #[.slice Ao11 t560.length co11, .slice Ao14 t563.length co14]] rfl (by (try simp only [List.map_toArray, List.map_cons, List.map_nil]); first | done | rfl | (simp only [List.length_drop, List.length_take]; rfl)) ?_; (with_reducible refine (model_Count.calls k _ _ t560 _ _ t563 t567 t568 _ ?side1 ?side2 ?side3 ?side4 ?side5 A5.out).mono ?_); (case side1 => refine (Kd.R_reads' (e := 32) (base := w.heap.size) (ok := fun k_ => True) (n := t560.length) (c := co11) ?_).2.2; exact (by (with_reducible repeat (first | apply Kd.R_alloc | apply Kd.R_drewN | apply Kd.R_drew)); exact (Kd.R_mono (Kd.R_far (p := ⟨gb566, 1, none⟩) (Kd.R_far (p := ⟨gb566, 0, none⟩) (Kd.R_types HO562.out BK566.out (by decide)) (fun _ hk => hk.2) (.slice Ao11 t560.length co11)) (fun _ hk => hk.2) (.slice Ao14 t563.length co14)) (fun _ h_ => h_.1)))); (case side2 => exact (Kd.R_reads' HO562.out).2.1); (case side3 => refine (Kd.N_reads' (e := 42) (base := w.heap.size) (ok := fun k_ => ((some k_ ≠ (.slice Ao11 t560.length co11 : Value).ownBlock ∧ k_ ≠ gb559) ∧ k_ ≠ gb566)) (n := t563.length) (c := co14) ?_).2.2; exact (by (with_reducible repeat (first | apply Kd.N_alloc | apply Kd.N_drewN | apply Kd.N_drew)); exact (Kd.N_mono (Kd.N_far (p := ⟨gb566, 1, none⟩) (Kd.N_far (p := ⟨gb566, 0, none⟩) (Kd.N_mono HO565.out (fun k_ hk => (⟨hk, hk.2⟩ : _ ∧ k_ ≠ gb566))) (fun _ hk => hk.2) (.slice Ao11 t560.length co11)) (fun _ hk => hk.2) (.slice Ao14 t563.length co14)) (fun _ h_ => h_.1)))); (case side4 => exact (Kd.N_reads' HO565.out).2.1); (case side5 => first | exact hG_ | exact Glob.drewN hG_ _ | exact Glob.below hG_ (by repeat (first | (with_reducible first | exact HB.out | apply below_alloc | apply pw_below_drewN | apply below_drew1 | refine below_set ?_ GE559.out | refine below_set ?_ GE566.out) | exact HB.out))); rintro e w15 ⟨rfl, hb⟩; refine ⟨_, rfl, ?_⟩; have n0_ := Aside0.mk (Kd.R_below (by (with_reducible repeat (first | apply Kd.R_alloc | apply Kd.R_drewN | apply Kd.R_drew)); exact (Kd.R_mono (Kd.R_far (p := ⟨gb566, 1, none⟩) (Kd.R_far (p := ⟨gb566, 0, none⟩) (Kd.R_types HO562.out BK566.out (by decide)) (fun _ hk => hk.2) (.slice Ao11 t560.length co11)) (fun _ hk => hk.2) (.slice Ao14 t563.length co14)) (fun _ h_ => h_.1))) hb); have n1_ := Aside0.mk (Kd.N_below (by (with_reducible repeat (first | apply Kd.N_alloc | apply Kd.N_drewN | apply Kd.N_drew)); exact (Kd.N_mono (Kd.N_far (p := ⟨gb566, 1, none⟩) (Kd.N_far (p := ⟨gb566, 0, none⟩) (Kd.N_mono HO565.out (fun k_ hk => (⟨hk, hk.2⟩ : _ ∧ k_ ≠ gb566))) (fun _ hk => hk.2) (.slice Ao11 t560.length co11)) (fun _ hk => hk.2) (.slice Ao14 t563.length co14)) (fun _ h_ => h_.1))) hb); have n2_ := Aside0.mk (blk_below (g := gb559) (o := .cells #[.int .i64 a0_0, .int .i64 a0_1, .int .i64 a0_2, .int .i64 a0_3, .int .i64 a0_4, .int .i64 a0_5, .slice A0_6 l0_6.length c0_6] 25 (0, 0)) (by (with_reducible repeat (first | refine blk_drewN ?_ _ | refine blk_drew ?_ | refine blk_alloc ?_ _)); refine blk_far ?_ NB559_566.out _; (with_reducible repeat (first | refine blk_drewN ?_ _ | refine blk_drew ?_ | refine blk_alloc ?_ _)); refine blk_far ?_ NB559_566.out _; (with_reducible repeat (first | refine blk_drewN ?_ _ | refine blk_drew ?_ | refine blk_alloc ?_ _)); exact BK559.out) hb); have n3_ := Aside0.mk (blk_below (g := gb566) (o := .cells #[.slice Ao11 t560.length co11, .slice Ao14 t563.length co14] 29 (0, 0)) (by (with_reducible repeat (first | refine blk_drewN ?_ _ | refine blk_drew ?_ | refine blk_alloc ?_ _)); refine blk_put (cs := #[.slice Ao11 t560.length co11, .slice none 0 0]) ?_ 1 _ rfl; (with_reducible repeat (first | refine blk_drewN ?_ _ | refine blk_drew ?_ | refine blk_alloc ?_ _)); refine blk_put (cs := #[.slice none 0 0, .slice none 0 0]) ?_ 0 _ rfl; (with_reducible repeat (first | refine blk_drewN ?_ _ | refine blk_drew ?_ | refine blk_alloc ?_ _)); exact BK566.out) hb); have n4_ := Aside0.mk (below_step (by repeat (first | (with_reducible first | exact HB.out | apply below_alloc | apply pw_below_drewN | apply below_drew1 | refine below_set ?_ GE559.out | refine below_set ?_ GE566.out) | exact HB.out)) hb); clear HO562; clear HO565; clear BK559; clear BK566; clear HB; have HO562 := n0_; have HO565 := n1_; have BK559 := n2_; have BK566 := n3_; have HB := n4_; clear n0_ n1_ n2_ n3_ n4_; (try clear hb); (try clear hb2); (try clear hk); (try clear hi)))
  (try simp only [Act.put, List.setIfInBounds_toArray, List.set_cons_zero, List.set_cons_succ])
  go_cut [30] (fun v30 wc => ∃ (kq : Nat) (x30_5 : Bool), v30 = .bool x30_5 ∧ Aside0 (foretellkeep_StepTwice.j0 kq a1 a2 t567 x30_5 t560 t563 = some r) ∧ Aside0 (kq ≤ k) ∧ Aside0 (Kd.R k32 32 wc w.heap.size (fun _ => True) (.slice Ao11 t560.length co11) t560) ∧ Aside0 (Kd.N k42 42 wc w.heap.size (fun k_ => some k_ ≠ ((.slice Ao11 t560.length co11) : Value).ownBlock ∧ k_ ≠ gb559 ∧ k_ ≠ gb566) (.slice Ao14 t563.length co14) t563) ∧ Aside0 (wc.heap[gb559]? = some (.cells #[.int .i64 a0_0, .int .i64 a0_1, .int .i64 a0_2, .int .i64 a0_3, .int .i64 a0_4, .int .i64 a0_5, (.slice A0_6 l0_6.length c0_6)] 25 (0, 0))) ∧ Aside0 (wc.heap[gb566]? = some (.cells #[(.slice Ao11 t560.length co11), (.slice Ao14 t563.length co14)] 29 (0, 0))) ∧ Aside0 (Below w.heap.size w wc))
  case first =>
    have H := HC6.out
    clear HC6
    by_cases c16 : t568 = 0
    · rw [if_pos c16] at H
      have c16b0 : (t568 == 0) = true := beq_iff_eq.mpr c16
      have c16b1 : (t568 != 0) = false := bne_eq_false_iff_eq.mpr c16
      clear c16
      (first | rw [c16b0] | (simp only [i64_w, i32_w]; rw [c16b0]) | rw [c16b1] | skip)
      have H' := Aside0.mk H
      clear H
      go_wp2
      go_meet
      case rel => exact ⟨_, (decide (t567 < 1)), (by first | rfl | (simp; done) | (simp [*]; done)), H', ⟨by first | omega | exact Nat.le_refl _⟩, ⟨by (with_reducible repeat (first | apply Kd.R_alloc | apply Kd.R_drewN | apply Kd.R_drew)); exact HO562.out⟩, ⟨by (with_reducible repeat (first | apply Kd.N_alloc | apply Kd.N_drewN | apply Kd.N_drew)); exact Kd.N_mono HO565.out (fun _ hk => ⟨hk.1.1, ⟨hk.1.2, hk.2⟩⟩)⟩, ⟨by (with_reducible repeat (first | refine blk_drewN ?_ _ | refine blk_drew ?_ | refine blk_alloc ?_ _)); exact BK559.out⟩, ⟨by (with_reducible repeat (first | refine blk_drewN ?_ _ | refine blk_drew ?_ | refine blk_alloc ?_ _)); exact BK566.out⟩, ⟨by repeat (first | (with_reducible first | exact HB.out | apply below_alloc | apply pw_below_drewN | apply below_drew1 | refine below_set ?_ GE559.out | refine below_set ?_ GE566.out) | exact HB.out)⟩⟩
    · rw [if_neg c16] at H
      have c16b0 : (t568 == 0) = false := beq_eq_false_iff_ne.mpr c16
      have c16b1 : (t568 != 0) = true := bne_iff_ne.mpr c16
      (first | rw [c16b0] | (simp only [i64_w, i32_w]; rw [c16b0]) | rw [c16b1] | skip)
      have H' := Aside0.mk H
      clear H
      go_wp2
      go_meet
      case rel => exact ⟨_, (true), (by first | rfl | (simp; done) | (simp [*]; done)), H', ⟨by first | omega | exact Nat.le_refl _⟩, ⟨by (with_reducible repeat (first | apply Kd.R_alloc | apply Kd.R_drewN | apply Kd.R_drew)); exact HO562.out⟩, ⟨by (with_reducible repeat (first | apply Kd.N_alloc | apply Kd.N_drewN | apply Kd.N_drew)); exact Kd.N_mono HO565.out (fun _ hk => ⟨hk.1.1, ⟨hk.1.2, hk.2⟩⟩)⟩, ⟨by (with_reducible repeat (first | refine blk_drewN ?_ _ | refine blk_drew ?_ | refine blk_alloc ?_ _)); exact BK559.out⟩, ⟨by (with_reducible repeat (first | refine blk_drewN ?_ _ | refine blk_drew ?_ | refine blk_alloc ?_ _)); exact BK566.out⟩, ⟨by repeat (first | (with_reducible first | exact HB.out | apply below_alloc | apply pw_below_drewN | apply below_drew1 | refine below_set ?_ GE559.out | refine below_set ?_ GE566.out) | exact HB.out)⟩⟩
  case rest =>
    clear HC6
    try clear c1
    try clear p2
    try clear c10
    try clear c12
    try clear c14
    try clear c16
    try clear c16b0
    try clear c16b1
    try clear hcz13_0
    try clear hcz13_1
    try clear hcz8_0
    try clear hcz8_1
    try clear hcz8_2
    try clear hcz8_3
    try clear hcz8_4
    try clear hcz8_5
    try clear hcz8_6
    try clear hfz13_0
    try clear hfz13_1
    try clear hfz8_0
    try clear hfz8_1
    try clear hfz8_2
    try clear hfz8_3
    try clear hfz8_4
    try clear hfz8_5
    try clear hfz8_6
    obtain ⟨kq, x30_5, rfl, HA, HJ5, HO_567000, HO_567001, BK559, BK566, HB⟩ := hcut
    cases kq with
    | zero => exact absurd HA.out (by simp [foretellkeep_StepTwice.j0])
    | succ kj5 =>
      have H := HA.out
      clear HA
      simp only [foretellkeep_StepTwice.j0] at H
      by_cases c17 : x30_5 = true
      · subst c17
        have H1 : (some false) = some r := by rw [if_pos rfl] at H; exact H
        clear H
        have H := H1
        clear H1
        exact absurd ((Option.some.inj H).trans hr_.out) (by decide)
      · replace c17 := Bool.eq_false_iff.mpr c17
        subst c17
        have H1 : ((foretellkeep_picked.f a1 t567).bind fun t569 => ((step_Next.f kj5 t560 t563 t569).bind fun bt570 => (foretellkeep_StepTwice.l0 kj5 a2 t569 bt570.1 bt570.2 (wrap64 ((t563.length : Int) - 1)) t560 t563 t560 ([] : List (S42))))) = some r := by rw [if_neg (show ¬ (false = true) by decide)] at H; exact H
        clear H
        have H := H1
        clear H1
        replace H := Option.bind_eq_some_iff.mp H
        obtain ⟨t569, A180, H⟩ := H
        replace H : ((step_Next.f kj5 t560 t563 t569).bind fun bt570 => (foretellkeep_StepTwice.l0 kj5 a2 t569 bt570.1 bt570.2 (wrap64 ((t563.length : Int) - 1)) t560 t563 t560 ([] : List (S42)))) = some r := H
        have A18 := Aside0.mk A180
        clear A180
        replace H := Option.bind_eq_some_iff.mp H
        obtain ⟨⟨t570, t573⟩, A190, H⟩ := H
        replace H : (foretellkeep_StepTwice.l0 kj5 a2 t569 t570 t573 (wrap64 ((t563.length : Int) - 1)) t560 t563 t560 ([] : List (S42))) = some r := H
        have A19 := Aside0.mk A190
        clear A190
        have H' := Aside0.mk H
        clear H
        go_wp2_with (first | ((with_reducible refine gate_callee (f := 15) rfl ?_); refine goesL_ (some 33) rfl rfl Tryd.func15 (by kernel_rfl) rfl #[.int .i64 a1, .int .i64 t567] rfl (by (try simp only [List.map_toArray, List.map_cons, List.map_nil]); first | done | rfl | (simp only [List.length_drop, List.length_take]; rfl)) ?_; (with_reducible refine (foretellkeep_picked.calls a1 t567 t569 _ A18.out).mono ?_); rintro e w' ⟨rfl, ⟨nd, rfl⟩⟩; refine ⟨_, rfl, ?_⟩; (try (rw [drewN_self wc]; generalize hq_ : World.drewN wc _ = wc; have n0_ : Aside0 (Kd.R k32 32 wc w.heap.size (fun _ => True) (.slice Ao11 t560.length co11) t560) := ⟨by rw [← hq_]; exact (by (with_reducible repeat (first | apply Kd.R_alloc | apply Kd.R_drewN | apply Kd.R_drew)); exact HO_567000.out)⟩; have n1_ : Aside0 (Kd.N k42 42 wc w.heap.size (fun k_ => some k_ ≠ (.slice Ao11 t560.length co11 : Value).ownBlock ∧ k_ ≠ gb559 ∧ k_ ≠ gb566) (.slice Ao14 t563.length co14) t563) := ⟨by rw [← hq_]; exact (by (with_reducible repeat (first | apply Kd.N_alloc | apply Kd.N_drewN | apply Kd.N_drew)); exact HO_567001.out)⟩; have n2_ : Aside0 (wc.heap[gb559]? = some (.cells #[.int .i64 a0_0, .int .i64 a0_1, .int .i64 a0_2, .int .i64 a0_3, .int .i64 a0_4, .int .i64 a0_5, .slice A0_6 l0_6.length c0_6] 25 (0, 0))) := ⟨by rw [← hq_]; exact (by (with_reducible repeat (first | refine blk_drewN ?_ _ | refine blk_drew ?_ | refine blk_alloc ?_ _)); exact BK559.out)⟩; have n3_ : Aside0 (wc.heap[gb566]? = some (.cells #[.slice Ao11 t560.length co11, .slice Ao14 t563.length co14] 29 (0, 0))) := ⟨by rw [← hq_]; exact (by (with_reducible repeat (first | refine blk_drewN ?_ _ | refine blk_drew ?_ | refine blk_alloc ?_ _)); exact BK566.out)⟩; have n4_ : Aside0 (Below w.heap.size w wc) := ⟨by rw [← hq_]; exact (by repeat (first | (with_reducible first | exact HB.out | apply below_alloc | apply pw_below_drewN | apply below_drew1 | refine below_set ?_ GE559.out | refine below_set ?_ GE566.out) | exact HB.out))⟩; clear HO_567000 HO_567001 BK559 BK566 HB hq_; have HO_567000 := n0_; have HO_567001 := n1_; have BK559 := n2_; have BK566 := n3_; have HB := n4_; clear n0_ n1_ n2_ n3_ n4_)); have hnb20 := NB566_559.out; have hnc20 := NB559_566.out; have hcz21_0 : wc.cell? ⟨gb566, 0, none⟩ = some (.slice Ao11 t560.length co11) := (blk_cell BK566.out 0).trans rfl; have hcz21_1 : wc.cell? ⟨gb566, 1, none⟩ = some (.slice Ao14 t563.length co14) := (blk_cell BK566.out 1).trans rfl; have hfz21_0 := blk_frozen BK566.out 0; have hfz21_1 := blk_frozen BK566.out 1) | ((with_reducible refine gate_callee (f := 24) rfl ?_); refine goesL_ (some 37) rfl rfl Tryd.func24 (by kernel_rfl) rfl #[.agg #[.slice Ao11 t560.length co11, .slice Ao14 t563.length co14], .int .i64 t569] rfl (by (try simp only [List.map_toArray, List.map_cons, List.map_nil]); first | done | rfl | (simp only [List.length_drop, List.length_take]; rfl)) ?_; (with_reducible refine (step_Next.calls kj5 _ _ t560 _ _ t563 t569 t570 t573 _ ?side1 ?side2 ?side3 ?side4 ?side5 A19.out).mono ?_); (case side1 => repeat (first | exact (Kd.R_reads' HO_567000.out).2.2 | (with_reducible refine Kd.C_alloc ?_ _) | (with_reducible refine Kd.C_drewN ?_ _) | (with_reducible refine Kd.C_drew ?_))); (case side2 => exact (Kd.R_reads' HO_567000.out).2.1); (case side3 => repeat (first | exact (Kd.N_reads' HO_567001.out).2.2 | (with_reducible refine Kd.C_alloc ?_ _) | (with_reducible refine Kd.C_drewN ?_ _) | (with_reducible refine Kd.C_drew ?_))); (case side4 => exact (Kd.N_reads' HO_567001.out).2.1); (case side5 => first | exact hG_ | exact Glob.drewN hG_ _ | exact Glob.below hG_ (by repeat (first | (with_reducible first | exact HB.out | apply below_alloc | apply pw_below_drewN | apply below_drew1 | refine below_set ?_ GE559.out | refine below_set ?_ GE566.out) | exact HB.out))); rintro e w22 ⟨v571, rfl, ho0, hb⟩; refine ⟨_, rfl, ?_⟩; have n0_ := Aside0.mk (Kd.R_below (by (with_reducible repeat (first | apply Kd.R_alloc | apply Kd.R_drewN | apply Kd.R_drew)); exact HO_567000.out) hb); have n1_ := Aside0.mk (Kd.N_elder' (by (with_reducible repeat (first | apply Kd.N_alloc | apply Kd.N_drewN | apply Kd.N_drew)); exact HO_567001.out) (Kd.R_base ho0) hb); have n2_ := Aside0.mk (Kd.R_lower ho0 (below_size (by repeat (first | (with_reducible first | exact HB.out | apply below_alloc | apply pw_below_drewN | apply below_drew1 | refine below_set ?_ GE559.out | refine below_set ?_ GE566.out) | exact HB.out)))); have n3_ := Aside0.mk (blk_below (g := gb559) (o := .cells #[.int .i64 a0_0, .int .i64 a0_1, .int .i64 a0_2, .int .i64 a0_3, .int .i64 a0_4, .int .i64 a0_5, .slice A0_6 l0_6.length c0_6] 25 (0, 0)) (by (with_reducible repeat (first | refine blk_drewN ?_ _ | refine blk_drew ?_ | refine blk_alloc ?_ _)); exact BK559.out) hb); have n4_ := Aside0.mk (blk_below (g := gb566) (o := .cells #[.slice Ao11 t560.length co11, .slice Ao14 t563.length co14] 29 (0, 0)) (by (with_reducible repeat (first | refine blk_drewN ?_ _ | refine blk_drew ?_ | refine blk_alloc ?_ _)); exact BK566.out) hb); have n5_ := Aside0.mk (below_step (by repeat (first | (with_reducible first | exact HB.out | apply below_alloc | apply pw_below_drewN | apply below_drew1 | refine below_set ?_ GE559.out | refine below_set ?_ GE566.out) | exact HB.out)) hb); clear HO_567000; clear HO_567001; clear BK559; clear BK566; clear HB; have HO_567000 := n0_; have HO_567001 := n1_; have HO572 := n2_; have BK559 := n3_; have BK566 := n4_; have HB := n5_; clear n0_ n1_ n2_ n3_ n4_ n5_; (try clear hb); (try clear hb2); (try clear hk); (try clear hi); (try clear ho0)) | ((with_reducible refine gate_dst (N := 13) rfl ?_); (try (refine gate_guard (by rfl) ?_; dsimp only)); refine box_event ?hg (N := 13) ?hd (cs := #[.slice none 0 0, .slice none 0 0]) (t := 29) ?hr ?_; (case hd => rfl); (case hg => rfl); (case hr => first | (go_simp; done) | (go_simp; rfl)); intro gb574 hg w23 hbox hb; have n0_ := Aside0.mk (Kd.R_below (by (with_reducible repeat (first | apply Kd.R_alloc | apply Kd.R_drewN | apply Kd.R_drew)); exact HO_567000.out) hb); have n1_ := Aside0.mk (Kd.N_below (Kd.N_elderB (by (with_reducible repeat (first | apply Kd.N_alloc | apply Kd.N_drewN | apply Kd.N_drew)); exact HO_567001.out) gb574 (Nat.le_of_eq hg.symm)) hb); have n2_ := Aside0.mk (Kd.R_below (by (with_reducible repeat (first | apply Kd.R_alloc | apply Kd.R_drewN | apply Kd.R_drew)); exact HO572.out) hb); have n3_ := Aside0.mk (blk_below (g := gb559) (o := .cells #[.int .i64 a0_0, .int .i64 a0_1, .int .i64 a0_2, .int .i64 a0_3, .int .i64 a0_4, .int .i64 a0_5, .slice A0_6 l0_6.length c0_6] 25 (0, 0)) (by (with_reducible repeat (first | refine blk_drewN ?_ _ | refine blk_drew ?_ | refine blk_alloc ?_ _)); exact BK559.out) hb); have n4_ := Aside0.mk (blk_below (g := gb566) (o := .cells #[.slice Ao11 t560.length co11, .slice Ao14 t563.length co14] 29 (0, 0)) (by (with_reducible repeat (first | refine blk_drewN ?_ _ | refine blk_drew ?_ | refine blk_alloc ?_ _)); exact BK566.out) hb); have n5_ := Aside0.mk (below_step (by repeat (first | (with_reducible first | exact HB.out | apply below_alloc | apply pw_below_drewN | apply below_drew1 | refine below_set ?_ GE559.out | refine below_set ?_ GE566.out) | exact HB.out)) hb); have n6_ := Aside0.mk (hbox); have n7_ := Aside0.mk ((by rw [hg]; exact (below_size (by repeat (first | (with_reducible first | exact HB.out | apply below_alloc | apply pw_below_drewN | apply below_drew1 | refine below_set ?_ GE559.out | refine below_set ?_ GE566.out) | exact HB.out))) : w.heap.size ≤ gb574)); have n8_ := Aside0.mk ((by rw [hg]; exact (below_size (by repeat (first | (with_reducible first | exact HB.out | apply below_alloc | apply pw_below_drewN | apply below_drew1 | refine below_set ?_ GE559.out | refine below_set ?_ GE566.out) | exact HB.out))) : w.heap.size ≤ gb574)); have n9_ := Aside0.mk ((by rw [hg]; exact Nat.ne_of_lt (blk_lt (g := gb559) (o := .cells #[.int .i64 a0_0, .int .i64 a0_1, .int .i64 a0_2, .int .i64 a0_3, .int .i64 a0_4, .int .i64 a0_5, .slice A0_6 l0_6.length c0_6] 25 (0, 0)) (by (with_reducible repeat (first | refine blk_drewN ?_ _ | refine blk_drew ?_ | refine blk_alloc ?_ _)); exact BK559.out)) : gb559 ≠ gb574)); have n10_ := Aside0.mk ((by rw [hg]; exact Nat.ne_of_gt (blk_lt (g := gb559) (o := .cells #[.int .i64 a0_0, .int .i64 a0_1, .int .i64 a0_2, .int .i64 a0_3, .int .i64 a0_4, .int .i64 a0_5, .slice A0_6 l0_6.length c0_6] 25 (0, 0)) (by (with_reducible repeat (first | refine blk_drewN ?_ _ | refine blk_drew ?_ | refine blk_alloc ?_ _)); exact BK559.out)) : gb574 ≠ gb559)); have n11_ := Aside0.mk ((by rw [hg]; exact Nat.ne_of_lt (blk_lt (g := gb566) (o := .cells #[.slice Ao11 t560.length co11, .slice Ao14 t563.length co14] 29 (0, 0)) (by (with_reducible repeat (first | refine blk_drewN ?_ _ | refine blk_drew ?_ | refine blk_alloc ?_ _)); exact BK566.out)) : gb566 ≠ gb574)); have n12_ := Aside0.mk ((by rw [hg]; exact Nat.ne_of_gt (blk_lt (g := gb566) (o := .cells #[.slice Ao11 t560.length co11, .slice Ao14 t563.length co14] 29 (0, 0)) (by (with_reducible repeat (first | refine blk_drewN ?_ _ | refine blk_drew ?_ | refine blk_alloc ?_ _)); exact BK566.out)) : gb574 ≠ gb566)); clear HO_567000; clear HO_567001; clear HO572; clear BK559; clear BK566; clear HB; have HO_567000 := n0_; have HO_567001 := n1_; have HO572 := n2_; have BK559 := n3_; have BK566 := n4_; have HB := n5_; have BK574 := n6_; have GW574 := n7_; have GE574 := n8_; have NB559_574 := n9_; have NB574_559 := n10_; have NB566_574 := n11_; have NB574_566 := n12_; clear n0_ n1_ n2_ n3_ n4_ n5_ n6_ n7_ n8_ n9_ n10_ n11_ n12_; clear hb hbox hg; have hnb24 := NB566_574.out; have hnc24 := NB574_566.out; have hcz25_0 : w23.cell? ⟨gb566, 0, none⟩ = some (.slice Ao11 t560.length co11) := (blk_cell BK566.out 0).trans rfl; have hcz25_1 : w23.cell? ⟨gb566, 1, none⟩ = some (.slice Ao14 t563.length co14) := (blk_cell BK566.out 1).trans rfl; have hfz25_0 := blk_frozen BK566.out 0; have hfz25_1 := blk_frozen BK566.out 1; have hnb26 := NB574_559.out; have hnc26 := NB559_574.out; have hcz27_0 : w23.cell? ⟨gb574, 0, none⟩ = some (.slice none 0 0) := (blk_cell BK574.out 0).trans rfl; have hcz27_1 : w23.cell? ⟨gb574, 1, none⟩ = some (.slice none 0 0) := (blk_cell BK574.out 1).trans rfl; have hfz27_0 := blk_frozen BK574.out 0; have hfz27_1 := blk_frozen BK574.out 1))
        go_loopg [14] kj5 (fun kq v14 w' => ∃ (x14_2 : Int) (x575001_2 : List (S42)) (u575001 : Value), v14 = .int .i64 x14_2 ∧ Aside0 (foretellkeep_StepTwice.l0 kq a2 t569 t570 t573 x14_2 t560 t563 t560 x575001_2 = some r) ∧ Aside0 (kq ≤ kj5) ∧ Aside0 (Kd.R (Kd.int .i64) 3 w' w.heap.size (fun _ => True) v571 t570) ∧ Aside0 (Kd.R k32 32 w' w.heap.size (fun _ => True) (.slice Ao11 t560.length co11) t560) ∧ Aside0 (Kd.N k42 42 w' w.heap.size (fun k_ => some k_ ≠ (v571 : Value).ownBlock ∧ some k_ ≠ ((.slice Ao11 t560.length co11) : Value).ownBlock ∧ some k_ ≠ ((.slice Ao11 t560.length co11) : Value).ownBlock ∧ some k_ ≠ (u575001 : Value).ownBlock ∧ k_ ≠ gb559 ∧ k_ ≠ gb566 ∧ k_ ≠ gb574) (.slice Ao14 t563.length co14) t563) ∧ Aside0 (Kd.R k32 32 w' w.heap.size (fun _ => True) (.slice Ao11 t560.length co11) t560) ∧ Aside0 (Kd.N k42 42 w' w.heap.size (fun k_ => some k_ ≠ (v571 : Value).ownBlock ∧ some k_ ≠ ((.slice Ao11 t560.length co11) : Value).ownBlock ∧ some k_ ≠ ((.slice Ao14 t563.length co14) : Value).ownBlock ∧ some k_ ≠ ((.slice Ao11 t560.length co11) : Value).ownBlock ∧ k_ ≠ gb559 ∧ k_ ≠ gb566 ∧ k_ ≠ gb574) u575001 x575001_2) ∧ Aside0 (w'.heap[gb559]? = some (.cells #[.int .i64 a0_0, .int .i64 a0_1, .int .i64 a0_2, .int .i64 a0_3, .int .i64 a0_4, .int .i64 a0_5, (.slice A0_6 l0_6.length c0_6)] 25 (0, 0))) ∧ Aside0 (w'.heap[gb566]? = some (.cells #[(.slice Ao11 t560.length co11), (.slice Ao14 t563.length co14)] 29 (0, 0))) ∧ Aside0 (w'.heap[gb574]? = some (.cells #[(.slice Ao11 t560.length co11), u575001] 29 (0, 0))) ∧ Aside0 (Below w.heap.size w w'))
        case atStart => exact ⟨(wrap64 ((t563.length : Int) - 1)), (([] : List (S42))), (.slice none 0 0), (by first | rfl | (simp; done) | (simp [*]; done)), H', ⟨Nat.le_refl _⟩, ⟨by (with_reducible repeat (first | apply Kd.R_alloc | apply Kd.R_drewN | apply Kd.R_drew)); exact Kd.R_mono (Kd.R_far (p := ⟨gb574, 0, none⟩) (Kd.R_types HO572.out BK574.out (by decide)) (fun _ hk => hk.2) (.slice Ao11 t560.length co11)) (fun _ hk => trivial)⟩, ⟨by (with_reducible repeat (first | apply Kd.R_alloc | apply Kd.R_drewN | apply Kd.R_drew)); exact Kd.R_mono (Kd.R_far (p := ⟨gb574, 0, none⟩) (Kd.R_types HO_567000.out BK574.out (by decide)) (fun _ hk => hk.2) (.slice Ao11 t560.length co11)) (fun _ hk => trivial)⟩, ⟨by (with_reducible repeat (first | apply Kd.N_alloc | apply Kd.N_drewN | apply Kd.N_drew)); exact Kd.N_mono (Kd.N_far (p := ⟨gb574, 0, none⟩) (Kd.N_mono HO_567001.out (fun k_ hk => (⟨hk, hk.2⟩ : _ ∧ k_ ≠ gb574))) (fun _ hk => hk.2) (.slice Ao11 t560.length co11)) (fun _ hk => ⟨hk.1.1.2, ⟨hk.1.1.1.1, ⟨hk.1.1.1.1, ⟨(by simp [Value.ownBlock]), ⟨hk.1.1.1.2.1, ⟨hk.1.1.1.2.2, hk.1.2⟩⟩⟩⟩⟩⟩)⟩, ⟨by (with_reducible repeat (first | apply Kd.R_alloc | apply Kd.R_drewN | apply Kd.R_drew)); exact Kd.R_mono (Kd.R_far (p := ⟨gb574, 0, none⟩) (Kd.R_types HO_567000.out BK574.out (by decide)) (fun _ hk => hk.2) (.slice Ao11 t560.length co11)) (fun _ hk => trivial)⟩, ⟨by first | exact Kd.R_nil _ _ _ _ _ | exact Kd.N_nil _ _ _ _ _ | exact Kd.V_nil _ _ _ _ _ | exact Kd.Q_nil _ _ _ _ _ | exact Kd.S_nil _ _ _ _ _⟩, ⟨by (with_reducible repeat (first | refine blk_drewN ?_ _ | refine blk_drew ?_ | refine blk_alloc ?_ _)); refine blk_far ?_ NB559_574.out _; (with_reducible repeat (first | refine blk_drewN ?_ _ | refine blk_drew ?_ | refine blk_alloc ?_ _)); exact BK559.out⟩, ⟨by (with_reducible repeat (first | refine blk_drewN ?_ _ | refine blk_drew ?_ | refine blk_alloc ?_ _)); refine blk_far ?_ NB566_574.out _; (with_reducible repeat (first | refine blk_drewN ?_ _ | refine blk_drew ?_ | refine blk_alloc ?_ _)); exact BK566.out⟩, ⟨by (with_reducible repeat (first | refine blk_drewN ?_ _ | refine blk_drew ?_ | refine blk_alloc ?_ _)); refine blk_put (cs := #[.slice none 0 0, .slice none 0 0]) ?_ 0 _ rfl; (with_reducible repeat (first | refine blk_drewN ?_ _ | refine blk_drew ?_ | refine blk_alloc ?_ _)); exact BK574.out⟩, ⟨by repeat (first | (with_reducible first | exact HB.out | apply below_alloc | apply pw_below_drewN | apply below_drew1 | refine below_set ?_ GE559.out | refine below_set ?_ GE566.out | refine below_set ?_ GE574.out) | exact HB.out)⟩⟩
        case round =>
          clear H'
          try clear c1
          try clear c2
          try clear p2
          try clear p6
          try clear c10
          try clear c12
          try clear c14
          try clear c15
          try clear c16
          try clear c16b0
          try clear c16b1
          try clear c17
          try clear c18
          try clear c20
          try clear c24
          try clear c26
          try clear hcz13_0
          try clear hcz13_1
          try clear hcz21_0
          try clear hcz21_1
          try clear hcz25_0
          try clear hcz25_1
          try clear hcz27_0
          try clear hcz27_1
          try clear hcz8_0
          try clear hcz8_1
          try clear hcz8_2
          try clear hcz8_3
          try clear hcz8_4
          try clear hcz8_5
          try clear hcz8_6
          try clear hfz13_0
          try clear hfz13_1
          try clear hfz21_0
          try clear hfz21_1
          try clear hfz25_0
          try clear hfz25_1
          try clear hfz27_0
          try clear hfz27_1
          try clear hfz8_0
          try clear hfz8_1
          try clear hfz8_2
          try clear hfz8_3
          try clear hfz8_4
          try clear hfz8_5
          try clear hfz8_6
          try clear p2
          obtain ⟨x14_2, x575001_2, u575001, rfl, HA, HK2, HO_11, HO_567000, HO_567001, HO_575000, HO_575001, BK559, BK566, BK574, HB⟩ := hrel
          cases gk with
          | zero => exact absurd HA.out (by simp [foretellkeep_StepTwice.l0])
          | succ k2 =>
            have H := HA.out
            clear HA
            simp only [foretellkeep_StepTwice.l0] at H
            by_cases c28 : x14_2 ≥ 0
            · rw [if_pos c28] at H
              have c28b0 : decide (0 ≤ x14_2) = true := decide_eq_true c28
              clear c28
              by_cases c29 : 0 ≤ x14_2
              · rw [if_pos c29] at H
                have c29b0 : decide (0 ≤ x14_2) = true := decide_eq_true c29
                clear c29
                by_cases c30 : x14_2 < (t563.length : Int)
                · rw [if_pos c30] at H
                  have c30b0 : decide (x14_2 < (t563.length : Int)) = true := decide_eq_true c30
                  clear c30
                  by_cases c31 : x575001_2.length < 2932031007402
                  · rw [if_pos c31] at H
                    have LMc31 := Aside0.mk c31
                    clear c31
                    obtain ⟨y576, hy576⟩ : ∃ y_ : List (S42), y_ = (x575001_2 ++ [(⟨(rd_T42 t563 x14_2).f0, (rd_T42 t563 x14_2).f1⟩ : S42)]) := ⟨_, rfl⟩
                    replace H : (foretellkeep_StepTwice.l0 k2 a2 t569 t570 t573 (wrap64 (x14_2 - 1)) t560 t563 t560 y576) = some r := by first | (rw [hy576]; with_reducible exact H) | (have H2_ := (Option.bind_some _ _).symm.trans H; rw [hy576]; with_reducible exact H2_) | (have H2_ := (Option.bind_some _ _).symm.trans H; with_reducible exact H2_) | with_reducible exact H | (rw [hy576]; exact H) | exact H
                    have Ny576 := Aside0.mk hy576
                    clear hy576
                    have H' := Aside0.mk H
                    clear H
                    try go_wp2
                    have n0_ := Aside0.mk (Kd.R_drew HO_11.out)
                    have n1_ := Aside0.mk (Kd.R_drew HO_567000.out)
                    have n2_ := Aside0.mk (Kd.N_drew HO_567001.out)
                    have n3_ := Aside0.mk (Kd.R_drew HO_575000.out)
                    have n4_ := Aside0.mk (Kd.N_drew HO_575001.out)
                    have n5_ := Aside0.mk (blk_drew BK559.out)
                    have n6_ := Aside0.mk (blk_drew BK566.out)
                    have n7_ := Aside0.mk (blk_drew BK574.out)
                    have n8_ := Aside0.mk (below_drew1 HB.out)
                    clear HO_11
                    clear HO_567000
                    clear HO_567001
                    clear HO_575000
                    clear HO_575001
                    clear BK559
                    clear BK566
                    clear BK574
                    clear HB
                    have HO_11 := n0_
                    have HO_567000 := n1_
                    have HO_567001 := n2_
                    have HO_575000 := n3_
                    have HO_575001 := n4_
                    have BK559 := n5_
                    have BK566 := n6_
                    have BK574 := n7_
                    have HB := n8_
                    clear n0_ n1_ n2_ n3_ n4_ n5_ n6_ n7_ n8_
                    have p575 : 0 ≤ (x14_2 : Int) := of_decide_eq_true (by first | (with_reducible assumption) | assumption)
                    have q575 : x14_2 < (t563.length : Int) := of_decide_eq_true (by first | (with_reducible assumption) | assumption)
                    obtain ⟨ad575, A575_0, c575_0, A575_1, c575_1, e575, hx575_0, hx575_1, hl575_0, hi575_0, hl575_1, hi575_1⟩ := at_T42 (Kd.N_reads' HO_567001.out).2.2 x14_2 p575 q575
                    cases e575
                    obtain ⟨ce575, hce575, hMe575, hcc575⟩ := Kd.N_get HO_567001.out z42 x14_2 p575 (by first | exact q575 | exact of_decide_eq_true (by first | (with_reducible assumption) | assumption) | (have e_ := (Kd.N_reads' HO_567001.out).1; omega))
                    obtain ⟨ua575_0, uc575_0, ua575_1, uc575_1, rfl, ul575_0, ge575_0, ul575_1, ge575_1⟩ := k42_openF hMe575
                    have hv575_0 := hcc575 0 _ rfl
                    rw [Nat.add_zero] at hv575_0
                    replace hv575_0 := Option.some.inj (hv575_0.symm.trans hx575_0)
                    injection hv575_0 with hva_ hvn_ hvc_
                    rw [hva_] at ge575_0
                    rw [hvc_] at ul575_0
                    have HL575_0 := Aside0.mk (show Kd.V k35 35 _ w.heap.size _ _ ((rd_T42 t563 x14_2).f0) from Kd.V_mk ul575_0 ge575_0)
                    clear hva_ hvn_ hvc_ ge575_0 ul575_0
                    have hv575_1 := hcc575 1 _ rfl
                    rw [add_field _ _ 1 (by omega)] at hv575_1
                    replace hv575_1 := Option.some.inj (hv575_1.symm.trans hx575_1)
                    injection hv575_1 with hva_ hvn_ hvc_
                    rw [hva_] at ge575_1
                    rw [hvc_] at ul575_1
                    have HL575_1 := Aside0.mk (show Kd.V k39 39 _ w.heap.size _ _ ((rd_T42 t563 x14_2).f1) from Kd.V_mk ul575_1 ge575_1)
                    clear hva_ hvn_ hvc_ ge575_1 ul575_1
                    clear hcc575 hce575
                    have HR575_0 := Aside0.mk hi575_0
                    have HC575_0 := Aside0.mk hl575_0
                    clear hi575_0 hl575_0
                    have HR575_1 := Aside0.mk hi575_1
                    have HC575_1 := Aside0.mk hl575_1
                    clear hi575_1 hl575_1
                    replace p575 := eq_true p575
                    replace q575 := eq_true q575
                    refine start_ (n := 11) (S := fun w' => w'.cell? ⟨gb574, 0, none⟩ = some (.slice Ao11 t560.length co11) ∧ w'.cell? ⟨gb574, 1, none⟩ = some (u575001) ∧ w'.cell? ⟨gb566, 0, none⟩ = some (.slice Ao11 t560.length co11) ∧ w'.cell? ⟨gb566, 1, none⟩ = some (.slice (some ad575) t563.length co14) ∧ w'.cell? (ad575.add ((x14_2).toNat * 2)) = some (.slice A575_0 ((rd_T42 t563 x14_2).f0).length c575_0) ∧ w'.cell? ⟨(ad575.add ((x14_2).toNat * 2)).block, (ad575.add ((x14_2).toNat * 2)).off + 1, none⟩ = some (.slice A575_1 ((rd_T42 t563 x14_2).f1).length c575_1)) (ds := [8, 10]) #[false, false, false, false, false, false, false, false, false, false, false] (by kernel_rfl) rfl rfl ⟨(blk_cell BK574.out 0).trans rfl, (blk_cell BK574.out 1).trans rfl, (blk_cell BK566.out 0).trans rfl, (blk_cell BK566.out 1).trans rfl, hx575_0, hx575_1⟩ (fun hHeld => ?_); refine with_tabW foretellkeep_StepTwice.tab12 foretellkeep_StepTwice.bits12 (fun HT_ HW_ => ?_)
                    generalize wr.drew = w32 at HO_11 HO_567000 HO_567001 HO_575000 HO_575001 BK559 BK566 BK574 HB HL575_0 HL575_1 HR575_0 HR575_1 hx575_0 hx575_1 hHeld ⊢
                    refine pure_ (i := 0) (N := some 51) (v := ?_) (a' := ?_) #[true, false, false, false, false, false, false, false, false, false, false] rfl rfl (any_of HT_.out (by kernel_rfl)) (fun _ _ _ h => h) (Or.inl ⟨by rfl, ?_⟩) ?_ ?_
                    rotate_left
                    · intro w'
                      go_simp
                      with_reducible rfl
                    rotate_left
                    · simp only [Act.put, List.setIfInBounds_toArray, List.set_cons_zero, List.set_cons_succ, i64_w, i32_w]
                      rfl
                    refine pure_ (i := 2) (N := some 53) (v := ?_) (a' := ?_) #[true, false, true, false, false, false, false, false, false, false, false] rfl rfl (any_of HT_.out (by kernel_rfl)) (fun _ _ _ h => h) (Or.inl ⟨by rfl, ?_⟩) ?_ ?_
                    rotate_left
                    · intro w'
                      go_simp
                      with_reducible rfl
                    rotate_left
                    · simp only [Act.put, List.setIfInBounds_toArray, List.set_cons_zero, List.set_cons_succ, i64_w, i32_w]
                      rfl
                    refine pure_ (i := 4) (N := some 55) (v := ?_) (a' := ?_) #[true, false, true, false, true, false, false, false, false, false, false] rfl rfl (any_of HT_.out (by kernel_rfl)) (fun _ _ _ h => h) (Or.inl ⟨by rfl, ?_⟩) ?_ ?_
                    rotate_left
                    · intro w'
                      go_simp
                      with_reducible rfl
                    rotate_left
                    · simp only [Act.put, List.setIfInBounds_toArray, List.set_cons_zero, List.set_cons_succ, i64_w, i32_w]
                      rfl
                    refine take_ (i := 1) (N := some 52) (v := ?_) (a' := ?_) #[true, true, true, false, true, false, false, false, false, false, false] rfl rfl (take_ofW HT_.out HW_.out (by kernel_rfl)) (fun _ _ _ h => h) (Or.inl ⟨by rfl, ?_⟩) hHeld ?_ ?_
                    rotate_left
                    · rintro w' ⟨s0, s1, s2, s3, s4, s5⟩
                      go_simp
                      with_reducible rfl
                    rotate_left
                    · simp only [Act.put, List.setIfInBounds_toArray, List.set_cons_zero, List.set_cons_succ, i64_w, i32_w]
                      rfl
                    refine take_ (i := 3) (N := some 54) (v := ?_) (a' := ?_) #[true, true, true, true, true, false, false, false, false, false, false] rfl rfl (take_ofW HT_.out HW_.out (by kernel_rfl)) (fun _ _ _ h => h) (Or.inl ⟨by rfl, ?_⟩) hHeld ?_ ?_
                    rotate_left
                    · rintro w' ⟨s0, s1, s2, s3, s4, s5⟩
                      go_simp
                      with_reducible rfl
                    rotate_left
                    · simp only [Act.put, List.setIfInBounds_toArray, List.set_cons_zero, List.set_cons_succ, i64_w, i32_w]
                      rfl
                    refine pure_ (i := 5) (N := some 56) (v := ?_) (a' := ?_) #[true, true, true, true, true, true, false, false, false, false, false] rfl rfl (any_of HT_.out (by kernel_rfl)) (fun _ _ _ h => h) (Or.inl ⟨by rfl, ?_⟩) ?_ ?_
                    rotate_left
                    · intro w'
                      go_simp
                      with_reducible rfl
                    rotate_left
                    · simp only [Act.put, List.setIfInBounds_toArray, List.set_cons_zero, List.set_cons_succ, i64_w, i32_w]
                      rfl
                    refine take_ (i := 6) (N := some 57) (v := ?_) (a' := ?_) #[true, true, true, true, true, true, true, false, false, false, false] rfl rfl (take_ofW HT_.out HW_.out (by kernel_rfl)) (fun _ _ _ h => h) (Or.inl ⟨by rfl, ?_⟩) hHeld ?_ ?_
                    rotate_left
                    · rintro w' ⟨s0, s1, s2, s3, s4, s5⟩
                      go_simp
                      with_reducible rfl
                    rotate_left
                    · simp only [Act.put, List.setIfInBounds_toArray, List.set_cons_zero, List.set_cons_succ, i64_w, i32_w]
                      rfl
                    refine one_ (i := 7) (N := some 58) #[true, true, true, true, true, true, true, true, false, false, false] rfl rfl (one_of HT_.out (by kernel_rfl)) (by decide) (fun K hK => ?_)
                    refine value_ (w1 := ?_) (v := ?_) (by rfl) rfl ?_ ?_
                    rotate_left 2
                    · go_simp
                      constructor
                      · rfl
                      · rfl
                    refine hK.out _ _ ⟨(blk_cell (blk_alloc BK574.out _) 0).trans rfl, (blk_cell (blk_alloc BK574.out _) 1).trans rfl, (blk_cell (blk_alloc BK566.out _) 0).trans rfl, (blk_cell (blk_alloc BK566.out _) 1).trans rfl, (World.cell?_alloc_lt _ _ _ (World.block_lt_of_cell? _ _ (hHeld.2.2.2.2.1))).trans (hHeld.2.2.2.2.1), (World.cell?_alloc_lt _ _ _ (World.block_lt_of_cell? _ _ (hHeld.2.2.2.2.2))).trans (hHeld.2.2.2.2.2)⟩ (fun hHeld => ?_)
                    clear hK K
                    refine norm_ (a' := ?_) ?_ ?_
                    rotate_left
                    · show Act.put _ (some 58) _ = _
                      simp only [Act.put, List.setIfInBounds_toArray, List.set_cons_zero, List.set_cons_succ, i64_w, i32_w]
                      rfl
                    refine last_ (i := 8) (N := some 59) #[true, true, true, true, true, true, true, true, true, false, false] rfl rfl (one_of HT_.out (by kernel_rfl)) (by decide) (fun K hK => ?_)
                    refine Kd.N_append_step k42 (w0 := w) w.heap.size (by rfl) (.tmp 52) (.tmp 58) 27 42 (.agg #[(.slice none 0 0), (.slice none 0 0)]) 48 rfl Tryd.underlying27 info42 rfl (by decide) (by omega) u575001 x575001_2 (⟨(rd_T42 t563 x14_2).f0, (rd_T42 t563 x14_2).f1⟩ : S42) [.slice A575_0 ((rd_T42 t563 x14_2).f0).length c575_0, .slice A575_1 ((rd_T42 t563 x14_2).f1).length c575_1] (fun k_ => some k_ ≠ (v571 : Value).ownBlock ∧ some k_ ≠ (.slice Ao11 t560.length co11 : Value).ownBlock ∧ some k_ ≠ (.slice (some ad575) t563.length co14 : Value).ownBlock ∧ some k_ ≠ (.slice Ao11 t560.length co11 : Value).ownBlock ∧ k_ ≠ gb559 ∧ k_ ≠ gb566 ∧ k_ ≠ gb574) (fun k_ => ((fun k_ => some k_ ≠ (v571 : Value).ownBlock ∧ some k_ ≠ (.slice Ao11 t560.length co11 : Value).ownBlock ∧ some k_ ≠ (.slice (some ad575) t563.length co14 : Value).ownBlock ∧ some k_ ≠ (.slice Ao11 t560.length co11 : Value).ownBlock ∧ k_ ≠ gb559 ∧ k_ ≠ gb566 ∧ k_ ≠ gb574)) k_ ∧ some k_ ≠ (u575001 : Value).ownBlock) rfl rfl ?aP (fun _ hk => hk) ?aF ?aO ?aB ?aS ?aL ?_
                    (case aP => exact (k42_mkF _ _ (⟨(rd_T42 t563 x14_2).f0, (rd_T42 t563 x14_2).f1⟩ : S42) (Kd.V_reads' (Kd.V_mono (ok' := (fun k_ => ((fun k_ => some k_ ≠ (v571 : Value).ownBlock ∧ some k_ ≠ (.slice Ao11 t560.length co11 : Value).ownBlock ∧ some k_ ≠ (.slice (some ad575) t563.length co14 : Value).ownBlock ∧ some k_ ≠ (.slice Ao11 t560.length co11 : Value).ownBlock ∧ k_ ≠ gb559 ∧ k_ ≠ gb566 ∧ k_ ≠ gb574)) k_ ∧ some k_ ≠ (u575001 : Value).ownBlock)) (HL575_0.out) (fun k_ hk => ⟨⟨hk.1.1, ⟨hk.1.2.1, ⟨hk.2, ⟨hk.1.2.2.1, ⟨hk.1.2.2.2.2.1, ⟨hk.1.2.2.2.2.2.1, hk.1.2.2.2.2.2.2⟩⟩⟩⟩⟩⟩, hk.1.2.2.2.1⟩))).2.1 (Kd.V_F (Kd.V_mono (ok' := (fun k_ => ((fun k_ => some k_ ≠ (v571 : Value).ownBlock ∧ some k_ ≠ (.slice Ao11 t560.length co11 : Value).ownBlock ∧ some k_ ≠ (.slice (some ad575) t563.length co14 : Value).ownBlock ∧ some k_ ≠ (.slice Ao11 t560.length co11 : Value).ownBlock ∧ k_ ≠ gb559 ∧ k_ ≠ gb566 ∧ k_ ≠ gb574)) k_ ∧ some k_ ≠ (u575001 : Value).ownBlock)) (HL575_0.out) (fun k_ hk => ⟨⟨hk.1.1, ⟨hk.1.2.1, ⟨hk.2, ⟨hk.1.2.2.1, ⟨hk.1.2.2.2.2.1, ⟨hk.1.2.2.2.2.2.1, hk.1.2.2.2.2.2.2⟩⟩⟩⟩⟩⟩, hk.1.2.2.2.1⟩))) (Kd.V_reads' (Kd.V_mono (ok' := (fun k_ => ((fun k_ => some k_ ≠ (v571 : Value).ownBlock ∧ some k_ ≠ (.slice Ao11 t560.length co11 : Value).ownBlock ∧ some k_ ≠ (.slice (some ad575) t563.length co14 : Value).ownBlock ∧ some k_ ≠ (.slice Ao11 t560.length co11 : Value).ownBlock ∧ k_ ≠ gb559 ∧ k_ ≠ gb566 ∧ k_ ≠ gb574)) k_ ∧ some k_ ≠ (u575001 : Value).ownBlock)) (HL575_1.out) (fun k_ hk => ⟨⟨hk.1.1, ⟨hk.1.2.1, ⟨hk.2, ⟨hk.1.2.2.1, ⟨hk.1.2.2.2.2.1, ⟨hk.1.2.2.2.2.2.1, hk.1.2.2.2.2.2.2⟩⟩⟩⟩⟩⟩, hk.1.2.2.2.1⟩))).2.1 (Kd.V_F (Kd.V_mono (ok' := (fun k_ => ((fun k_ => some k_ ≠ (v571 : Value).ownBlock ∧ some k_ ≠ (.slice Ao11 t560.length co11 : Value).ownBlock ∧ some k_ ≠ (.slice (some ad575) t563.length co14 : Value).ownBlock ∧ some k_ ≠ (.slice Ao11 t560.length co11 : Value).ownBlock ∧ k_ ≠ gb559 ∧ k_ ≠ gb566 ∧ k_ ≠ gb574)) k_ ∧ some k_ ≠ (u575001 : Value).ownBlock)) (HL575_1.out) (fun k_ hk => ⟨⟨hk.1.1, ⟨hk.1.2.1, ⟨hk.2, ⟨hk.1.2.2.1, ⟨hk.1.2.2.2.2.1, ⟨hk.1.2.2.2.2.2.1, hk.1.2.2.2.2.2.2⟩⟩⟩⟩⟩⟩, hk.1.2.2.2.1⟩)))))
                    (case aB => exact (by repeat (first | (with_reducible first | exact HB.out | apply below_alloc | apply pw_below_drewN | apply below_drew1 | refine below_set ?_ GE559.out | refine below_set ?_ GE566.out | refine below_set ?_ GE574.out) | exact HB.out)))
                    (case aF => exact (fun k_ hk => ⟨Kd.fresh' (Kd.R_lt (by (with_reducible repeat (first | apply Kd.R_alloc | apply Kd.R_drewN | apply Kd.R_drew)); exact HO_11.out)) k_ hk, Kd.fresh' (Kd.R_lt (by (with_reducible repeat (first | apply Kd.R_alloc | apply Kd.R_drewN | apply Kd.R_drew)); exact HO_567000.out)) k_ hk, Kd.fresh' (Kd.N_lt (by (with_reducible repeat (first | apply Kd.N_alloc | apply Kd.N_drewN | apply Kd.N_drew)); exact HO_567001.out)) k_ hk, Kd.fresh' (Kd.R_lt (by (with_reducible repeat (first | apply Kd.R_alloc | apply Kd.R_drewN | apply Kd.R_drew)); exact HO_575000.out)) k_ hk, Kd.freshB (g := gb559) (o := .cells #[.int .i64 a0_0, .int .i64 a0_1, .int .i64 a0_2, .int .i64 a0_3, .int .i64 a0_4, .int .i64 a0_5, .slice A0_6 l0_6.length c0_6] 25 (0, 0)) (by (with_reducible repeat (first | refine blk_drewN ?_ _ | refine blk_drew ?_ | refine blk_alloc ?_ _)); exact BK559.out) k_ hk, Kd.freshB (g := gb566) (o := .cells #[.slice Ao11 t560.length co11, .slice (some ad575) t563.length co14] 29 (0, 0)) (by (with_reducible repeat (first | refine blk_drewN ?_ _ | refine blk_drew ?_ | refine blk_alloc ?_ _)); exact BK566.out) k_ hk, Kd.freshB (g := gb574) (o := .cells #[.slice Ao11 t560.length co11, u575001] 29 (0, 0)) (by (with_reducible repeat (first | refine blk_drewN ?_ _ | refine blk_drew ?_ | refine blk_alloc ?_ _)); exact BK574.out) k_ hk⟩))
                    (case aO => exact (by (with_reducible repeat (first | apply Kd.N_alloc | apply Kd.N_drewN | apply Kd.N_drew)); exact HO_575001.out))
                    (case aS => exact (below_size (by repeat (first | (with_reducible first | exact HB.out | apply below_alloc | apply pw_below_drewN | apply below_drew1 | refine below_set ?_ GE559.out | refine below_set ?_ GE566.out | refine below_set ?_ GE574.out) | exact HB.out))))
                    (case aL => have := LMc31.out; omega)
                    intro v577 w33 ho hb hg hat
                    rw [← Ny576.out] at ho
                    have n0_ := Aside0.mk (Kd.R_over' (by (with_reducible repeat (first | apply Kd.R_alloc | apply Kd.R_drewN | apply Kd.R_drew)); exact HO_11.out) (Kd.N_typed (by (with_reducible repeat (first | apply Kd.N_alloc | apply Kd.N_drewN | apply Kd.N_drew)); exact HO_575001.out)) (by decide) hg)
                    have n1_ := Aside0.mk (Kd.R_over' (by (with_reducible repeat (first | apply Kd.R_alloc | apply Kd.R_drewN | apply Kd.R_drew)); exact HO_567000.out) (Kd.N_typed (by (with_reducible repeat (first | apply Kd.N_alloc | apply Kd.N_drewN | apply Kd.N_drew)); exact HO_575001.out)) (by decide) hg)
                    have n2_ := Aside0.mk (Kd.N_afterv (ok := (fun k_ => some k_ ≠ (v571 : Value).ownBlock ∧ some k_ ≠ (.slice Ao11 t560.length co11 : Value).ownBlock ∧ some k_ ≠ (.slice Ao11 t560.length co11 : Value).ownBlock ∧ k_ ≠ gb559 ∧ k_ ≠ gb566 ∧ k_ ≠ gb574)) (by (with_reducible repeat (first | apply Kd.N_alloc | apply Kd.N_drewN | apply Kd.N_drew)); exact Kd.N_mono HO_567001.out (fun _ hk => ⟨⟨hk.1, ⟨hk.2.1, ⟨hk.2.2.1, ⟨hk.2.2.2.2.1, ⟨hk.2.2.2.2.2.1, hk.2.2.2.2.2.2⟩⟩⟩⟩⟩, hk.2.2.2.1⟩)) hg hat)
                    have n3_ := Aside0.mk (Kd.R_over' (by (with_reducible repeat (first | apply Kd.R_alloc | apply Kd.R_drewN | apply Kd.R_drew)); exact HO_575000.out) (Kd.N_typed (by (with_reducible repeat (first | apply Kd.N_alloc | apply Kd.N_drewN | apply Kd.N_drew)); exact HO_575001.out)) (by decide) hg)
                    have n4_ := Aside0.mk (blk_grown (g := gb559) (o := .cells #[.int .i64 a0_0, .int .i64 a0_1, .int .i64 a0_2, .int .i64 a0_3, .int .i64 a0_4, .int .i64 a0_5, .slice A0_6 l0_6.length c0_6] 25 (0, 0)) (by (with_reducible repeat (first | refine blk_drewN ?_ _ | refine blk_drew ?_ | refine blk_alloc ?_ _)); exact BK559.out) hg (Kd.N_ne HO_575001.out BK559.out (by decide)))
                    have n5_ := Aside0.mk (blk_grown (g := gb566) (o := .cells #[.slice Ao11 t560.length co11, .slice (some ad575) t563.length co14] 29 (0, 0)) (by (with_reducible repeat (first | refine blk_drewN ?_ _ | refine blk_drew ?_ | refine blk_alloc ?_ _)); exact BK566.out) hg (Kd.N_ne HO_575001.out BK566.out (by decide)))
                    have n6_ := Aside0.mk (blk_grown (g := gb574) (o := .cells #[.slice Ao11 t560.length co11, u575001] 29 (0, 0)) (by (with_reducible repeat (first | refine blk_drewN ?_ _ | refine blk_drew ?_ | refine blk_alloc ?_ _)); exact BK574.out) hg (Kd.N_ne HO_575001.out BK574.out (by decide)))
                    have n7_ := Aside0.mk (Kd.V_afterv (ok := (fun k_ => some k_ ≠ (v571 : Value).ownBlock ∧ some k_ ≠ (.slice Ao11 t560.length co11 : Value).ownBlock ∧ some k_ ≠ (.slice (some ad575) t563.length co14 : Value).ownBlock ∧ some k_ ≠ (.slice Ao11 t560.length co11 : Value).ownBlock ∧ k_ ≠ gb559 ∧ k_ ≠ gb566 ∧ k_ ≠ gb574)) (by (with_reducible repeat (first | apply Kd.V_alloc | apply Kd.V_drewN | apply Kd.V_drew)); exact Kd.V_mono HL575_0.out (fun _ hk => ⟨⟨hk.1.1, ⟨hk.1.2.1, ⟨hk.2, ⟨hk.1.2.2.1, ⟨hk.1.2.2.2.2.1, ⟨hk.1.2.2.2.2.2.1, hk.1.2.2.2.2.2.2⟩⟩⟩⟩⟩⟩, hk.1.2.2.2.1⟩)) hg hat)
                    have n8_ := Aside0.mk (Kd.V_afterv (ok := (fun k_ => some k_ ≠ (v571 : Value).ownBlock ∧ some k_ ≠ (.slice Ao11 t560.length co11 : Value).ownBlock ∧ some k_ ≠ (.slice (some ad575) t563.length co14 : Value).ownBlock ∧ some k_ ≠ (.slice Ao11 t560.length co11 : Value).ownBlock ∧ k_ ≠ gb559 ∧ k_ ≠ gb566 ∧ k_ ≠ gb574)) (by (with_reducible repeat (first | apply Kd.V_alloc | apply Kd.V_drewN | apply Kd.V_drew)); exact Kd.V_mono HL575_1.out (fun _ hk => ⟨⟨hk.1.1, ⟨hk.1.2.1, ⟨hk.2, ⟨hk.1.2.2.1, ⟨hk.1.2.2.2.2.1, ⟨hk.1.2.2.2.2.2.1, hk.1.2.2.2.2.2.2⟩⟩⟩⟩⟩⟩, hk.1.2.2.2.1⟩)) hg hat)
                    have n9_ := Aside0.mk (hb)
                    have n10_ := Aside0.mk (ho)
                    clear HO_11
                    clear HO_567000
                    clear HO_567001
                    clear HO_575000
                    clear BK559
                    clear BK566
                    clear BK574
                    clear HL575_0
                    clear HL575_1
                    clear HB
                    clear HO_575001
                    have HO_11 := n0_
                    have HO_567000 := n1_
                    have HO_567001 := n2_
                    have HO_575000 := n3_
                    have BK559 := n4_
                    have BK566 := n5_
                    have BK574 := n6_
                    have HL575_0 := n7_
                    have HL575_1 := n8_
                    have HB := n9_
                    have HO578 := n10_
                    clear n0_ n1_ n2_ n3_ n4_ n5_ n6_ n7_ n8_ n9_ n10_
                    clear ho hb hg hat
                    obtain ⟨Ao34, co34, eo34⟩ := Kd.N_slice HO578.out
                    (first | subst eo34 | (injection eo34 with f1_ f2_ f3_; have f4_ := f1_.symm; have f5_ := f3_.symm; clear f1_ f2_ f3_; subst f4_; subst f5_))
                    refine hK.out _ _ ?_
                    clear hK K
                    refine norm_ (a' := ?_) ?_ ?_
                    rotate_left
                    · show Act.put _ (some 59) _ = _
                      simp only [Act.put, List.setIfInBounds_toArray, List.set_cons_zero, List.set_cons_succ, i64_w, i32_w]
                      rfl
                    refine pure_ (i := 9) (N := some 60) (v := ?_) (a' := ?_) #[true, true, true, true, true, true, true, true, true, true, false] rfl rfl (any_of HT_.out (by kernel_rfl)) (fun _ _ _ h => h) (Or.inl ⟨by rfl, ?_⟩) ?_ ?_
                    rotate_left
                    · intro w'
                      go_simp
                      with_reducible rfl
                    rotate_left
                    · simp only [Act.put, List.setIfInBounds_toArray, List.set_cons_zero, List.set_cons_succ, i64_w, i32_w]
                      rfl
                    refine last_ (i := 10) (N := none) #[true, true, true, true, true, true, true, true, true, true, true] rfl rfl (one_of HT_.out (by kernel_rfl)) (by decide) (fun K hK => ?_)
                    have hs35 : w33.cell? ⟨gb574, 1, none⟩ = some (u575001) := (blk_cell BK574.out 1).trans rfl
                    have hfs35 := blk_frozen BK574.out 1
                    have hns35_0 := NB559_574.out
                    have hns35_1 := NB566_574.out
                    have hms35_0 := NB574_559.out
                    have hms35_1 := NB574_566.out
                    refine skip_ (w1 := ?_) (by rfl) rfl ?_ ?_
                    rotate_left
                    · go_simp
                      rfl
                    refine hK.out _ _ ?_
                    clear hK K
                    refine done_ (done_of HT_.out (by kernel_rfl)) ?_
                    try go_wp2
                    go_roundg k2
                    case measure => have := HJ5.out; have := HK2.out; omega
                    case rel => exact ⟨(wrap64 (x14_2 - 1)), (y576), (.slice Ao34 y576.length co34), (by first | rfl | (simp; done) | (simp [*]; done)), H', ⟨by have := HJ5.out; have := HK2.out; omega⟩, ⟨by (with_reducible repeat (first | apply Kd.R_alloc | apply Kd.R_drewN | apply Kd.R_drew)); exact Kd.R_mono (Kd.R_far (p := ⟨gb574, 1, none⟩) (Kd.R_types HO_11.out BK574.out (by decide)) (fun _ hk => hk.2) (.slice Ao34 y576.length co34)) (fun _ hk => trivial)⟩, ⟨by (with_reducible repeat (first | apply Kd.R_alloc | apply Kd.R_drewN | apply Kd.R_drew)); exact Kd.R_mono (Kd.R_far (p := ⟨gb574, 1, none⟩) (Kd.R_types HO_567000.out BK574.out (by decide)) (fun _ hk => hk.2) (.slice Ao34 y576.length co34)) (fun _ hk => trivial)⟩, ⟨by (with_reducible repeat (first | apply Kd.N_alloc | apply Kd.N_drewN | apply Kd.N_drew)); exact Kd.N_mono (Kd.N_far (p := ⟨gb574, 1, none⟩) (Kd.N_mono HO_567001.out (fun k_ hk => (⟨hk, hk.1.2.2.2.2.2⟩ : _ ∧ k_ ≠ gb574))) (fun _ hk => hk.2) (.slice Ao34 y576.length co34)) (fun _ hk => ⟨hk.1.1.1, ⟨hk.1.1.2.1, ⟨hk.1.1.2.2.1, ⟨hk.1.2, ⟨hk.1.1.2.2.2.1, ⟨hk.1.1.2.2.2.2.1, hk.1.1.2.2.2.2.2⟩⟩⟩⟩⟩⟩)⟩, ⟨by (with_reducible repeat (first | apply Kd.R_alloc | apply Kd.R_drewN | apply Kd.R_drew)); exact Kd.R_mono (Kd.R_far (p := ⟨gb574, 1, none⟩) (Kd.R_types HO_575000.out BK574.out (by decide)) (fun _ hk => hk.2) (.slice Ao34 y576.length co34)) (fun _ hk => trivial)⟩, ⟨by (with_reducible repeat (first | apply Kd.N_alloc | apply Kd.N_drewN | apply Kd.N_drew)); exact Kd.N_mono (Kd.N_far (p := ⟨gb574, 1, none⟩) (Kd.N_mono HO578.out (fun k_ hk => (⟨hk, hk.2.2.2.2.2.2⟩ : _ ∧ k_ ≠ gb574))) (fun _ hk => hk.2) (.slice Ao34 y576.length co34)) (fun _ hk => ⟨hk.1.1, ⟨hk.1.2.1, ⟨hk.1.2.2.1, ⟨hk.1.2.2.2.1, ⟨hk.1.2.2.2.2.1, ⟨hk.1.2.2.2.2.2.1, hk.1.2.2.2.2.2.2⟩⟩⟩⟩⟩⟩)⟩, ⟨by (with_reducible repeat (first | refine blk_drewN ?_ _ | refine blk_drew ?_ | refine blk_alloc ?_ _)); refine blk_far ?_ NB559_574.out _; (with_reducible repeat (first | refine blk_drewN ?_ _ | refine blk_drew ?_ | refine blk_alloc ?_ _)); exact BK559.out⟩, ⟨by (with_reducible repeat (first | refine blk_drewN ?_ _ | refine blk_drew ?_ | refine blk_alloc ?_ _)); refine blk_far ?_ NB566_574.out _; (with_reducible repeat (first | refine blk_drewN ?_ _ | refine blk_drew ?_ | refine blk_alloc ?_ _)); exact BK566.out⟩, ⟨by (with_reducible repeat (first | refine blk_drewN ?_ _ | refine blk_drew ?_ | refine blk_alloc ?_ _)); refine blk_put (cs := #[.slice Ao11 t560.length co11, u575001]) ?_ 1 _ rfl; (with_reducible repeat (first | refine blk_drewN ?_ _ | refine blk_drew ?_ | refine blk_alloc ?_ _)); exact BK574.out⟩, ⟨by repeat (first | (with_reducible first | exact HB.out | apply below_alloc | apply pw_below_drewN | apply below_drew1 | refine below_set ?_ GE559.out | refine below_set ?_ GE566.out | refine below_set ?_ GE574.out) | exact HB.out)⟩⟩
                  · rw [if_neg c31] at H
                    exact absurd H (by simp)
                · rw [if_neg c30] at H
                  exact absurd H (by simp)
              · rw [if_neg c29] at H
                exact absurd H (by simp)
            · rw [if_neg c28] at H
              have c28b0 : decide (0 ≤ x14_2) = false := decide_eq_false c28
              clear c28
              have HC36 := Aside0.mk H
              clear H
              have hnb37 := NB566_559.out
              have hnc37 := NB559_566.out
              have hnb38 := NB566_574.out
              have hnc38 := NB574_566.out
              have hcz39_0 : wr.cell? ⟨gb566, 0, none⟩ = some (.slice Ao11 t560.length co11) := (blk_cell BK566.out 0).trans rfl
              have hcz39_1 : wr.cell? ⟨gb566, 1, none⟩ = some (.slice Ao14 t563.length co14) := (blk_cell BK566.out 1).trans rfl
              have hfz39_0 := blk_frozen BK566.out 0
              have hfz39_1 := blk_frozen BK566.out 1
              go_upto_if 64 with (fail)
              go_cut [] (fun wc => ∃ (kq : Nat) (x575001_35 : List (S42)) (u575001 : Value), Aside0 (foretellkeep_StepTwice.j2 kq t569 t570 t573 t560 x575001_35 = some r) ∧ Aside0 (kq ≤ k2) ∧ Aside0 (Kd.R (Kd.int .i64) 3 wc w.heap.size (fun _ => True) v571 t570) ∧ Aside0 (Kd.R k32 32 wc w.heap.size (fun _ => True) (.slice Ao11 t560.length co11) t560) ∧ Aside0 (Kd.N k42 42 wc w.heap.size (fun k_ => some k_ ≠ (v571 : Value).ownBlock ∧ some k_ ≠ ((.slice Ao11 t560.length co11) : Value).ownBlock ∧ some k_ ≠ ((.slice Ao11 t560.length co11) : Value).ownBlock ∧ some k_ ≠ (u575001 : Value).ownBlock ∧ k_ ≠ gb559 ∧ k_ ≠ gb566 ∧ k_ ≠ gb574) (.slice Ao14 t563.length co14) t563) ∧ Aside0 (Kd.R k32 32 wc w.heap.size (fun _ => True) (.slice Ao11 t560.length co11) t560) ∧ Aside0 (Kd.N k42 42 wc w.heap.size (fun k_ => some k_ ≠ (v571 : Value).ownBlock ∧ some k_ ≠ ((.slice Ao11 t560.length co11) : Value).ownBlock ∧ some k_ ≠ ((.slice Ao14 t563.length co14) : Value).ownBlock ∧ some k_ ≠ ((.slice Ao11 t560.length co11) : Value).ownBlock ∧ k_ ≠ gb559 ∧ k_ ≠ gb566 ∧ k_ ≠ gb574) u575001 x575001_35) ∧ Aside0 (wc.heap[gb559]? = some (.cells #[.int .i64 a0_0, .int .i64 a0_1, .int .i64 a0_2, .int .i64 a0_3, .int .i64 a0_4, .int .i64 a0_5, (.slice A0_6 l0_6.length c0_6)] 25 (0, 0))) ∧ Aside0 (wc.heap[gb566]? = some (.cells #[(.slice Ao11 t560.length co11), (.slice Ao14 t563.length co14)] 29 (0, 0))) ∧ Aside0 (wc.heap[gb574]? = some (.cells #[(.slice Ao11 t560.length co11), u575001] 29 (0, 0))) ∧ Aside0 (Below w.heap.size w wc))
              case first =>
                have H := HC36.out
                clear HC36
                by_cases c40 : (t563.length : Int) > 0
                · rw [if_pos c40] at H
                  have c40b0 : decide (0 < (t563.length : Int)) = true := decide_eq_true c40
                  have c40b1 : decide (0 < t563.length) = true := decide_eq_true (by omega)
                  clear c40
                  (first | rw [c40b0] | (simp only [i64_w, i32_w]; rw [c40b0]) | rw [c40b1] | skip)
                  replace H := Option.bind_eq_some_iff.mp H
                  obtain ⟨t579, A410, H⟩ := H
                  replace H : (if 0 ≤ t579 then (if t579 < (t563.length : Int) then (if x575001_2.length < 2932031007402 then (foretellkeep_StepTwice.j2 k2 t569 t570 t573 t560 (x575001_2 ++ [(⟨(rd_T42 t563 t579).f0, (rd_T42 t563 t579).f1⟩ : S42)])) else (none)) else (none)) else (none)) = some r := H
                  have A41 := Aside0.mk A410
                  clear A410
                  by_cases c42 : 0 ≤ t579
                  · rw [if_pos c42] at H
                    have c42b0 : decide (0 ≤ t579) = true := decide_eq_true c42
                    clear c42
                    by_cases c43 : t579 < (t563.length : Int)
                    · rw [if_pos c43] at H
                      have c43b0 : decide (t579 < (t563.length : Int)) = true := decide_eq_true c43
                      clear c43
                      by_cases c44 : x575001_2.length < 2932031007402
                      · rw [if_pos c44] at H
                        have LMc44 := Aside0.mk c44
                        clear c44
                        obtain ⟨y581, hy581⟩ : ∃ y_ : List (S42), y_ = (x575001_2 ++ [(⟨(rd_T42 t563 t579).f0, (rd_T42 t563 t579).f1⟩ : S42)]) := ⟨_, rfl⟩
                        replace H : (foretellkeep_StepTwice.j2 k2 t569 t570 t573 t560 y581) = some r := by first | (rw [hy581]; with_reducible exact H) | (have H2_ := (Option.bind_some _ _).symm.trans H; rw [hy581]; with_reducible exact H2_) | (have H2_ := (Option.bind_some _ _).symm.trans H; with_reducible exact H2_) | with_reducible exact H | (rw [hy581]; exact H) | exact H
                        have Ny581 := Aside0.mk hy581
                        clear hy581
                        have H' := Aside0.mk H
                        clear H
                        try go_wp2
                        have n0_ := Aside0.mk (Kd.R_drew HO_11.out)
                        have n1_ := Aside0.mk (Kd.R_drew HO_567000.out)
                        have n2_ := Aside0.mk (Kd.N_drew HO_567001.out)
                        have n3_ := Aside0.mk (Kd.R_drew HO_575000.out)
                        have n4_ := Aside0.mk (Kd.N_drew HO_575001.out)
                        have n5_ := Aside0.mk (blk_drew BK559.out)
                        have n6_ := Aside0.mk (blk_drew BK566.out)
                        have n7_ := Aside0.mk (blk_drew BK574.out)
                        have n8_ := Aside0.mk (below_drew1 HB.out)
                        clear HO_11
                        clear HO_567000
                        clear HO_567001
                        clear HO_575000
                        clear HO_575001
                        clear BK559
                        clear BK566
                        clear BK574
                        clear HB
                        have HO_11 := n0_
                        have HO_567000 := n1_
                        have HO_567001 := n2_
                        have HO_575000 := n3_
                        have HO_575001 := n4_
                        have BK559 := n5_
                        have BK566 := n6_
                        have BK574 := n7_
                        have HB := n8_
                        clear n0_ n1_ n2_ n3_ n4_ n5_ n6_ n7_ n8_
                        have p580 : 0 ≤ (t579 : Int) := of_decide_eq_true (by first | (with_reducible assumption) | assumption)
                        have q580 : t579 < (t563.length : Int) := of_decide_eq_true (by first | (with_reducible assumption) | assumption)
                        obtain ⟨ad580, A580_0, c580_0, A580_1, c580_1, e580, hx580_0, hx580_1, hl580_0, hi580_0, hl580_1, hi580_1⟩ := at_T42 (Kd.N_reads' HO_567001.out).2.2 t579 p580 q580
                        cases e580
                        obtain ⟨ce580, hce580, hMe580, hcc580⟩ := Kd.N_get HO_567001.out z42 t579 p580 (by first | exact q580 | exact of_decide_eq_true (by first | (with_reducible assumption) | assumption) | (have e_ := (Kd.N_reads' HO_567001.out).1; omega))
                        obtain ⟨ua580_0, uc580_0, ua580_1, uc580_1, rfl, ul580_0, ge580_0, ul580_1, ge580_1⟩ := k42_openF hMe580
                        have hv580_0 := hcc580 0 _ rfl
                        rw [Nat.add_zero] at hv580_0
                        replace hv580_0 := Option.some.inj (hv580_0.symm.trans hx580_0)
                        injection hv580_0 with hva_ hvn_ hvc_
                        rw [hva_] at ge580_0
                        rw [hvc_] at ul580_0
                        have HL580_0 := Aside0.mk (show Kd.V k35 35 _ w.heap.size _ _ ((rd_T42 t563 t579).f0) from Kd.V_mk ul580_0 ge580_0)
                        clear hva_ hvn_ hvc_ ge580_0 ul580_0
                        have hv580_1 := hcc580 1 _ rfl
                        rw [add_field _ _ 1 (by omega)] at hv580_1
                        replace hv580_1 := Option.some.inj (hv580_1.symm.trans hx580_1)
                        injection hv580_1 with hva_ hvn_ hvc_
                        rw [hva_] at ge580_1
                        rw [hvc_] at ul580_1
                        have HL580_1 := Aside0.mk (show Kd.V k39 39 _ w.heap.size _ _ ((rd_T42 t563 t579).f1) from Kd.V_mk ul580_1 ge580_1)
                        clear hva_ hvn_ hvc_ ge580_1 ul580_1
                        clear hcc580 hce580
                        have HR580_0 := Aside0.mk hi580_0
                        have HC580_0 := Aside0.mk hl580_0
                        clear hi580_0 hl580_0
                        have HR580_1 := Aside0.mk hi580_1
                        have HC580_1 := Aside0.mk hl580_1
                        clear hi580_1 hl580_1
                        replace p580 := eq_true p580
                        replace q580 := eq_true q580
                        refine start_ (n := 15) (S := fun w' => w'.cell? ⟨gb574, 0, none⟩ = some (.slice Ao11 t560.length co11) ∧ w'.cell? ⟨gb574, 1, none⟩ = some (u575001) ∧ w'.cell? ⟨gb566, 0, none⟩ = some (.slice Ao11 t560.length co11) ∧ w'.cell? ⟨gb566, 1, none⟩ = some (.slice (some ad580) t563.length co14) ∧ w'.cell? (ad580.add ((t579).toNat * 2)) = some (.slice A580_0 ((rd_T42 t563 t579).f0).length c580_0) ∧ w'.cell? ⟨(ad580.add ((t579).toNat * 2)).block, (ad580.add ((t579).toNat * 2)).off + 1, none⟩ = some (.slice A580_1 ((rd_T42 t563 t579).f1).length c580_1)) (ds := [12, 14]) #[false, false, false, false, false, false, false, false, false, false, false, false, false, false, false] (by kernel_rfl) rfl rfl ⟨(blk_cell BK574.out 0).trans rfl, (blk_cell BK574.out 1).trans rfl, (blk_cell BK566.out 0).trans rfl, (blk_cell BK566.out 1).trans rfl, hx580_0, hx580_1⟩ (fun hHeld => ?_); refine with_tabW foretellkeep_StepTwice.tab14 foretellkeep_StepTwice.bits14 (fun HT_ HW_ => ?_)
                        generalize wr.drew = w45 at HO_11 HO_567000 HO_567001 HO_575000 HO_575001 BK559 BK566 BK574 HB HL580_0 HL580_1 HR580_0 HR580_1 hx580_0 hx580_1 hHeld ⊢
                        refine pure_ (i := 0) (N := some 65) (v := ?_) (a' := ?_) #[true, false, false, false, false, false, false, false, false, false, false, false, false, false, false] rfl rfl (any_of HT_.out (by kernel_rfl)) (fun _ _ _ h => h) (Or.inl ⟨by rfl, ?_⟩) ?_ ?_
                        rotate_left
                        · intro w'
                          go_simp
                          with_reducible rfl
                        rotate_left
                        · simp only [Act.put, List.setIfInBounds_toArray, List.set_cons_zero, List.set_cons_succ, i64_w, i32_w]
                          rfl
                        refine pure_ (i := 2) (N := some 67) (v := ?_) (a' := ?_) #[true, false, true, false, false, false, false, false, false, false, false, false, false, false, false] rfl rfl (any_of HT_.out (by kernel_rfl)) (fun _ _ _ h => h) (Or.inl ⟨by rfl, ?_⟩) ?_ ?_
                        rotate_left
                        · intro w'
                          go_simp
                          with_reducible rfl
                        rotate_left
                        · simp only [Act.put, List.setIfInBounds_toArray, List.set_cons_zero, List.set_cons_succ, i64_w, i32_w]
                          rfl
                        refine pure_ (i := 4) (N := some 69) (v := ?_) (a' := ?_) #[true, false, true, false, true, false, false, false, false, false, false, false, false, false, false] rfl rfl (any_of HT_.out (by kernel_rfl)) (fun _ _ _ h => h) (Or.inl ⟨by rfl, ?_⟩) ?_ ?_
                        rotate_left
                        · intro w'
                          go_simp
                          with_reducible rfl
                        rotate_left
                        · simp only [Act.put, List.setIfInBounds_toArray, List.set_cons_zero, List.set_cons_succ, i64_w, i32_w]
                          rfl
                        refine pure_ (i := 5) (N := some 70) (v := ?_) (a' := ?_) #[true, false, true, false, true, true, false, false, false, false, false, false, false, false, false] rfl rfl (any_of HT_.out (by kernel_rfl)) (fun _ _ _ h => h) (Or.inl ⟨by rfl, ?_⟩) ?_ ?_
                        rotate_left
                        · intro w'
                          go_simp
                          with_reducible rfl
                        rotate_left
                        · simp only [Act.put, List.setIfInBounds_toArray, List.set_cons_zero, List.set_cons_succ, i64_w, i32_w]
                          rfl
                        refine take_ (i := 1) (N := some 66) (v := ?_) (a' := ?_) #[true, true, true, false, true, true, false, false, false, false, false, false, false, false, false] rfl rfl (take_ofW HT_.out HW_.out (by kernel_rfl)) (fun _ _ _ h => h) (Or.inl ⟨by rfl, ?_⟩) hHeld ?_ ?_
                        rotate_left
                        · rintro w' ⟨s0, s1, s2, s3, s4, s5⟩
                          go_simp
                          with_reducible rfl
                        rotate_left
                        · simp only [Act.put, List.setIfInBounds_toArray, List.set_cons_zero, List.set_cons_succ, i64_w, i32_w]
                          rfl
                        refine take_ (i := 3) (N := some 68) (v := ?_) (a' := ?_) #[true, true, true, true, true, true, false, false, false, false, false, false, false, false, false] rfl rfl (take_ofW HT_.out HW_.out (by kernel_rfl)) (fun _ _ _ h => h) (Or.inl ⟨by rfl, ?_⟩) hHeld ?_ ?_
                        rotate_left
                        · rintro w' ⟨s0, s1, s2, s3, s4, s5⟩
                          go_simp
                          with_reducible rfl
                        rotate_left
                        · simp only [Act.put, List.setIfInBounds_toArray, List.set_cons_zero, List.set_cons_succ, i64_w, i32_w]
                          rfl
                        refine take_ (i := 6) (N := some 71) (v := ?_) (a' := ?_) #[true, true, true, true, true, true, true, false, false, false, false, false, false, false, false] rfl rfl (take_ofW HT_.out HW_.out (by kernel_rfl)) (fun _ _ _ h => h) (Or.inl ⟨by rfl, ?_⟩) hHeld ?_ ?_
                        rotate_left
                        · rintro w' ⟨s0, s1, s2, s3, s4, s5⟩
                          go_simp
                          with_reducible rfl
                        rotate_left
                        · simp only [Act.put, List.setIfInBounds_toArray, List.set_cons_zero, List.set_cons_succ, i64_w, i32_w]
                          rfl
                        refine pure_ (i := 7) (N := some 72) (v := ?_) (a' := ?_) #[true, true, true, true, true, true, true, true, false, false, false, false, false, false, false] rfl rfl (any_of HT_.out (by kernel_rfl)) (fun _ _ _ h => h) (Or.inl ⟨by rfl, ?_⟩) ?_ ?_
                        rotate_left
                        · intro w'
                          go_simp
                          with_reducible rfl
                        rotate_left
                        · simp only [Act.put, List.setIfInBounds_toArray, List.set_cons_zero, List.set_cons_succ, i64_w, i32_w]
                          rfl
                        refine one_ (i := 8) (N := some 73) #[true, true, true, true, true, true, true, true, true, false, false, false, false, false, false] rfl rfl (one_of HT_.out (by kernel_rfl)) (by decide) (fun K hK => ?_)
                        refine goes_ Tryd.func15 (by kernel_rfl) rfl #[.int .i64 a2, .int .i64 (t563.length : Int)] (by rfl) rfl rfl (by (try simp only [List.map_toArray, List.map_cons, List.map_nil]); first | done | rfl | (simp only [List.length_drop, List.length_take]; rfl)) ?_
                        with_reducible refine (foretellkeep_picked.calls a2 (t563.length : Int) t579 _ A41.out).mono ?_
                        rintro e w' ⟨rfl, ⟨nd, rfl⟩⟩
                        refine ⟨_, rfl, ?_⟩
                        refine hK.out _ _ ⟨(blk_cell BK574.out 0).trans rfl, (blk_cell BK574.out 1).trans rfl, (blk_cell BK566.out 0).trans rfl, (blk_cell BK566.out 1).trans rfl, hHeld.2.2.2.2.1, hHeld.2.2.2.2.2⟩ (fun hHeld => ?_)
                        clear hK K
                        refine norm_ (a' := ?_) ?_ ?_
                        rotate_left
                        · show Act.put _ (some 73) _ = _
                          simp only [Act.put, List.setIfInBounds_toArray, List.set_cons_zero, List.set_cons_succ, i64_w, i32_w]
                          rfl
                        refine pure_ (i := 9) (N := some 74) (v := ?_) (a' := ?_) #[true, true, true, true, true, true, true, true, true, true, false, false, false, false, false] rfl rfl (any_of HT_.out (by kernel_rfl)) (fun _ _ _ h => h) (Or.inl ⟨by rfl, ?_⟩) ?_ ?_
                        rotate_left
                        · intro w'
                          go_simp
                          with_reducible rfl
                        rotate_left
                        · simp only [Act.put, List.setIfInBounds_toArray, List.set_cons_zero, List.set_cons_succ, i64_w, i32_w]
                          rfl
                        refine take_ (i := 10) (N := some 75) (v := ?_) (a' := ?_) #[true, true, true, true, true, true, true, true, true, true, true, false, false, false, false] rfl rfl (take_ofW HT_.out HW_.out (by kernel_rfl)) (fun _ _ _ h => h) (Or.inl ⟨by rfl, ?_⟩) hHeld ?_ ?_
                        rotate_left
                        · rintro w' ⟨s0, s1, s2, s3, s4, s5⟩
                          go_simp
                          with_reducible rfl
                        rotate_left
                        · simp only [Act.put, List.setIfInBounds_toArray, List.set_cons_zero, List.set_cons_succ, i64_w, i32_w]
                          rfl
                        refine one_ (i := 11) (N := some 76) #[true, true, true, true, true, true, true, true, true, true, true, true, false, false, false] rfl rfl (one_of HT_.out (by kernel_rfl)) (by decide) (fun K hK => ?_)
                        refine value_ (w1 := ?_) (v := ?_) (by rfl) rfl ?_ ?_
                        rotate_left 2
                        · go_simp
                          constructor
                          · rfl
                          · rfl
                        refine hK.out _ _ ⟨(blk_cell (blk_alloc BK574.out _) 0).trans rfl, (blk_cell (blk_alloc BK574.out _) 1).trans rfl, (blk_cell (blk_alloc BK566.out _) 0).trans rfl, (blk_cell (blk_alloc BK566.out _) 1).trans rfl, (World.cell?_alloc_lt _ _ _ (World.block_lt_of_cell? _ _ (hHeld.2.2.2.2.1))).trans (hHeld.2.2.2.2.1), (World.cell?_alloc_lt _ _ _ (World.block_lt_of_cell? _ _ (hHeld.2.2.2.2.2))).trans (hHeld.2.2.2.2.2)⟩ (fun hHeld => ?_)
                        clear hK K
                        refine norm_ (a' := ?_) ?_ ?_
                        rotate_left
                        · show Act.put _ (some 76) _ = _
                          simp only [Act.put, List.setIfInBounds_toArray, List.set_cons_zero, List.set_cons_succ, i64_w, i32_w]
                          rfl
                        refine last_ (i := 12) (N := some 77) #[true, true, true, true, true, true, true, true, true, true, true, true, true, false, false] rfl rfl (one_of HT_.out (by kernel_rfl)) (by decide) (fun K hK => ?_)
                        refine Kd.N_append_step k42 (w0 := w) w.heap.size (by rfl) (.tmp 66) (.tmp 76) 27 42 (.agg #[(.slice none 0 0), (.slice none 0 0)]) 48 rfl Tryd.underlying27 info42 rfl (by decide) (by omega) u575001 x575001_2 (⟨(rd_T42 t563 t579).f0, (rd_T42 t563 t579).f1⟩ : S42) [.slice A580_0 ((rd_T42 t563 t579).f0).length c580_0, .slice A580_1 ((rd_T42 t563 t579).f1).length c580_1] (fun k_ => some k_ ≠ (v571 : Value).ownBlock ∧ some k_ ≠ (.slice Ao11 t560.length co11 : Value).ownBlock ∧ some k_ ≠ (.slice (some ad580) t563.length co14 : Value).ownBlock ∧ some k_ ≠ (.slice Ao11 t560.length co11 : Value).ownBlock ∧ k_ ≠ gb559 ∧ k_ ≠ gb566 ∧ k_ ≠ gb574) (fun k_ => ((fun k_ => some k_ ≠ (v571 : Value).ownBlock ∧ some k_ ≠ (.slice Ao11 t560.length co11 : Value).ownBlock ∧ some k_ ≠ (.slice (some ad580) t563.length co14 : Value).ownBlock ∧ some k_ ≠ (.slice Ao11 t560.length co11 : Value).ownBlock ∧ k_ ≠ gb559 ∧ k_ ≠ gb566 ∧ k_ ≠ gb574)) k_ ∧ some k_ ≠ (u575001 : Value).ownBlock) rfl rfl ?aP (fun _ hk => hk) ?aF ?aO ?aB ?aS ?aL ?_
                        (case aP => exact (k42_mkF _ _ (⟨(rd_T42 t563 t579).f0, (rd_T42 t563 t579).f1⟩ : S42) (Kd.V_reads' (Kd.V_mono (ok' := (fun k_ => ((fun k_ => some k_ ≠ (v571 : Value).ownBlock ∧ some k_ ≠ (.slice Ao11 t560.length co11 : Value).ownBlock ∧ some k_ ≠ (.slice (some ad580) t563.length co14 : Value).ownBlock ∧ some k_ ≠ (.slice Ao11 t560.length co11 : Value).ownBlock ∧ k_ ≠ gb559 ∧ k_ ≠ gb566 ∧ k_ ≠ gb574)) k_ ∧ some k_ ≠ (u575001 : Value).ownBlock)) (HL580_0.out) (fun k_ hk => ⟨⟨hk.1.1, ⟨hk.1.2.1, ⟨hk.2, ⟨hk.1.2.2.1, ⟨hk.1.2.2.2.2.1, ⟨hk.1.2.2.2.2.2.1, hk.1.2.2.2.2.2.2⟩⟩⟩⟩⟩⟩, hk.1.2.2.2.1⟩))).2.1 (Kd.V_F (Kd.V_mono (ok' := (fun k_ => ((fun k_ => some k_ ≠ (v571 : Value).ownBlock ∧ some k_ ≠ (.slice Ao11 t560.length co11 : Value).ownBlock ∧ some k_ ≠ (.slice (some ad580) t563.length co14 : Value).ownBlock ∧ some k_ ≠ (.slice Ao11 t560.length co11 : Value).ownBlock ∧ k_ ≠ gb559 ∧ k_ ≠ gb566 ∧ k_ ≠ gb574)) k_ ∧ some k_ ≠ (u575001 : Value).ownBlock)) (HL580_0.out) (fun k_ hk => ⟨⟨hk.1.1, ⟨hk.1.2.1, ⟨hk.2, ⟨hk.1.2.2.1, ⟨hk.1.2.2.2.2.1, ⟨hk.1.2.2.2.2.2.1, hk.1.2.2.2.2.2.2⟩⟩⟩⟩⟩⟩, hk.1.2.2.2.1⟩))) (Kd.V_reads' (Kd.V_mono (ok' := (fun k_ => ((fun k_ => some k_ ≠ (v571 : Value).ownBlock ∧ some k_ ≠ (.slice Ao11 t560.length co11 : Value).ownBlock ∧ some k_ ≠ (.slice (some ad580) t563.length co14 : Value).ownBlock ∧ some k_ ≠ (.slice Ao11 t560.length co11 : Value).ownBlock ∧ k_ ≠ gb559 ∧ k_ ≠ gb566 ∧ k_ ≠ gb574)) k_ ∧ some k_ ≠ (u575001 : Value).ownBlock)) (HL580_1.out) (fun k_ hk => ⟨⟨hk.1.1, ⟨hk.1.2.1, ⟨hk.2, ⟨hk.1.2.2.1, ⟨hk.1.2.2.2.2.1, ⟨hk.1.2.2.2.2.2.1, hk.1.2.2.2.2.2.2⟩⟩⟩⟩⟩⟩, hk.1.2.2.2.1⟩))).2.1 (Kd.V_F (Kd.V_mono (ok' := (fun k_ => ((fun k_ => some k_ ≠ (v571 : Value).ownBlock ∧ some k_ ≠ (.slice Ao11 t560.length co11 : Value).ownBlock ∧ some k_ ≠ (.slice (some ad580) t563.length co14 : Value).ownBlock ∧ some k_ ≠ (.slice Ao11 t560.length co11 : Value).ownBlock ∧ k_ ≠ gb559 ∧ k_ ≠ gb566 ∧ k_ ≠ gb574)) k_ ∧ some k_ ≠ (u575001 : Value).ownBlock)) (HL580_1.out) (fun k_ hk => ⟨⟨hk.1.1, ⟨hk.1.2.1, ⟨hk.2, ⟨hk.1.2.2.1, ⟨hk.1.2.2.2.2.1, ⟨hk.1.2.2.2.2.2.1, hk.1.2.2.2.2.2.2⟩⟩⟩⟩⟩⟩, hk.1.2.2.2.1⟩)))))
                        (case aB => exact (by repeat (first | (with_reducible first | exact HB.out | apply below_alloc | apply pw_below_drewN | apply below_drew1 | refine below_set ?_ GE559.out | refine below_set ?_ GE566.out | refine below_set ?_ GE574.out) | exact HB.out)))
                        (case aF => exact (fun k_ hk => ⟨Kd.fresh' (Kd.R_lt (by (with_reducible repeat (first | apply Kd.R_alloc | apply Kd.R_drewN | apply Kd.R_drew)); exact HO_11.out)) k_ hk, Kd.fresh' (Kd.R_lt (by (with_reducible repeat (first | apply Kd.R_alloc | apply Kd.R_drewN | apply Kd.R_drew)); exact HO_567000.out)) k_ hk, Kd.fresh' (Kd.N_lt (by (with_reducible repeat (first | apply Kd.N_alloc | apply Kd.N_drewN | apply Kd.N_drew)); exact HO_567001.out)) k_ hk, Kd.fresh' (Kd.R_lt (by (with_reducible repeat (first | apply Kd.R_alloc | apply Kd.R_drewN | apply Kd.R_drew)); exact HO_575000.out)) k_ hk, Kd.freshB (g := gb559) (o := .cells #[.int .i64 a0_0, .int .i64 a0_1, .int .i64 a0_2, .int .i64 a0_3, .int .i64 a0_4, .int .i64 a0_5, .slice A0_6 l0_6.length c0_6] 25 (0, 0)) (by (with_reducible repeat (first | refine blk_drewN ?_ _ | refine blk_drew ?_ | refine blk_alloc ?_ _)); exact BK559.out) k_ hk, Kd.freshB (g := gb566) (o := .cells #[.slice Ao11 t560.length co11, .slice (some ad580) t563.length co14] 29 (0, 0)) (by (with_reducible repeat (first | refine blk_drewN ?_ _ | refine blk_drew ?_ | refine blk_alloc ?_ _)); exact BK566.out) k_ hk, Kd.freshB (g := gb574) (o := .cells #[.slice Ao11 t560.length co11, u575001] 29 (0, 0)) (by (with_reducible repeat (first | refine blk_drewN ?_ _ | refine blk_drew ?_ | refine blk_alloc ?_ _)); exact BK574.out) k_ hk⟩))
                        (case aO => exact (by (with_reducible repeat (first | apply Kd.N_alloc | apply Kd.N_drewN | apply Kd.N_drew)); exact HO_575001.out))
                        (case aS => exact (below_size (by repeat (first | (with_reducible first | exact HB.out | apply below_alloc | apply pw_below_drewN | apply below_drew1 | refine below_set ?_ GE559.out | refine below_set ?_ GE566.out | refine below_set ?_ GE574.out) | exact HB.out))))
                        (case aL => have := LMc44.out; omega)
                        intro v582 w46 ho hb hg hat
                        rw [← Ny581.out] at ho
                        have n0_ := Aside0.mk (Kd.R_over' (by (with_reducible repeat (first | apply Kd.R_alloc | apply Kd.R_drewN | apply Kd.R_drew)); exact HO_11.out) (Kd.N_typed (by (with_reducible repeat (first | apply Kd.N_alloc | apply Kd.N_drewN | apply Kd.N_drew)); exact HO_575001.out)) (by decide) hg)
                        have n1_ := Aside0.mk (Kd.R_over' (by (with_reducible repeat (first | apply Kd.R_alloc | apply Kd.R_drewN | apply Kd.R_drew)); exact HO_567000.out) (Kd.N_typed (by (with_reducible repeat (first | apply Kd.N_alloc | apply Kd.N_drewN | apply Kd.N_drew)); exact HO_575001.out)) (by decide) hg)
                        have n2_ := Aside0.mk (Kd.N_afterv (ok := (fun k_ => some k_ ≠ (v571 : Value).ownBlock ∧ some k_ ≠ (.slice Ao11 t560.length co11 : Value).ownBlock ∧ some k_ ≠ (.slice Ao11 t560.length co11 : Value).ownBlock ∧ k_ ≠ gb559 ∧ k_ ≠ gb566 ∧ k_ ≠ gb574)) (by (with_reducible repeat (first | apply Kd.N_alloc | apply Kd.N_drewN | apply Kd.N_drew)); exact Kd.N_mono HO_567001.out (fun _ hk => ⟨⟨hk.1, ⟨hk.2.1, ⟨hk.2.2.1, ⟨hk.2.2.2.2.1, ⟨hk.2.2.2.2.2.1, hk.2.2.2.2.2.2⟩⟩⟩⟩⟩, hk.2.2.2.1⟩)) hg hat)
                        have n3_ := Aside0.mk (Kd.R_over' (by (with_reducible repeat (first | apply Kd.R_alloc | apply Kd.R_drewN | apply Kd.R_drew)); exact HO_575000.out) (Kd.N_typed (by (with_reducible repeat (first | apply Kd.N_alloc | apply Kd.N_drewN | apply Kd.N_drew)); exact HO_575001.out)) (by decide) hg)
                        have n4_ := Aside0.mk (blk_grown (g := gb559) (o := .cells #[.int .i64 a0_0, .int .i64 a0_1, .int .i64 a0_2, .int .i64 a0_3, .int .i64 a0_4, .int .i64 a0_5, .slice A0_6 l0_6.length c0_6] 25 (0, 0)) (by (with_reducible repeat (first | refine blk_drewN ?_ _ | refine blk_drew ?_ | refine blk_alloc ?_ _)); exact BK559.out) hg (Kd.N_ne HO_575001.out BK559.out (by decide)))
                        have n5_ := Aside0.mk (blk_grown (g := gb566) (o := .cells #[.slice Ao11 t560.length co11, .slice (some ad580) t563.length co14] 29 (0, 0)) (by (with_reducible repeat (first | refine blk_drewN ?_ _ | refine blk_drew ?_ | refine blk_alloc ?_ _)); exact BK566.out) hg (Kd.N_ne HO_575001.out BK566.out (by decide)))
                        have n6_ := Aside0.mk (blk_grown (g := gb574) (o := .cells #[.slice Ao11 t560.length co11, u575001] 29 (0, 0)) (by (with_reducible repeat (first | refine blk_drewN ?_ _ | refine blk_drew ?_ | refine blk_alloc ?_ _)); exact BK574.out) hg (Kd.N_ne HO_575001.out BK574.out (by decide)))
                        have n7_ := Aside0.mk (Kd.V_afterv (ok := (fun k_ => some k_ ≠ (v571 : Value).ownBlock ∧ some k_ ≠ (.slice Ao11 t560.length co11 : Value).ownBlock ∧ some k_ ≠ (.slice (some ad580) t563.length co14 : Value).ownBlock ∧ some k_ ≠ (.slice Ao11 t560.length co11 : Value).ownBlock ∧ k_ ≠ gb559 ∧ k_ ≠ gb566 ∧ k_ ≠ gb574)) (by (with_reducible repeat (first | apply Kd.V_alloc | apply Kd.V_drewN | apply Kd.V_drew)); exact Kd.V_mono HL580_0.out (fun _ hk => ⟨⟨hk.1.1, ⟨hk.1.2.1, ⟨hk.2, ⟨hk.1.2.2.1, ⟨hk.1.2.2.2.2.1, ⟨hk.1.2.2.2.2.2.1, hk.1.2.2.2.2.2.2⟩⟩⟩⟩⟩⟩, hk.1.2.2.2.1⟩)) hg hat)
                        have n8_ := Aside0.mk (Kd.V_afterv (ok := (fun k_ => some k_ ≠ (v571 : Value).ownBlock ∧ some k_ ≠ (.slice Ao11 t560.length co11 : Value).ownBlock ∧ some k_ ≠ (.slice (some ad580) t563.length co14 : Value).ownBlock ∧ some k_ ≠ (.slice Ao11 t560.length co11 : Value).ownBlock ∧ k_ ≠ gb559 ∧ k_ ≠ gb566 ∧ k_ ≠ gb574)) (by (with_reducible repeat (first | apply Kd.V_alloc | apply Kd.V_drewN | apply Kd.V_drew)); exact Kd.V_mono HL580_1.out (fun _ hk => ⟨⟨hk.1.1, ⟨hk.1.2.1, ⟨hk.2, ⟨hk.1.2.2.1, ⟨hk.1.2.2.2.2.1, ⟨hk.1.2.2.2.2.2.1, hk.1.2.2.2.2.2.2⟩⟩⟩⟩⟩⟩, hk.1.2.2.2.1⟩)) hg hat)
                        have n9_ := Aside0.mk (hb)
                        have n10_ := Aside0.mk (ho)
                        clear HO_11
                        clear HO_567000
                        clear HO_567001
                        clear HO_575000
                        clear BK559
                        clear BK566
                        clear BK574
                        clear HL580_0
                        clear HL580_1
                        clear HB
                        clear HO_575001
                        have HO_11 := n0_
                        have HO_567000 := n1_
                        have HO_567001 := n2_
                        have HO_575000 := n3_
                        have BK559 := n4_
                        have BK566 := n5_
                        have BK574 := n6_
                        have HL580_0 := n7_
                        have HL580_1 := n8_
                        have HB := n9_
                        have HO583 := n10_
                        clear n0_ n1_ n2_ n3_ n4_ n5_ n6_ n7_ n8_ n9_ n10_
                        clear ho hb hg hat
                        obtain ⟨Ao47, co47, eo47⟩ := Kd.N_slice HO583.out
                        (first | subst eo47 | (injection eo47 with f1_ f2_ f3_; have f4_ := f1_.symm; have f5_ := f3_.symm; clear f1_ f2_ f3_; subst f4_; subst f5_))
                        refine hK.out _ _ ?_
                        clear hK K
                        refine norm_ (a' := ?_) ?_ ?_
                        rotate_left
                        · show Act.put _ (some 77) _ = _
                          simp only [Act.put, List.setIfInBounds_toArray, List.set_cons_zero, List.set_cons_succ, i64_w, i32_w]
                          rfl
                        refine pure_ (i := 13) (N := some 78) (v := ?_) (a' := ?_) #[true, true, true, true, true, true, true, true, true, true, true, true, true, true, false] rfl rfl (any_of HT_.out (by kernel_rfl)) (fun _ _ _ h => h) (Or.inl ⟨by rfl, ?_⟩) ?_ ?_
                        rotate_left
                        · intro w'
                          go_simp
                          with_reducible rfl
                        rotate_left
                        · simp only [Act.put, List.setIfInBounds_toArray, List.set_cons_zero, List.set_cons_succ, i64_w, i32_w]
                          rfl
                        refine last_ (i := 14) (N := none) #[true, true, true, true, true, true, true, true, true, true, true, true, true, true, true] rfl rfl (one_of HT_.out (by kernel_rfl)) (by decide) (fun K hK => ?_)
                        have hs48 : w46.cell? ⟨gb574, 1, none⟩ = some (u575001) := (blk_cell BK574.out 1).trans rfl
                        have hfs48 := blk_frozen BK574.out 1
                        have hns48_0 := NB559_574.out
                        have hns48_1 := NB566_574.out
                        have hms48_0 := NB574_559.out
                        have hms48_1 := NB574_566.out
                        refine skip_ (w1 := ?_) (by rfl) rfl ?_ ?_
                        rotate_left
                        · go_simp
                          rfl
                        refine hK.out _ _ ?_
                        clear hK K
                        refine done_ (done_of HT_.out (by kernel_rfl)) ?_
                        try go_wp2
                        go_meet
                        case rel => exact ⟨_, (y581), (.slice Ao47 y581.length co47), H', ⟨by have := HJ5.out; have := HK2.out; first | omega | exact Nat.le_refl _⟩, ⟨by (with_reducible repeat (first | apply Kd.R_alloc | apply Kd.R_drewN | apply Kd.R_drew)); exact Kd.R_mono (Kd.R_far (p := ⟨gb574, 1, none⟩) (Kd.R_types HO_11.out BK574.out (by decide)) (fun _ hk => hk.2) (.slice Ao47 y581.length co47)) (fun _ hk => trivial)⟩, ⟨by (with_reducible repeat (first | apply Kd.R_alloc | apply Kd.R_drewN | apply Kd.R_drew)); exact Kd.R_mono (Kd.R_far (p := ⟨gb574, 1, none⟩) (Kd.R_types HO_567000.out BK574.out (by decide)) (fun _ hk => hk.2) (.slice Ao47 y581.length co47)) (fun _ hk => trivial)⟩, ⟨by (with_reducible repeat (first | apply Kd.N_alloc | apply Kd.N_drewN | apply Kd.N_drew)); exact Kd.N_mono (Kd.N_far (p := ⟨gb574, 1, none⟩) (Kd.N_mono HO_567001.out (fun k_ hk => (⟨hk, hk.1.2.2.2.2.2⟩ : _ ∧ k_ ≠ gb574))) (fun _ hk => hk.2) (.slice Ao47 y581.length co47)) (fun _ hk => ⟨hk.1.1.1, ⟨hk.1.1.2.1, ⟨hk.1.1.2.2.1, ⟨hk.1.2, ⟨hk.1.1.2.2.2.1, ⟨hk.1.1.2.2.2.2.1, hk.1.1.2.2.2.2.2⟩⟩⟩⟩⟩⟩)⟩, ⟨by (with_reducible repeat (first | apply Kd.R_alloc | apply Kd.R_drewN | apply Kd.R_drew)); exact Kd.R_mono (Kd.R_far (p := ⟨gb574, 1, none⟩) (Kd.R_types HO_575000.out BK574.out (by decide)) (fun _ hk => hk.2) (.slice Ao47 y581.length co47)) (fun _ hk => trivial)⟩, ⟨by (with_reducible repeat (first | apply Kd.N_alloc | apply Kd.N_drewN | apply Kd.N_drew)); exact Kd.N_mono (Kd.N_far (p := ⟨gb574, 1, none⟩) (Kd.N_mono HO583.out (fun k_ hk => (⟨hk, hk.2.2.2.2.2.2⟩ : _ ∧ k_ ≠ gb574))) (fun _ hk => hk.2) (.slice Ao47 y581.length co47)) (fun _ hk => ⟨hk.1.1, ⟨hk.1.2.1, ⟨hk.1.2.2.1, ⟨hk.1.2.2.2.1, ⟨hk.1.2.2.2.2.1, ⟨hk.1.2.2.2.2.2.1, hk.1.2.2.2.2.2.2⟩⟩⟩⟩⟩⟩)⟩, ⟨by (with_reducible repeat (first | refine blk_drewN ?_ _ | refine blk_drew ?_ | refine blk_alloc ?_ _)); refine blk_far ?_ NB559_574.out _; (with_reducible repeat (first | refine blk_drewN ?_ _ | refine blk_drew ?_ | refine blk_alloc ?_ _)); exact BK559.out⟩, ⟨by (with_reducible repeat (first | refine blk_drewN ?_ _ | refine blk_drew ?_ | refine blk_alloc ?_ _)); refine blk_far ?_ NB566_574.out _; (with_reducible repeat (first | refine blk_drewN ?_ _ | refine blk_drew ?_ | refine blk_alloc ?_ _)); exact BK566.out⟩, ⟨by (with_reducible repeat (first | refine blk_drewN ?_ _ | refine blk_drew ?_ | refine blk_alloc ?_ _)); refine blk_put (cs := #[.slice Ao11 t560.length co11, u575001]) ?_ 1 _ rfl; (with_reducible repeat (first | refine blk_drewN ?_ _ | refine blk_drew ?_ | refine blk_alloc ?_ _)); exact BK574.out⟩, ⟨by repeat (first | (with_reducible first | exact HB.out | apply below_alloc | apply pw_below_drewN | apply below_drew1 | refine below_set ?_ GE559.out | refine below_set ?_ GE566.out | refine below_set ?_ GE574.out) | exact HB.out)⟩⟩
                      · rw [if_neg c44] at H
                        exact absurd H (by simp)
                    · rw [if_neg c43] at H
                      exact absurd H (by simp)
                  · rw [if_neg c42] at H
                    exact absurd H (by simp)
                · rw [if_neg c40] at H
                  have c40b0 : decide (0 < (t563.length : Int)) = false := decide_eq_false c40
                  have c40b1 : decide (0 < t563.length) = false := decide_eq_false (by omega)
                  clear c40
                  (first | rw [c40b0] | (simp only [i64_w, i32_w]; rw [c40b0]) | rw [c40b1] | skip)
                  have H' := Aside0.mk H
                  clear H
                  go_wp2
                  go_meet
                  case rel => exact ⟨_, (x575001_2), (u575001), H', ⟨by have := HJ5.out; have := HK2.out; first | omega | exact Nat.le_refl _⟩, ⟨by (with_reducible repeat (first | apply Kd.R_alloc | apply Kd.R_drewN | apply Kd.R_drew)); exact HO_11.out⟩, ⟨by (with_reducible repeat (first | apply Kd.R_alloc | apply Kd.R_drewN | apply Kd.R_drew)); exact HO_567000.out⟩, ⟨by (with_reducible repeat (first | apply Kd.N_alloc | apply Kd.N_drewN | apply Kd.N_drew)); exact HO_567001.out⟩, ⟨by (with_reducible repeat (first | apply Kd.R_alloc | apply Kd.R_drewN | apply Kd.R_drew)); exact HO_575000.out⟩, ⟨by (with_reducible repeat (first | apply Kd.N_alloc | apply Kd.N_drewN | apply Kd.N_drew)); exact HO_575001.out⟩, ⟨by (with_reducible repeat (first | refine blk_drewN ?_ _ | refine blk_drew ?_ | refine blk_alloc ?_ _)); exact BK559.out⟩, ⟨by (with_reducible repeat (first | refine blk_drewN ?_ _ | refine blk_drew ?_ | refine blk_alloc ?_ _)); exact BK566.out⟩, ⟨by (with_reducible repeat (first | refine blk_drewN ?_ _ | refine blk_drew ?_ | refine blk_alloc ?_ _)); exact BK574.out⟩, ⟨by repeat (first | (with_reducible first | exact HB.out | apply below_alloc | apply pw_below_drewN | apply below_drew1 | refine below_set ?_ GE559.out | refine below_set ?_ GE566.out | refine below_set ?_ GE574.out) | exact HB.out)⟩⟩
              case rest =>
                clear HC36
                try clear c1
                try clear c2
                try clear p2
                try clear c3
                try clear c4
                try clear c5
                try clear p5
                try clear q5
                try clear hx5
                try clear p6
                try clear c14
                try clear c15
                try clear c16
                try clear c16b0
                try clear c16b1
                try clear c17
                try clear c18
                try clear c20
                try clear c24
                try clear c26
                try clear c28
                try clear c28b0
                try clear c29
                try clear c29b0
                try clear c30
                try clear c30b0
                try clear c31
                try clear c37
                try clear c38
                try clear c40
                try clear c40b0
                try clear c40b1
                try clear c42
                try clear c42b0
                try clear c43
                try clear c43b0
                try clear c44
                try clear hcz13_0
                try clear hcz13_1
                try clear hcz21_0
                try clear hcz21_1
                try clear hcz25_0
                try clear hcz25_1
                try clear hcz27_0
                try clear hcz27_1
                try clear hcz39_0
                try clear hcz39_1
                try clear hcz8_0
                try clear hcz8_1
                try clear hcz8_2
                try clear hcz8_3
                try clear hcz8_4
                try clear hcz8_5
                try clear hcz8_6
                try clear hfz13_0
                try clear hfz13_1
                try clear hfz21_0
                try clear hfz21_1
                try clear hfz25_0
                try clear hfz25_1
                try clear hfz27_0
                try clear hfz27_1
                try clear hfz39_0
                try clear hfz39_1
                try clear hfz8_0
                try clear hfz8_1
                try clear hfz8_2
                try clear hfz8_3
                try clear hfz8_4
                try clear hfz8_5
                try clear hfz8_6
                try clear hx575_0
                try clear hx575_1
                try clear hx580_0
                try clear hx580_1
                try clear p2
                try clear p575
                try clear p580
                try clear q575
                try clear q580
                obtain ⟨kq, x575001_35, u575001, HA, HJ35, HO_11, HO_567000, HO_567001, HO_575000, HO_575001, BK559, BK566, BK574, HB⟩ := hcut
                cases kq with
                | zero => exact absurd HA.out (by simp [foretellkeep_StepTwice.j2])
                | succ kj35 =>
                  have H := HA.out
                  clear HA
                  simp only [foretellkeep_StepTwice.j2] at H
                  replace H := Option.bind_eq_some_iff.mp H
                  obtain ⟨⟨t584, t587⟩, A490, H⟩ := H
                  replace H : (if t573 = 0 then (if t587 = 0 then (if (t570.length : Int) = (t584.length : Int) then (foretellkeep_StepTwice.j3 kj35 t570 t584 ((t570.length : Int) == 0)) else (foretellkeep_StepTwice.j3 kj35 t570 t584 true)) else (foretellkeep_StepTwice.j3 kj35 t570 t584 true)) else (foretellkeep_StepTwice.j3 kj35 t570 t584 true)) = some r := H
                  have A49 := Aside0.mk A490
                  clear A490
                  have HC50 := Aside0.mk H
                  clear H
                  have hnb51 := NB574_559.out
                  have hnc51 := NB559_574.out
                  have hnb52 := NB574_566.out
                  have hnc52 := NB566_574.out
                  have hcz53_0 : wc.cell? ⟨gb574, 0, none⟩ = some (.slice Ao11 t560.length co11) := (blk_cell BK574.out 0).trans rfl
                  have hcz53_1 : wc.cell? ⟨gb574, 1, none⟩ = some (u575001) := (blk_cell BK574.out 1).trans rfl
                  have hfz53_0 := blk_frozen BK574.out 0
                  have hfz53_1 := blk_frozen BK574.out 1
                  obtain ⟨Ao54, co54, eo54⟩ := Kd.N_slice HO_575001.out
                  subst eo54
                  go_upto_region 16 with (first | ((with_reducible refine gate_callee (f := 24) rfl ?_); refine goesL_ (some 82) rfl rfl Tryd.func24 (by kernel_rfl) rfl #[.agg #[.slice Ao11 t560.length co11, .slice Ao54 x575001_35.length co54], .int .i64 t569] rfl (by (try simp only [List.map_toArray, List.map_cons, List.map_nil]); first | done | rfl | (simp only [List.length_drop, List.length_take]; rfl)) ?_; (with_reducible refine (step_Next.calls kj35 _ _ t560 _ _ x575001_35 t569 t584 t587 _ ?side1 ?side2 ?side3 ?side4 ?side5 A49.out).mono ?_); (case side1 => repeat (first | exact (Kd.R_reads' HO_575000.out).2.2 | (with_reducible refine Kd.C_alloc ?_ _) | (with_reducible refine Kd.C_drewN ?_ _) | (with_reducible refine Kd.C_drew ?_))); (case side2 => exact (Kd.R_reads' HO_575000.out).2.1); (case side3 => repeat (first | exact (Kd.N_reads' HO_575001.out).2.2 | (with_reducible refine Kd.C_alloc ?_ _) | (with_reducible refine Kd.C_drewN ?_ _) | (with_reducible refine Kd.C_drew ?_))); (case side4 => exact (Kd.N_reads' HO_575001.out).2.1); (case side5 => first | exact hG_ | exact Glob.drewN hG_ _ | exact Glob.below hG_ (by repeat (first | (with_reducible first | exact HB.out | apply below_alloc | apply pw_below_drewN | apply below_drew1 | refine below_set ?_ GE559.out | refine below_set ?_ GE566.out | refine below_set ?_ GE574.out) | exact HB.out))); rintro e w55 ⟨v585, rfl, ho0, hb⟩; refine ⟨_, rfl, ?_⟩; have n0_ := Aside0.mk (Kd.R_elder' (by (with_reducible repeat (first | apply Kd.R_alloc | apply Kd.R_drewN | apply Kd.R_drew)); exact HO_11.out) (Kd.R_base ho0) hb); have n1_ := Aside0.mk (Kd.R_below (by (with_reducible repeat (first | apply Kd.R_alloc | apply Kd.R_drewN | apply Kd.R_drew)); exact HO_567000.out) hb); have n2_ := Aside0.mk (Kd.N_elder' (by (with_reducible repeat (first | apply Kd.N_alloc | apply Kd.N_drewN | apply Kd.N_drew)); exact HO_567001.out) (Kd.R_base ho0) hb); have n3_ := Aside0.mk (Kd.R_below (by (with_reducible repeat (first | apply Kd.R_alloc | apply Kd.R_drewN | apply Kd.R_drew)); exact HO_575000.out) hb); have n4_ := Aside0.mk (Kd.N_elder' (by (with_reducible repeat (first | apply Kd.N_alloc | apply Kd.N_drewN | apply Kd.N_drew)); exact HO_575001.out) (Kd.R_base ho0) hb); have n5_ := Aside0.mk (Kd.R_lower (Kd.R_new' ho0 (Kd.R_lt (by (with_reducible repeat (first | apply Kd.R_alloc | apply Kd.R_drewN | apply Kd.R_drew)); exact HO_11.out))) (below_size (by repeat (first | (with_reducible first | exact HB.out | apply below_alloc | apply pw_below_drewN | apply below_drew1 | refine below_set ?_ GE559.out | refine below_set ?_ GE566.out | refine below_set ?_ GE574.out) | exact HB.out)))); have n6_ := Aside0.mk (blk_below (g := gb559) (o := .cells #[.int .i64 a0_0, .int .i64 a0_1, .int .i64 a0_2, .int .i64 a0_3, .int .i64 a0_4, .int .i64 a0_5, .slice A0_6 l0_6.length c0_6] 25 (0, 0)) (by (with_reducible repeat (first | refine blk_drewN ?_ _ | refine blk_drew ?_ | refine blk_alloc ?_ _)); exact BK559.out) hb); have n7_ := Aside0.mk (blk_below (g := gb566) (o := .cells #[.slice Ao11 t560.length co11, .slice Ao14 t563.length co14] 29 (0, 0)) (by (with_reducible repeat (first | refine blk_drewN ?_ _ | refine blk_drew ?_ | refine blk_alloc ?_ _)); exact BK566.out) hb); have n8_ := Aside0.mk (blk_below (g := gb574) (o := .cells #[.slice Ao11 t560.length co11, .slice Ao54 x575001_35.length co54] 29 (0, 0)) (by (with_reducible repeat (first | refine blk_drewN ?_ _ | refine blk_drew ?_ | refine blk_alloc ?_ _)); exact BK574.out) hb); have n9_ := Aside0.mk (below_step (by repeat (first | (with_reducible first | exact HB.out | apply below_alloc | apply pw_below_drewN | apply below_drew1 | refine below_set ?_ GE559.out | refine below_set ?_ GE566.out | refine below_set ?_ GE574.out) | exact HB.out)) hb); clear HO_11; clear HO_567000; clear HO_567001; clear HO_575000; clear HO_575001; clear BK559; clear BK566; clear BK574; clear HB; have HO_11 := n0_; have HO_567000 := n1_; have HO_567001 := n2_; have HO_575000 := n3_; have HO_575001 := n4_; have HO586 := n5_; have BK559 := n6_; have BK566 := n7_; have BK574 := n8_; have HB := n9_; clear n0_ n1_ n2_ n3_ n4_ n5_ n6_ n7_ n8_ n9_; (try clear hb); (try clear hb2); (try clear hk); (try clear hi); (try clear ho0)))
                  (try simp only [Act.put, List.setIfInBounds_toArray, List.set_cons_zero, List.set_cons_succ])
                  go_cut [102] (fun v102 wc => ∃ (kq : Nat) (x102_49 : Bool), v102 = .bool x102_49 ∧ Aside0 (foretellkeep_StepTwice.j3 kq t570 t584 x102_49 = some r) ∧ Aside0 (kq ≤ kj35) ∧ Aside0 (Kd.R (Kd.int .i64) 3 wc w.heap.size (fun k_ => some k_ ≠ (v585 : Value).ownBlock) v571 t570) ∧ Aside0 (Kd.R (Kd.int .i64) 3 wc w.heap.size (fun k_ => some k_ ≠ (v571 : Value).ownBlock) v585 t584) ∧ Aside0 (Kd.R k32 32 wc w.heap.size (fun _ => True) (.slice Ao11 t560.length co11) t560) ∧ Aside0 (Kd.N k42 42 wc w.heap.size (fun k_ => some k_ ≠ (v571 : Value).ownBlock ∧ some k_ ≠ (v585 : Value).ownBlock ∧ some k_ ≠ ((.slice Ao11 t560.length co11) : Value).ownBlock ∧ some k_ ≠ ((.slice Ao11 t560.length co11) : Value).ownBlock ∧ some k_ ≠ ((.slice Ao54 x575001_35.length co54) : Value).ownBlock ∧ k_ ≠ gb559 ∧ k_ ≠ gb566 ∧ k_ ≠ gb574) (.slice Ao14 t563.length co14) t563) ∧ Aside0 (Kd.R k32 32 wc w.heap.size (fun _ => True) (.slice Ao11 t560.length co11) t560) ∧ Aside0 (Kd.N k42 42 wc w.heap.size (fun k_ => some k_ ≠ (v571 : Value).ownBlock ∧ some k_ ≠ (v585 : Value).ownBlock ∧ some k_ ≠ ((.slice Ao11 t560.length co11) : Value).ownBlock ∧ some k_ ≠ ((.slice Ao14 t563.length co14) : Value).ownBlock ∧ some k_ ≠ ((.slice Ao11 t560.length co11) : Value).ownBlock ∧ k_ ≠ gb559 ∧ k_ ≠ gb566 ∧ k_ ≠ gb574) (.slice Ao54 x575001_35.length co54) x575001_35) ∧ Aside0 (wc.heap[gb559]? = some (.cells #[.int .i64 a0_0, .int .i64 a0_1, .int .i64 a0_2, .int .i64 a0_3, .int .i64 a0_4, .int .i64 a0_5, (.slice A0_6 l0_6.length c0_6)] 25 (0, 0))) ∧ Aside0 (wc.heap[gb566]? = some (.cells #[(.slice Ao11 t560.length co11), (.slice Ao14 t563.length co14)] 29 (0, 0))) ∧ Aside0 (wc.heap[gb574]? = some (.cells #[(.slice Ao11 t560.length co11), (.slice Ao54 x575001_35.length co54)] 29 (0, 0))) ∧ Aside0 (Below w.heap.size w wc))
                  case first =>
                    have H := HC50.out
                    clear HC50
                    by_cases c56 : t573 = 0
                    · rw [if_pos c56] at H
                      have c56b0 : (t573 == 0) = true := beq_iff_eq.mpr c56
                      have c56b1 : (t573 != 0) = false := bne_eq_false_iff_eq.mpr c56
                      clear c56
                      (first | rw [c56b0] | (simp only [i64_w, i32_w]; rw [c56b0]) | rw [c56b1] | skip)
                      by_cases c57 : t587 = 0
                      · rw [if_pos c57] at H
                        have c57b0 : (t587 == 0) = true := beq_iff_eq.mpr c57
                        have c57b1 : (t587 != 0) = false := bne_eq_false_iff_eq.mpr c57
                        clear c57
                        by_cases c58 : (t570.length : Int) = (t584.length : Int)
                        · rw [if_pos c58] at H
                          have c58b0 : ((t570.length : Int) == (t584.length : Int)) = true := beq_iff_eq.mpr c58
                          have c58b1 : ((t570.length : Int) != (t584.length : Int)) = false := bne_eq_false_iff_eq.mpr c58
                          have c58b2 : (t570.length == t584.length) = true := by first | simpa using c58 | (simp at c58 ⊢; omega)
                          clear c58
                          have H' := Aside0.mk H
                          clear H
                          obtain ⟨Ao59, co59, eo59⟩ := Kd.R_slice HO_11.out
                          subst eo59
                          obtain ⟨Ao60, co60, eo60⟩ := Kd.R_slice HO586.out
                          subst eo60
                          go_wp2
                          go_meet
                          case rel => exact ⟨_, (((t570.length : Int) == 0)), (by first | rfl | (simp; done) | (simp [*]; done)), H', ⟨by have := HJ5.out; have := HK2.out; have := HJ35.out; first | omega | exact Nat.le_refl _⟩, ⟨by (with_reducible repeat (first | apply Kd.R_alloc | apply Kd.R_drewN | apply Kd.R_drew)); exact Kd.R_mono HO_11.out (fun _ hk => hk.2)⟩, ⟨by (with_reducible repeat (first | apply Kd.R_alloc | apply Kd.R_drewN | apply Kd.R_drew)); exact Kd.R_mono HO586.out (fun _ hk => hk.2)⟩, ⟨by (with_reducible repeat (first | apply Kd.R_alloc | apply Kd.R_drewN | apply Kd.R_drew)); exact HO_567000.out⟩, ⟨by (with_reducible repeat (first | apply Kd.N_alloc | apply Kd.N_drewN | apply Kd.N_drew)); exact Kd.N_mono HO_567001.out (fun _ hk => ⟨hk.1.1, ⟨hk.2, ⟨hk.1.2.1, ⟨hk.1.2.2.1, ⟨hk.1.2.2.2.1, ⟨hk.1.2.2.2.2.1, ⟨hk.1.2.2.2.2.2.1, hk.1.2.2.2.2.2.2⟩⟩⟩⟩⟩⟩⟩)⟩, ⟨by (with_reducible repeat (first | apply Kd.R_alloc | apply Kd.R_drewN | apply Kd.R_drew)); exact HO_575000.out⟩, ⟨by (with_reducible repeat (first | apply Kd.N_alloc | apply Kd.N_drewN | apply Kd.N_drew)); exact Kd.N_mono HO_575001.out (fun _ hk => ⟨hk.1.1, ⟨hk.2, ⟨hk.1.2.1, ⟨hk.1.2.2.1, ⟨hk.1.2.2.2.1, ⟨hk.1.2.2.2.2.1, ⟨hk.1.2.2.2.2.2.1, hk.1.2.2.2.2.2.2⟩⟩⟩⟩⟩⟩⟩)⟩, ⟨by (with_reducible repeat (first | refine blk_drewN ?_ _ | refine blk_drew ?_ | refine blk_alloc ?_ _)); exact BK559.out⟩, ⟨by (with_reducible repeat (first | refine blk_drewN ?_ _ | refine blk_drew ?_ | refine blk_alloc ?_ _)); exact BK566.out⟩, ⟨by (with_reducible repeat (first | refine blk_drewN ?_ _ | refine blk_drew ?_ | refine blk_alloc ?_ _)); exact BK574.out⟩, ⟨by repeat (first | (with_reducible first | exact HB.out | apply below_alloc | apply pw_below_drewN | apply below_drew1 | refine below_set ?_ GE559.out | refine below_set ?_ GE566.out | refine below_set ?_ GE574.out) | exact HB.out)⟩⟩
                        · rw [if_neg c58] at H
                          have c58b0 : ((t570.length : Int) == (t584.length : Int)) = false := beq_eq_false_iff_ne.mpr c58
                          have c58b1 : ((t570.length : Int) != (t584.length : Int)) = true := bne_iff_ne.mpr c58
                          have c58b2 : (t570.length == t584.length) = false := by first | simpa using c58 | (simp at c58 ⊢; omega)
                          have H' := Aside0.mk H
                          clear H
                          obtain ⟨Ao61, co61, eo61⟩ := Kd.R_slice HO_11.out
                          subst eo61
                          obtain ⟨Ao62, co62, eo62⟩ := Kd.R_slice HO586.out
                          subst eo62
                          go_wp2
                          go_meet
                          case rel => exact ⟨_, (true), (by first | rfl | (simp; done) | (simp [*]; done)), H', ⟨by have := HJ5.out; have := HK2.out; have := HJ35.out; first | omega | exact Nat.le_refl _⟩, ⟨by (with_reducible repeat (first | apply Kd.R_alloc | apply Kd.R_drewN | apply Kd.R_drew)); exact Kd.R_mono HO_11.out (fun _ hk => hk.2)⟩, ⟨by (with_reducible repeat (first | apply Kd.R_alloc | apply Kd.R_drewN | apply Kd.R_drew)); exact Kd.R_mono HO586.out (fun _ hk => hk.2)⟩, ⟨by (with_reducible repeat (first | apply Kd.R_alloc | apply Kd.R_drewN | apply Kd.R_drew)); exact HO_567000.out⟩, ⟨by (with_reducible repeat (first | apply Kd.N_alloc | apply Kd.N_drewN | apply Kd.N_drew)); exact Kd.N_mono HO_567001.out (fun _ hk => ⟨hk.1.1, ⟨hk.2, ⟨hk.1.2.1, ⟨hk.1.2.2.1, ⟨hk.1.2.2.2.1, ⟨hk.1.2.2.2.2.1, ⟨hk.1.2.2.2.2.2.1, hk.1.2.2.2.2.2.2⟩⟩⟩⟩⟩⟩⟩)⟩, ⟨by (with_reducible repeat (first | apply Kd.R_alloc | apply Kd.R_drewN | apply Kd.R_drew)); exact HO_575000.out⟩, ⟨by (with_reducible repeat (first | apply Kd.N_alloc | apply Kd.N_drewN | apply Kd.N_drew)); exact Kd.N_mono HO_575001.out (fun _ hk => ⟨hk.1.1, ⟨hk.2, ⟨hk.1.2.1, ⟨hk.1.2.2.1, ⟨hk.1.2.2.2.1, ⟨hk.1.2.2.2.2.1, ⟨hk.1.2.2.2.2.2.1, hk.1.2.2.2.2.2.2⟩⟩⟩⟩⟩⟩⟩)⟩, ⟨by (with_reducible repeat (first | refine blk_drewN ?_ _ | refine blk_drew ?_ | refine blk_alloc ?_ _)); exact BK559.out⟩, ⟨by (with_reducible repeat (first | refine blk_drewN ?_ _ | refine blk_drew ?_ | refine blk_alloc ?_ _)); exact BK566.out⟩, ⟨by (with_reducible repeat (first | refine blk_drewN ?_ _ | refine blk_drew ?_ | refine blk_alloc ?_ _)); exact BK574.out⟩, ⟨by repeat (first | (with_reducible first | exact HB.out | apply below_alloc | apply pw_below_drewN | apply below_drew1 | refine below_set ?_ GE559.out | refine below_set ?_ GE566.out | refine below_set ?_ GE574.out) | exact HB.out)⟩⟩
                      · rw [if_neg c57] at H
                        have c57b0 : (t587 == 0) = false := beq_eq_false_iff_ne.mpr c57
                        have c57b1 : (t587 != 0) = true := bne_iff_ne.mpr c57
                        have H' := Aside0.mk H
                        clear H
                        go_wp2
                        go_meet
                        case rel => exact ⟨_, (true), (by first | rfl | (simp; done) | (simp [*]; done)), H', ⟨by have := HJ5.out; have := HK2.out; have := HJ35.out; first | omega | exact Nat.le_refl _⟩, ⟨by (with_reducible repeat (first | apply Kd.R_alloc | apply Kd.R_drewN | apply Kd.R_drew)); exact Kd.R_mono HO_11.out (fun _ hk => hk.2)⟩, ⟨by (with_reducible repeat (first | apply Kd.R_alloc | apply Kd.R_drewN | apply Kd.R_drew)); exact Kd.R_mono HO586.out (fun _ hk => hk.2)⟩, ⟨by (with_reducible repeat (first | apply Kd.R_alloc | apply Kd.R_drewN | apply Kd.R_drew)); exact HO_567000.out⟩, ⟨by (with_reducible repeat (first | apply Kd.N_alloc | apply Kd.N_drewN | apply Kd.N_drew)); exact Kd.N_mono HO_567001.out (fun _ hk => ⟨hk.1.1, ⟨hk.2, ⟨hk.1.2.1, ⟨hk.1.2.2.1, ⟨hk.1.2.2.2.1, ⟨hk.1.2.2.2.2.1, ⟨hk.1.2.2.2.2.2.1, hk.1.2.2.2.2.2.2⟩⟩⟩⟩⟩⟩⟩)⟩, ⟨by (with_reducible repeat (first | apply Kd.R_alloc | apply Kd.R_drewN | apply Kd.R_drew)); exact HO_575000.out⟩, ⟨by (with_reducible repeat (first | apply Kd.N_alloc | apply Kd.N_drewN | apply Kd.N_drew)); exact Kd.N_mono HO_575001.out (fun _ hk => ⟨hk.1.1, ⟨hk.2, ⟨hk.1.2.1, ⟨hk.1.2.2.1, ⟨hk.1.2.2.2.1, ⟨hk.1.2.2.2.2.1, ⟨hk.1.2.2.2.2.2.1, hk.1.2.2.2.2.2.2⟩⟩⟩⟩⟩⟩⟩)⟩, ⟨by (with_reducible repeat (first | refine blk_drewN ?_ _ | refine blk_drew ?_ | refine blk_alloc ?_ _)); exact BK559.out⟩, ⟨by (with_reducible repeat (first | refine blk_drewN ?_ _ | refine blk_drew ?_ | refine blk_alloc ?_ _)); exact BK566.out⟩, ⟨by (with_reducible repeat (first | refine blk_drewN ?_ _ | refine blk_drew ?_ | refine blk_alloc ?_ _)); exact BK574.out⟩, ⟨by repeat (first | (with_reducible first | exact HB.out | apply below_alloc | apply pw_below_drewN | apply below_drew1 | refine below_set ?_ GE559.out | refine below_set ?_ GE566.out | refine below_set ?_ GE574.out) | exact HB.out)⟩⟩
                    · rw [if_neg c56] at H
                      have c56b0 : (t573 == 0) = false := beq_eq_false_iff_ne.mpr c56
                      have c56b1 : (t573 != 0) = true := bne_iff_ne.mpr c56
                      (first | rw [c56b0] | (simp only [i64_w, i32_w]; rw [c56b0]) | rw [c56b1] | skip)
                      have H' := Aside0.mk H
                      clear H
                      go_wp2
                      go_meet
                      case rel => exact ⟨_, (true), (by first | rfl | (simp; done) | (simp [*]; done)), H', ⟨by have := HJ5.out; have := HK2.out; have := HJ35.out; first | omega | exact Nat.le_refl _⟩, ⟨by (with_reducible repeat (first | apply Kd.R_alloc | apply Kd.R_drewN | apply Kd.R_drew)); exact Kd.R_mono HO_11.out (fun _ hk => hk.2)⟩, ⟨by (with_reducible repeat (first | apply Kd.R_alloc | apply Kd.R_drewN | apply Kd.R_drew)); exact Kd.R_mono HO586.out (fun _ hk => hk.2)⟩, ⟨by (with_reducible repeat (first | apply Kd.R_alloc | apply Kd.R_drewN | apply Kd.R_drew)); exact HO_567000.out⟩, ⟨by (with_reducible repeat (first | apply Kd.N_alloc | apply Kd.N_drewN | apply Kd.N_drew)); exact Kd.N_mono HO_567001.out (fun _ hk => ⟨hk.1.1, ⟨hk.2, ⟨hk.1.2.1, ⟨hk.1.2.2.1, ⟨hk.1.2.2.2.1, ⟨hk.1.2.2.2.2.1, ⟨hk.1.2.2.2.2.2.1, hk.1.2.2.2.2.2.2⟩⟩⟩⟩⟩⟩⟩)⟩, ⟨by (with_reducible repeat (first | apply Kd.R_alloc | apply Kd.R_drewN | apply Kd.R_drew)); exact HO_575000.out⟩, ⟨by (with_reducible repeat (first | apply Kd.N_alloc | apply Kd.N_drewN | apply Kd.N_drew)); exact Kd.N_mono HO_575001.out (fun _ hk => ⟨hk.1.1, ⟨hk.2, ⟨hk.1.2.1, ⟨hk.1.2.2.1, ⟨hk.1.2.2.2.1, ⟨hk.1.2.2.2.2.1, ⟨hk.1.2.2.2.2.2.1, hk.1.2.2.2.2.2.2⟩⟩⟩⟩⟩⟩⟩)⟩, ⟨by (with_reducible repeat (first | refine blk_drewN ?_ _ | refine blk_drew ?_ | refine blk_alloc ?_ _)); exact BK559.out⟩, ⟨by (with_reducible repeat (first | refine blk_drewN ?_ _ | refine blk_drew ?_ | refine blk_alloc ?_ _)); exact BK566.out⟩, ⟨by (with_reducible repeat (first | refine blk_drewN ?_ _ | refine blk_drew ?_ | refine blk_alloc ?_ _)); exact BK574.out⟩, ⟨by repeat (first | (with_reducible first | exact HB.out | apply below_alloc | apply pw_below_drewN | apply below_drew1 | refine below_set ?_ GE559.out | refine below_set ?_ GE566.out | refine below_set ?_ GE574.out) | exact HB.out)⟩⟩
                  case rest =>
                    clear HC50
                    try clear c1
                    try clear c2
                    try clear p2
                    try clear c3
                    try clear c4
                    try clear c5
                    try clear p5
                    try clear q5
                    try clear hx5
                    try clear p6
                    try clear c14
                    try clear c15
                    try clear c16
                    try clear c16b0
                    try clear c16b1
                    try clear c17
                    try clear c18
                    try clear c20
                    try clear c24
                    try clear c26
                    try clear c28
                    try clear c28b0
                    try clear c29
                    try clear c29b0
                    try clear c30
                    try clear c30b0
                    try clear c31
                    try clear c37
                    try clear c38
                    try clear c40
                    try clear c40b0
                    try clear c40b1
                    try clear c42
                    try clear c42b0
                    try clear c43
                    try clear c43b0
                    try clear c44
                    try clear c51
                    try clear c52
                    try clear c56
                    try clear c56b0
                    try clear c56b1
                    try clear c57
                    try clear c57b0
                    try clear c57b1
                    try clear p57
                    try clear q57
                    try clear hx57
                    try clear c58
                    try clear c58b0
                    try clear c58b1
                    try clear c58b2
                    try clear p58
                    try clear q58
                    try clear hx58
                    try clear hcz13_0
                    try clear hcz13_1
                    try clear hcz21_0
                    try clear hcz21_1
                    try clear hcz25_0
                    try clear hcz25_1
                    try clear hcz27_0
                    try clear hcz27_1
                    try clear hcz39_0
                    try clear hcz39_1
                    try clear hcz53_0
                    try clear hcz53_1
                    try clear hcz8_0
                    try clear hcz8_1
                    try clear hcz8_2
                    try clear hcz8_3
                    try clear hcz8_4
                    try clear hcz8_5
                    try clear hcz8_6
                    try clear hfz13_0
                    try clear hfz13_1
                    try clear hfz21_0
                    try clear hfz21_1
                    try clear hfz25_0
                    try clear hfz25_1
                    try clear hfz27_0
                    try clear hfz27_1
                    try clear hfz39_0
                    try clear hfz39_1
                    try clear hfz53_0
                    try clear hfz53_1
                    try clear hfz8_0
                    try clear hfz8_1
                    try clear hfz8_2
                    try clear hfz8_3
                    try clear hfz8_4
                    try clear hfz8_5
                    try clear hfz8_6
                    try clear hx575_0
                    try clear hx575_1
                    try clear hx580_0
                    try clear hx580_1
                    try clear p2
                    try clear p5
                    try clear p575
                    try clear p580
                    try clear p6
                    try clear q5
                    try clear q575
                    try clear q580
                    obtain ⟨kq, x102_49, rfl, HA, HJ49, HO_11, HO_15, HO_567000, HO_567001, HO_575000, HO_575001, BK559, BK566, BK574, HB⟩ := hcut
                    cases kq with
                    | zero => exact absurd HA.out (by simp [foretellkeep_StepTwice.j3])
                    | succ kj49 =>
                      have H := HA.out
                      clear HA
                      simp only [foretellkeep_StepTwice.j3] at H
                      by_cases c63 : x102_49 = true
                      · subst c63
                        have H1 : (some false) = some r := by rw [if_pos rfl] at H; exact H
                        clear H
                        have H := H1
                        clear H1
                        exact absurd ((Option.some.inj H).trans hr_.out) (by decide)
                      · replace c63 := Bool.eq_false_iff.mpr c63
                        subst c63
                        have H1 : (foretellkeep_StepTwice.l1 kj49 t570 t584 0) = some r := by rw [if_neg (show ¬ (false = true) by decide)] at H; exact H
                        clear H
                        have H := H1
                        clear H1
                        have H' := Aside0.mk H
                        clear H
                        go_wp2
                        go_loopg [17] kj49 (fun kq v17 w' => ∃ (x17_5 : Int), v17 = .int .i64 x17_5 ∧ Aside0 (foretellkeep_StepTwice.l1 kq t570 t584 x17_5 = some r) ∧ Aside0 (kq ≤ kj49) ∧ Aside0 (Kd.R (Kd.int .i64) 3 w' w.heap.size (fun k_ => some k_ ≠ (v585 : Value).ownBlock) v571 t570) ∧ Aside0 (Kd.R (Kd.int .i64) 3 w' w.heap.size (fun k_ => some k_ ≠ (v571 : Value).ownBlock) v585 t584) ∧ Aside0 (Kd.R k32 32 w' w.heap.size (fun _ => True) (.slice Ao11 t560.length co11) t560) ∧ Aside0 (Kd.N k42 42 w' w.heap.size (fun k_ => some k_ ≠ (v571 : Value).ownBlock ∧ some k_ ≠ (v585 : Value).ownBlock ∧ some k_ ≠ ((.slice Ao11 t560.length co11) : Value).ownBlock ∧ some k_ ≠ ((.slice Ao11 t560.length co11) : Value).ownBlock ∧ some k_ ≠ ((.slice Ao54 x575001_35.length co54) : Value).ownBlock ∧ k_ ≠ gb559 ∧ k_ ≠ gb566 ∧ k_ ≠ gb574) (.slice Ao14 t563.length co14) t563) ∧ Aside0 (Kd.R k32 32 w' w.heap.size (fun _ => True) (.slice Ao11 t560.length co11) t560) ∧ Aside0 (Kd.N k42 42 w' w.heap.size (fun k_ => some k_ ≠ (v571 : Value).ownBlock ∧ some k_ ≠ (v585 : Value).ownBlock ∧ some k_ ≠ ((.slice Ao11 t560.length co11) : Value).ownBlock ∧ some k_ ≠ ((.slice Ao14 t563.length co14) : Value).ownBlock ∧ some k_ ≠ ((.slice Ao11 t560.length co11) : Value).ownBlock ∧ k_ ≠ gb559 ∧ k_ ≠ gb566 ∧ k_ ≠ gb574) (.slice Ao54 x575001_35.length co54) x575001_35) ∧ Aside0 (w'.heap[gb559]? = some (.cells #[.int .i64 a0_0, .int .i64 a0_1, .int .i64 a0_2, .int .i64 a0_3, .int .i64 a0_4, .int .i64 a0_5, (.slice A0_6 l0_6.length c0_6)] 25 (0, 0))) ∧ Aside0 (w'.heap[gb566]? = some (.cells #[(.slice Ao11 t560.length co11), (.slice Ao14 t563.length co14)] 29 (0, 0))) ∧ Aside0 (w'.heap[gb574]? = some (.cells #[(.slice Ao11 t560.length co11), (.slice Ao54 x575001_35.length co54)] 29 (0, 0))) ∧ Aside0 (Below w.heap.size w w'))
                        case atStart => exact ⟨(0), (by first | rfl | (simp; done) | (simp [*]; done)), H', ⟨Nat.le_refl _⟩, ⟨by (with_reducible repeat (first | apply Kd.R_alloc | apply Kd.R_drewN | apply Kd.R_drew)); exact HO_11.out⟩, ⟨by (with_reducible repeat (first | apply Kd.R_alloc | apply Kd.R_drewN | apply Kd.R_drew)); exact HO_15.out⟩, ⟨by (with_reducible repeat (first | apply Kd.R_alloc | apply Kd.R_drewN | apply Kd.R_drew)); exact HO_567000.out⟩, ⟨by (with_reducible repeat (first | apply Kd.N_alloc | apply Kd.N_drewN | apply Kd.N_drew)); exact HO_567001.out⟩, ⟨by (with_reducible repeat (first | apply Kd.R_alloc | apply Kd.R_drewN | apply Kd.R_drew)); exact HO_575000.out⟩, ⟨by (with_reducible repeat (first | apply Kd.N_alloc | apply Kd.N_drewN | apply Kd.N_drew)); exact HO_575001.out⟩, ⟨by (with_reducible repeat (first | refine blk_drewN ?_ _ | refine blk_drew ?_ | refine blk_alloc ?_ _)); exact BK559.out⟩, ⟨by (with_reducible repeat (first | refine blk_drewN ?_ _ | refine blk_drew ?_ | refine blk_alloc ?_ _)); exact BK566.out⟩, ⟨by (with_reducible repeat (first | refine blk_drewN ?_ _ | refine blk_drew ?_ | refine blk_alloc ?_ _)); exact BK574.out⟩, ⟨by repeat (first | (with_reducible first | exact HB.out | apply below_alloc | apply pw_below_drewN | apply below_drew1 | refine below_set ?_ GE559.out | refine below_set ?_ GE566.out | refine below_set ?_ GE574.out) | exact HB.out)⟩⟩
                        case round =>
                          clear H'
                          try clear c1
                          try clear c2
                          try clear p2
                          try clear c3
                          try clear c4
                          try clear c5
                          try clear p5
                          try clear q5
                          try clear hx5
                          try clear c6
                          try clear p6
                          try clear c14
                          try clear c15
                          try clear c16
                          try clear c16b0
                          try clear c16b1
                          try clear c17
                          try clear c18
                          try clear c20
                          try clear c24
                          try clear c26
                          try clear c28
                          try clear c28b0
                          try clear c29
                          try clear c29b0
                          try clear c30
                          try clear c30b0
                          try clear c31
                          try clear c37
                          try clear c38
                          try clear c40
                          try clear c40b0
                          try clear c40b1
                          try clear c42
                          try clear c42b0
                          try clear c43
                          try clear c43b0
                          try clear c44
                          try clear c51
                          try clear c52
                          try clear c56
                          try clear c56b0
                          try clear c56b1
                          try clear c57
                          try clear c57b0
                          try clear c57b1
                          try clear p57
                          try clear q57
                          try clear hx57
                          try clear c58
                          try clear c58b0
                          try clear c58b1
                          try clear c58b2
                          try clear p58
                          try clear q58
                          try clear hx58
                          try clear c63
                          try clear hcz13_0
                          try clear hcz13_1
                          try clear hcz21_0
                          try clear hcz21_1
                          try clear hcz25_0
                          try clear hcz25_1
                          try clear hcz27_0
                          try clear hcz27_1
                          try clear hcz39_0
                          try clear hcz39_1
                          try clear hcz53_0
                          try clear hcz53_1
                          try clear hcz8_0
                          try clear hcz8_1
                          try clear hcz8_2
                          try clear hcz8_3
                          try clear hcz8_4
                          try clear hcz8_5
                          try clear hcz8_6
                          try clear hfz13_0
                          try clear hfz13_1
                          try clear hfz21_0
                          try clear hfz21_1
                          try clear hfz25_0
                          try clear hfz25_1
                          try clear hfz27_0
                          try clear hfz27_1
                          try clear hfz39_0
                          try clear hfz39_1
                          try clear hfz53_0
                          try clear hfz53_1
                          try clear hfz8_0
                          try clear hfz8_1
                          try clear hfz8_2
                          try clear hfz8_3
                          try clear hfz8_4
                          try clear hfz8_5
                          try clear hfz8_6
                          try clear hx575_0
                          try clear hx575_1
                          try clear hx580_0
                          try clear hx580_1
                          try clear p2
                          try clear p5
                          try clear p57
                          try clear p575
                          try clear p58
                          try clear p580
                          try clear p6
                          try clear q5
                          try clear q57
                          try clear q575
                          try clear q58
                          try clear q580
                          obtain ⟨x17_5, rfl, HA, HK5, HO_11, HO_15, HO_567000, HO_567001, HO_575000, HO_575001, BK559, BK566, BK574, HB⟩ := hrel
                          cases gk with
                          | zero => exact absurd HA.out (by simp [foretellkeep_StepTwice.l1])
                          | succ k5 =>
                            have H := HA.out
                            clear HA
                            simp only [foretellkeep_StepTwice.l1] at H
                            by_cases c64 : x17_5 < (t570.length : Int)
                            · rw [if_pos c64] at H
                              have c64b0 : decide (x17_5 < (t570.length : Int)) = true := decide_eq_true c64
                              clear c64
                              by_cases c65 : 0 ≤ x17_5
                              · rw [if_pos c65] at H
                                have c65b0 : decide (0 ≤ x17_5) = true := decide_eq_true c65
                                clear c65
                                by_cases c66 : x17_5 < (t584.length : Int)
                                · rw [if_pos c66] at H
                                  have c66b0 : decide (x17_5 < (t584.length : Int)) = true := decide_eq_true c66
                                  clear c66
                                  by_cases c67 : (rd t570 x17_5) = (rd t584 x17_5)
                                  · rw [if_pos c67] at H
                                    have c67b0 : ((rd t570 x17_5) == (rd t584 x17_5)) = true := beq_iff_eq.mpr c67
                                    have c67b1 : ((rd t570 x17_5) != (rd t584 x17_5)) = false := bne_eq_false_iff_eq.mpr c67
                                    clear c67
                                    have H' := Aside0.mk H
                                    clear H
                                    obtain ⟨Ao68, co68, eo68⟩ := Kd.R_slice HO_11.out
                                    subst eo68
                                    try go_wp2
                                    have n0_ := Aside0.mk (Kd.R_drew HO_11.out)
                                    have n1_ := Aside0.mk (Kd.R_drew HO_15.out)
                                    have n2_ := Aside0.mk (Kd.R_drew HO_567000.out)
                                    have n3_ := Aside0.mk (Kd.N_drew HO_567001.out)
                                    have n4_ := Aside0.mk (Kd.R_drew HO_575000.out)
                                    have n5_ := Aside0.mk (Kd.N_drew HO_575001.out)
                                    have n6_ := Aside0.mk (blk_drew BK559.out)
                                    have n7_ := Aside0.mk (blk_drew BK566.out)
                                    have n8_ := Aside0.mk (blk_drew BK574.out)
                                    have n9_ := Aside0.mk (below_drew1 HB.out)
                                    clear HO_11
                                    clear HO_15
                                    clear HO_567000
                                    clear HO_567001
                                    clear HO_575000
                                    clear HO_575001
                                    clear BK559
                                    clear BK566
                                    clear BK574
                                    clear HB
                                    have HO_11 := n0_
                                    have HO_15 := n1_
                                    have HO_567000 := n2_
                                    have HO_567001 := n3_
                                    have HO_575000 := n4_
                                    have HO_575001 := n5_
                                    have BK559 := n6_
                                    have BK566 := n7_
                                    have BK574 := n8_
                                    have HB := n9_
                                    clear n0_ n1_ n2_ n3_ n4_ n5_ n6_ n7_ n8_ n9_
                                    have p588 : 0 ≤ (x17_5 : Int) := of_decide_eq_true (by first | (with_reducible assumption) | assumption)
                                    have q588 : x17_5 < (t570.length : Int) := of_decide_eq_true (by first | (with_reducible assumption) | assumption)
                                    obtain ⟨ad588, e588, hx588_0⟩ := Kd.at_int (Kd.R_reads' HO_11.out).2.2 x17_5 p588 q588
                                    cases e588
                                    replace p588 := eq_true p588
                                    replace q588 := eq_true q588
                                    obtain ⟨Ao70, co70, eo70⟩ := Kd.R_slice HO_15.out
                                    (first | subst eo70 | (injection eo70 with f1_ f2_ f3_; have f4_ := f1_.symm; have f5_ := f3_.symm; clear f1_ f2_ f3_; subst f4_; subst f5_))
                                    have p589 : 0 ≤ (x17_5 : Int) := of_decide_eq_true (by first | (with_reducible assumption) | assumption)
                                    have q589 : x17_5 < (t584.length : Int) := of_decide_eq_true (by first | (with_reducible assumption) | assumption)
                                    obtain ⟨ad589, e589, hx589_0⟩ := Kd.at_int (Kd.R_reads' HO_15.out).2.2 x17_5 p589 q589
                                    cases e589
                                    replace p589 := eq_true p589
                                    replace q589 := eq_true q589
                                    refine start_ (n := 9) (S := fun w' => w'.cell? (ad588.add (x17_5).toNat) = some (.int .i64 (rd t570 x17_5)) ∧ w'.cell? (ad589.add (x17_5).toNat) = some (.int .i64 (rd t584 x17_5))) (ds := []) #[false, false, false, false, false, false, false, false, false] (by kernel_rfl) rfl rfl ⟨hx588_0, hx589_0⟩ (fun hHeld => ?_); refine with_tabW foretellkeep_StepTwice.tab21 foretellkeep_StepTwice.bits21 (fun HT_ HW_ => ?_)
                                    generalize wr.drew = w69 at HO_11 HO_15 HO_567000 HO_567001 HO_575000 HO_575001 BK559 BK566 BK574 HB hx588_0 hx589_0 hHeld ⊢
                                    refine pure_ (i := 0) (N := some 109) (v := ?_) (a' := ?_) #[true, false, false, false, false, false, false, false, false] rfl rfl (any_of HT_.out (by kernel_rfl)) (fun _ _ _ h => h) (Or.inl ⟨by rfl, ?_⟩) ?_ ?_
                                    rotate_left
                                    · intro w'
                                      go_simp
                                      with_reducible rfl
                                    rotate_left
                                    · simp only [Act.put, List.setIfInBounds_toArray, List.set_cons_zero, List.set_cons_succ, i64_w, i32_w]
                                      rfl
                                    refine pure_ (i := 1) (N := some 110) (v := ?_) (a' := ?_) #[true, true, false, false, false, false, false, false, false] rfl rfl (any_of HT_.out (by kernel_rfl)) (fun _ _ _ h => h) (Or.inl ⟨by rfl, ?_⟩) ?_ ?_
                                    rotate_left
                                    · intro w'
                                      go_simp
                                      with_reducible rfl
                                    rotate_left
                                    · simp only [Act.put, List.setIfInBounds_toArray, List.set_cons_zero, List.set_cons_succ, i64_w, i32_w]
                                      rfl
                                    refine pure_ (i := 2) (N := some 111) (v := ?_) (a' := ?_) #[true, true, true, false, false, false, false, false, false] rfl rfl (any_of HT_.out (by kernel_rfl)) (fun _ _ _ h => h) (Or.inl ⟨by rfl, ?_⟩) ?_ ?_
                                    rotate_left
                                    · intro w'
                                      go_simp
                                      with_reducible rfl
                                    rotate_left
                                    · simp only [Act.put, List.setIfInBounds_toArray, List.set_cons_zero, List.set_cons_succ, i64_w, i32_w]
                                      rfl
                                    refine pure_ (i := 4) (N := some 113) (v := ?_) (a' := ?_) #[true, true, true, false, true, false, false, false, false] rfl rfl (any_of HT_.out (by kernel_rfl)) (fun _ _ _ h => h) (Or.inl ⟨by rfl, ?_⟩) ?_ ?_
                                    rotate_left
                                    · intro w'
                                      go_simp
                                      with_reducible rfl
                                    rotate_left
                                    · simp only [Act.put, List.setIfInBounds_toArray, List.set_cons_zero, List.set_cons_succ, i64_w, i32_w]
                                      rfl
                                    refine pure_ (i := 5) (N := some 114) (v := ?_) (a' := ?_) #[true, true, true, false, true, true, false, false, false] rfl rfl (any_of HT_.out (by kernel_rfl)) (fun _ _ _ h => h) (Or.inl ⟨by rfl, ?_⟩) ?_ ?_
                                    rotate_left
                                    · intro w'
                                      go_simp
                                      with_reducible rfl
                                    rotate_left
                                    · simp only [Act.put, List.setIfInBounds_toArray, List.set_cons_zero, List.set_cons_succ, i64_w, i32_w]
                                      rfl
                                    refine pure_ (i := 6) (N := some 115) (v := ?_) (a' := ?_) #[true, true, true, false, true, true, true, false, false] rfl rfl (any_of HT_.out (by kernel_rfl)) (fun _ _ _ h => h) (Or.inl ⟨by rfl, ?_⟩) ?_ ?_
                                    rotate_left
                                    · intro w'
                                      go_simp
                                      with_reducible rfl
                                    rotate_left
                                    · simp only [Act.put, List.setIfInBounds_toArray, List.set_cons_zero, List.set_cons_succ, i64_w, i32_w]
                                      rfl
                                    refine take_ (i := 3) (N := some 112) (v := ?_) (a' := ?_) #[true, true, true, true, true, true, true, false, false] rfl rfl (take_ofW HT_.out HW_.out (by kernel_rfl)) (fun _ _ _ h => h) (Or.inl ⟨by rfl, ?_⟩) hHeld ?_ ?_
                                    rotate_left
                                    · rintro w' ⟨s0, s1⟩
                                      go_simp
                                      with_reducible rfl
                                    rotate_left
                                    · simp only [Act.put, List.setIfInBounds_toArray, List.set_cons_zero, List.set_cons_succ, i64_w, i32_w]
                                      rfl
                                    refine take_ (i := 7) (N := some 116) (v := ?_) (a' := ?_) #[true, true, true, true, true, true, true, true, false] rfl rfl (take_ofW HT_.out HW_.out (by kernel_rfl)) (fun _ _ _ h => h) (Or.inl ⟨by rfl, ?_⟩) hHeld ?_ ?_
                                    rotate_left
                                    · rintro w' ⟨s0, s1⟩
                                      go_simp
                                      with_reducible rfl
                                    rotate_left
                                    · simp only [Act.put, List.setIfInBounds_toArray, List.set_cons_zero, List.set_cons_succ, i64_w, i32_w]
                                      rfl
                                    refine pure_ (i := 8) (N := some 117) (v := ?_) (a' := ?_) #[true, true, true, true, true, true, true, true, true] rfl rfl (any_of HT_.out (by kernel_rfl)) (fun _ _ _ h => h) (Or.inl ⟨by rfl, ?_⟩) ?_ ?_
                                    rotate_left
                                    · intro w'
                                      go_simp
                                      with_reducible rfl
                                    rotate_left
                                    · simp only [Act.put, List.setIfInBounds_toArray, List.set_cons_zero, List.set_cons_succ, i64_w, i32_w]
                                      rfl
                                    refine done_ (done_of HT_.out (by kernel_rfl)) ?_
                                    try go_wp2
                                    go_roundg k5
                                    case measure => have := HJ5.out; have := HK2.out; have := HJ35.out; have := HJ49.out; have := HK5.out; omega
                                    case rel => exact ⟨(wrap64 (x17_5 + 1)), (by first | rfl | (simp; done) | (simp [*]; done)), H', ⟨by have := HJ5.out; have := HK2.out; have := HJ35.out; have := HJ49.out; have := HK5.out; omega⟩, ⟨by (with_reducible repeat (first | apply Kd.R_alloc | apply Kd.R_drewN | apply Kd.R_drew)); exact HO_11.out⟩, ⟨by (with_reducible repeat (first | apply Kd.R_alloc | apply Kd.R_drewN | apply Kd.R_drew)); exact HO_15.out⟩, ⟨by (with_reducible repeat (first | apply Kd.R_alloc | apply Kd.R_drewN | apply Kd.R_drew)); exact HO_567000.out⟩, ⟨by (with_reducible repeat (first | apply Kd.N_alloc | apply Kd.N_drewN | apply Kd.N_drew)); exact HO_567001.out⟩, ⟨by (with_reducible repeat (first | apply Kd.R_alloc | apply Kd.R_drewN | apply Kd.R_drew)); exact HO_575000.out⟩, ⟨by (with_reducible repeat (first | apply Kd.N_alloc | apply Kd.N_drewN | apply Kd.N_drew)); exact HO_575001.out⟩, ⟨by (with_reducible repeat (first | refine blk_drewN ?_ _ | refine blk_drew ?_ | refine blk_alloc ?_ _)); exact BK559.out⟩, ⟨by (with_reducible repeat (first | refine blk_drewN ?_ _ | refine blk_drew ?_ | refine blk_alloc ?_ _)); exact BK566.out⟩, ⟨by (with_reducible repeat (first | refine blk_drewN ?_ _ | refine blk_drew ?_ | refine blk_alloc ?_ _)); exact BK574.out⟩, ⟨by repeat (first | (with_reducible first | exact HB.out | apply below_alloc | apply pw_below_drewN | apply below_drew1 | refine below_set ?_ GE559.out | refine below_set ?_ GE566.out | refine below_set ?_ GE574.out) | exact HB.out)⟩⟩
                                  · rw [if_neg c67] at H
                                    exact absurd ((Option.some.inj H).trans hr_.out) (by decide)
                                · rw [if_neg c66] at H
                                  exact absurd H (by simp)
                              · rw [if_neg c65] at H
                                exact absurd H (by simp)
                            · rw [if_neg c64] at H
                              have c64b0 : decide (x17_5 < (t570.length : Int)) = false := decide_eq_false c64
                              clear c64
                              obtain rfl := Option.some.inj H
                              obtain ⟨Ao71, co71, eo71⟩ := Kd.R_slice HO_11.out
                              subst eo71
                              go_wp2
                              go_ret
                              exact ⟨by first | rfl | (simp [errW_none, errW_some] <;> rfl) | (simp [*, errW_none, errW_some] <;> rfl), by repeat (first | (with_reducible first | exact HB.out | apply below_alloc | apply pw_below_drewN | apply below_drew1 | refine below_set ?_ GE559.out | refine below_set ?_ GE566.out | refine below_set ?_ GE574.out) | exact HB.out)⟩

end Go.Proofs.YteennleoieafiaaDoor.P
end
