-- PACKED by pack.py of this repo: FForetellkeepLassoGoes
import Derived.Test.YtpkigkmkolbiiaaK2
import Derived.Test.YtpkigkmkolbiiaaK4
import Derived.Test.YtpkigkmkolbiiaaK13
import Derived.Test.YtpkigkmkolbiiaaK14
import Derived.Test.YtpkigkmkolbiiaaK3
section
namespace Go.Proofs.Ytpkigkmkolbiiaa.P
open Go.RowKit Go.Proofs.YtpkigkmkolbiiaaW.PrintWords Go.Proofs.YtpkigkmkolbiiaaW.PrintLast Go.Proofs.YtpkigkmkolbiiaaW.PrintMore Go.Proofs.Ytpkigkmkolbiiaa.G
attribute [local go_sem] max2_int min2_int max_two min_two max_three min_three max_four min_four   -- for this text's walks alone
set_option linter.unusedVariables false
set_option linter.unusedSimpArgs false

/-! ### foretellkeep_LassoGoes: function 8 -/
mutual
def foretellkeep_LassoGoes.j0 : Nat → Int → Int → Int → Bool → List (S45) → Int → List (List Int) → List Int → Int → List Int → List Int → Option (Bool)
 | 0, _, _, _, _, _, _, _, _, _, _, _ => none
 | k + 1, x5, x6, x7, x30, x408000, x408001, x408002, x408003, x408004, x416000, x416001 => if x30 = true then (if x5 = x7 then (if x5 = 11 then (if (x416001.length : Int) = 0 then (some (x6 == 0)) else (some false)) else (some false)) else (some false)) else (if ([] : List Int).length + x416000.length < 17592186044416 then ((some (([] : List Int) ++ x416000 : List Int)).bind fun y418 => (if y418.length + x416001.length < 17592186044416 then ((some (y418 ++ x416001 : List Int)).bind fun y421 => (if (x416001.length : Int) = 0 then (foretellkeep_LassoGoes.j1 k y421 true x408000 x408001 x408002 x408003 x408004 x416000 x416001) else (if 0 < (y421.length : Int) then (if (rd y421 0) < 0 then (foretellkeep_LassoGoes.j1 k y421 true x408000 x408001 x408002 x408003 x408004 x416000 x416001) else (foretellkeep_LassoGoes.j1 k y421 (decide ((rd y421 0) ≥ x408001)) x408000 x408001 x408002 x408003 x408004 x416000 x416001)) else (none)))) else (none))) else (none))
def foretellkeep_LassoGoes.j1 : Nat → List Int → Bool → List (S45) → Int → List (List Int) → List Int → Int → List Int → List Int → Option (Bool)
 | 0, _, _, _, _, _, _, _, _, _ => none
 | k + 1, x8, x71, x408000, x408001, x408002, x408003, x408004, x416000, x416001 => if x71 = true then (some false) else (foretellkeep_LassoGoes.l0 k x8 0 0 x408000 x408001 x408002 x408003 x408004 x416000 x416001)
def foretellkeep_LassoGoes.l0 : Nat → List Int → Int → Int → List (S45) → Int → List (List Int) → List Int → Int → List Int → List Int → Option (Bool)
 | 0, _, _, _, _, _, _, _, _, _, _ => none
 | k + 1, x8, x9, x10, x408000, x408001, x408002, x408003, x408004, x416000, x416001 => if x10 < (x8.length : Int) then (if 0 < (x416001.length : Int) then (if (wrap64 (x10 + 1)) < (x8.length : Int) then (if 0 ≤ (wrap64 (x10 + 1)) then (foretellkeep_LassoGoes.j3 k x8 x9 x10 (rd x8 (wrap64 (x10 + 1))) x408000 x408001 x408002 x408003 x408004 x416000 x416001) else (none)) else (foretellkeep_LassoGoes.j3 k x8 x9 x10 (rd x416001 0) x408000 x408001 x408002 x408003 x408004 x416000 x416001)) else (none)) else (if 0 ≤ x408004 then (some (x9 == (wrap64 ((shl .i64 1 x408004) - 1)))) else (none))
def foretellkeep_LassoGoes.j3 : Nat → List Int → Int → Int → Int → List (S45) → Int → List (List Int) → List Int → Int → List Int → List Int → Option (Bool)
 | 0, _, _, _, _, _, _, _, _, _, _, _ => none
 | k + 1, x8, x9, x10, x11, x408000, x408001, x408002, x408003, x408004, x416000, x416001 => if 0 ≤ x10 then (if x10 < (x8.length : Int) then ((foretellkeep_leads.f k x408000 x408001 x408002 x408003 x408004 (rd x8 x10) x11).bind fun t429 => (if t429 = true then (if x10 ≥ (x416000.length : Int) then (if 0 ≤ (rd x8 x10) then (if (rd x8 x10) < (x408003.length : Int) then (foretellkeep_LassoGoes.l0 k x8 (Go.bits .or .i64 x9 (rd x408003 (rd x8 x10))) (wrap64 (x10 + 1)) x408000 x408001 x408002 x408003 x408004 x416000 x416001) else (none)) else (none)) else (foretellkeep_LassoGoes.l0 k x8 x9 (wrap64 (x10 + 1)) x408000 x408001 x408002 x408003 x408004 x416000 x416001)) else (some false))) else (none)) else (none)
end
def foretellkeep_LassoGoes.f (k : Nat) (l0_0 : List (List Int)) (l0_1 : List Int) (a0_2 : Int) (a0_3 : Int) : Option (Bool) := (foretellkeep_Graph.f k l0_0 l0_1 a0_2 a0_3).bind fun bt396 => ((scc_Lasso.f k bt396.1 bt396.2.1 bt396.2.2.1 bt396.2.2.2.1 bt396.2.2.2.2).bind fun bt408 => ((scc_Fair.f k bt396.1 bt396.2.1 bt396.2.2.1 bt396.2.2.2.1 bt396.2.2.2.2).bind fun bt416 => (if bt408.2.2 = bt416.2 then (foretellkeep_LassoGoes.j0 k bt408.2.2 bt416.1 bt416.2 (bt408.2.2 != 0) bt396.1 bt396.2.1 bt396.2.2.1 bt396.2.2.2.1 bt396.2.2.2.2 bt408.1 bt408.2.1) else (foretellkeep_LassoGoes.j0 k bt408.2.2 bt416.1 bt416.2 true bt396.1 bt396.2.1 bt396.2.2.1 bt396.2.2.2.1 bt396.2.2.2.2 bt408.1 bt408.2.1))))
theorem foretellkeep_LassoGoes.mono_l : ∀ k, (∀ y0 y1 y2 y3 y4 y5 y6 y7 y8 y9 y10, LeO (foretellkeep_LassoGoes.j0 k y0 y1 y2 y3 y4 y5 y6 y7 y8 y9 y10) (foretellkeep_LassoGoes.j0 (k + 1) y0 y1 y2 y3 y4 y5 y6 y7 y8 y9 y10)) ∧ (∀ y0 y1 y2 y3 y4 y5 y6 y7 y8, LeO (foretellkeep_LassoGoes.j1 k y0 y1 y2 y3 y4 y5 y6 y7 y8) (foretellkeep_LassoGoes.j1 (k + 1) y0 y1 y2 y3 y4 y5 y6 y7 y8)) ∧ (∀ y0 y1 y2 y3 y4 y5 y6 y7 y8 y9, LeO (foretellkeep_LassoGoes.l0 k y0 y1 y2 y3 y4 y5 y6 y7 y8 y9) (foretellkeep_LassoGoes.l0 (k + 1) y0 y1 y2 y3 y4 y5 y6 y7 y8 y9)) ∧ (∀ y0 y1 y2 y3 y4 y5 y6 y7 y8 y9 y10, LeO (foretellkeep_LassoGoes.j3 k y0 y1 y2 y3 y4 y5 y6 y7 y8 y9 y10) (foretellkeep_LassoGoes.j3 (k + 1) y0 y1 y2 y3 y4 y5 y6 y7 y8 y9 y10))
 | 0 => ⟨fun _ _ _ _ _ _ _ _ _ _ _ r h => by simp [foretellkeep_LassoGoes.j0] at h, fun _ _ _ _ _ _ _ _ _ r h => by simp [foretellkeep_LassoGoes.j1] at h, fun _ _ _ _ _ _ _ _ _ _ r h => by simp [foretellkeep_LassoGoes.l0] at h, fun _ _ _ _ _ _ _ _ _ _ _ r h => by simp [foretellkeep_LassoGoes.j3] at h⟩
 | k + 1 => by
  obtain ⟨ih0, ih1, ih2, ih3⟩ := foretellkeep_LassoGoes.mono_l k
  refine ⟨?_, ?_, ?_, ?_⟩
  ·
   intro y0 y1 y2 y3 y4 y5 y6 y7 y8 y9 y10
   unfold foretellkeep_LassoGoes.j0
   repeat' first
   | (with_reducible exact ih0 _ _ _ _ _ _ _ _ _ _ _)
   | (with_reducible exact ih1 _ _ _ _ _ _ _ _ _)
   | (with_reducible exact ih2 _ _ _ _ _ _ _ _ _ _)
   | (with_reducible exact ih3 _ _ _ _ _ _ _ _ _ _ _)
   | (with_reducible exact foretellkeep_Graph.mono _ _ _ _ _)
   | (with_reducible exact foretellkeep_leads.mono _ _ _ _ _ _ _ _)
   | (with_reducible exact scc_Fair.mono _ _ _ _ _ _)
   | (with_reducible exact scc_Lasso.mono _ _ _ _ _ _)
   | (with_reducible exact LeO.refl _)
   | (with_reducible exact LeO.none _)
   | (with_reducible refine LeO.ite ?_ ?_)
   | (with_reducible refine LeO.bind ?_ (fun _ => ?_))
   | exact ih0 _ _ _ _ _ _ _ _ _ _ _
   | exact ih1 _ _ _ _ _ _ _ _ _
   | exact ih2 _ _ _ _ _ _ _ _ _ _
   | exact ih3 _ _ _ _ _ _ _ _ _ _ _
   | exact foretellkeep_Graph.mono _ _ _ _ _
   | exact foretellkeep_leads.mono _ _ _ _ _ _ _ _
   | exact scc_Fair.mono _ _ _ _ _ _
   | exact scc_Lasso.mono _ _ _ _ _ _
   | exact LeO.none _
   | refine LeO.ite ?_ ?_
   | refine LeO.bind ?_ (fun _ => ?_)
  ·
   intro y0 y1 y2 y3 y4 y5 y6 y7 y8
   unfold foretellkeep_LassoGoes.j1
   repeat' first
   | (with_reducible exact ih0 _ _ _ _ _ _ _ _ _ _ _)
   | (with_reducible exact ih1 _ _ _ _ _ _ _ _ _)
   | (with_reducible exact ih2 _ _ _ _ _ _ _ _ _ _)
   | (with_reducible exact ih3 _ _ _ _ _ _ _ _ _ _ _)
   | (with_reducible exact foretellkeep_Graph.mono _ _ _ _ _)
   | (with_reducible exact foretellkeep_leads.mono _ _ _ _ _ _ _ _)
   | (with_reducible exact scc_Fair.mono _ _ _ _ _ _)
   | (with_reducible exact scc_Lasso.mono _ _ _ _ _ _)
   | (with_reducible exact LeO.refl _)
   | (with_reducible exact LeO.none _)
   | (with_reducible refine LeO.ite ?_ ?_)
   | (with_reducible refine LeO.bind ?_ (fun _ => ?_))
   | exact ih0 _ _ _ _ _ _ _ _ _ _ _
   | exact ih1 _ _ _ _ _ _ _ _ _
   | exact ih2 _ _ _ _ _ _ _ _ _ _
   | exact ih3 _ _ _ _ _ _ _ _ _ _ _
   | exact foretellkeep_Graph.mono _ _ _ _ _
   | exact foretellkeep_leads.mono _ _ _ _ _ _ _ _
   | exact scc_Fair.mono _ _ _ _ _ _
   | exact scc_Lasso.mono _ _ _ _ _ _
   | exact LeO.none _
   | refine LeO.ite ?_ ?_
   | refine LeO.bind ?_ (fun _ => ?_)
  ·
   intro y0 y1 y2 y3 y4 y5 y6 y7 y8 y9
   unfold foretellkeep_LassoGoes.l0
   repeat' first
   | (with_reducible exact ih0 _ _ _ _ _ _ _ _ _ _ _)
   | (with_reducible exact ih1 _ _ _ _ _ _ _ _ _)
   | (with_reducible exact ih2 _ _ _ _ _ _ _ _ _ _)
   | (with_reducible exact ih3 _ _ _ _ _ _ _ _ _ _ _)
   | (with_reducible exact foretellkeep_Graph.mono _ _ _ _ _)
   | (with_reducible exact foretellkeep_leads.mono _ _ _ _ _ _ _ _)
   | (with_reducible exact scc_Fair.mono _ _ _ _ _ _)
   | (with_reducible exact scc_Lasso.mono _ _ _ _ _ _)
   | (with_reducible exact LeO.refl _)
   | (with_reducible exact LeO.none _)
   | (with_reducible refine LeO.ite ?_ ?_)
   | (with_reducible refine LeO.bind ?_ (fun _ => ?_))
   | exact ih0 _ _ _ _ _ _ _ _ _ _ _
   | exact ih1 _ _ _ _ _ _ _ _ _
   | exact ih2 _ _ _ _ _ _ _ _ _ _
   | exact ih3 _ _ _ _ _ _ _ _ _ _ _
   | exact foretellkeep_Graph.mono _ _ _ _ _
   | exact foretellkeep_leads.mono _ _ _ _ _ _ _ _
   | exact scc_Fair.mono _ _ _ _ _ _
   | exact scc_Lasso.mono _ _ _ _ _ _
   | exact LeO.none _
   | refine LeO.ite ?_ ?_
   | refine LeO.bind ?_ (fun _ => ?_)
  ·
   intro y0 y1 y2 y3 y4 y5 y6 y7 y8 y9 y10
   unfold foretellkeep_LassoGoes.j3
   repeat' first
   | (with_reducible exact ih0 _ _ _ _ _ _ _ _ _ _ _)
   | (with_reducible exact ih1 _ _ _ _ _ _ _ _ _)
   | (with_reducible exact ih2 _ _ _ _ _ _ _ _ _ _)
   | (with_reducible exact ih3 _ _ _ _ _ _ _ _ _ _ _)
   | (with_reducible exact foretellkeep_Graph.mono _ _ _ _ _)
   | (with_reducible exact foretellkeep_leads.mono _ _ _ _ _ _ _ _)
   | (with_reducible exact scc_Fair.mono _ _ _ _ _ _)
   | (with_reducible exact scc_Lasso.mono _ _ _ _ _ _)
   | (with_reducible exact LeO.refl _)
   | (with_reducible exact LeO.none _)
   | (with_reducible refine LeO.ite ?_ ?_)
   | (with_reducible refine LeO.bind ?_ (fun _ => ?_))
   | exact ih0 _ _ _ _ _ _ _ _ _ _ _
   | exact ih1 _ _ _ _ _ _ _ _ _
   | exact ih2 _ _ _ _ _ _ _ _ _ _
   | exact ih3 _ _ _ _ _ _ _ _ _ _ _
   | exact foretellkeep_Graph.mono _ _ _ _ _
   | exact foretellkeep_leads.mono _ _ _ _ _ _ _ _
   | exact scc_Fair.mono _ _ _ _ _ _
   | exact scc_Lasso.mono _ _ _ _ _ _
   | exact LeO.none _
   | refine LeO.ite ?_ ?_
   | refine LeO.bind ?_ (fun _ => ?_)
theorem foretellkeep_LassoGoes.mono : ∀ a0 a1 a2 a3 k, LeO (foretellkeep_LassoGoes.f k a0 a1 a2 a3) (foretellkeep_LassoGoes.f (k + 1) a0 a1 a2 a3) := by
 intro a0 a1 a2 a3 k
 obtain ⟨ih0, ih1, ih2, ih3⟩ := foretellkeep_LassoGoes.mono_l k
 unfold foretellkeep_LassoGoes.f
 repeat' first
   | (with_reducible exact ih0 _ _ _ _ _ _ _ _ _ _ _)
   | (with_reducible exact ih1 _ _ _ _ _ _ _ _ _)
   | (with_reducible exact ih2 _ _ _ _ _ _ _ _ _ _)
   | (with_reducible exact ih3 _ _ _ _ _ _ _ _ _ _ _)
   | (with_reducible exact foretellkeep_Graph.mono _ _ _ _ _)
   | (with_reducible exact foretellkeep_leads.mono _ _ _ _ _ _ _ _)
   | (with_reducible exact scc_Fair.mono _ _ _ _ _ _)
   | (with_reducible exact scc_Lasso.mono _ _ _ _ _ _)
   | (with_reducible exact LeO.refl _)
   | (with_reducible exact LeO.none _)
   | (with_reducible refine LeO.ite ?_ ?_)
   | (with_reducible refine LeO.bind ?_ (fun _ => ?_))
   | exact ih0 _ _ _ _ _ _ _ _ _ _ _
   | exact ih1 _ _ _ _ _ _ _ _ _
   | exact ih2 _ _ _ _ _ _ _ _ _ _
   | exact ih3 _ _ _ _ _ _ _ _ _ _ _
   | exact foretellkeep_Graph.mono _ _ _ _ _
   | exact foretellkeep_leads.mono _ _ _ _ _ _ _ _
   | exact scc_Fair.mono _ _ _ _ _ _
   | exact scc_Lasso.mono _ _ _ _ _ _
   | exact LeO.none _
   | refine LeO.ite ?_ ?_
   | refine LeO.bind ?_ (fun _ => ?_)
def foretellkeep_LassoGoes.T7 : Bool × List (List Nat × List Nat) := (true, [([], []), ([0], [0]), ([1], [1]), ([2], [2]), ([3], [3]), ([4], [4]), ([5, 4], [4, 5]), ([6, 4], [4, 6]), ([7, 4], [4, 7]), ([4, 8], [4, 8]), ([9, 4], [9]), ([10], [10]), ([11, 10], [10, 11]), ([12, 10], [10, 12]), ([10], [10]), ([14, 10], [10, 14]), ([13, 15, 10], [10, 13, 15]), ([10, 16], [10, 16])])
def foretellkeep_LassoGoes.B7 : List Nat := [0, 1, 3, 7, 15, 31, 63, 127, 255, 511, 1023, 2047, 4095, 8191, 2047, 18431, 65535, 131071]
theorem foretellkeep_LassoGoes.tab7 : rtab .any (opsOf Try.f8 7) = foretellkeep_LassoGoes.T7 := by kernel_rfl
theorem foretellkeep_LassoGoes.bits7 : waitsOk foretellkeep_LassoGoes.T7.2 foretellkeep_LassoGoes.B7 = true := by kernel_rfl
def foretellkeep_LassoGoes.T16 : Bool × List (List Nat × List Nat) := (true, [([], []), ([], []), ([], []), ([1, 2], [1, 2]), ([3], [3]), ([], []), ([0, 4, 5], [0, 4, 5]), ([6], [6])])
def foretellkeep_LassoGoes.B16 : List Nat := [0, 0, 0, 6, 14, 0, 63, 127]
theorem foretellkeep_LassoGoes.tab16 : rtab .any (opsOf Try.f8 16) = foretellkeep_LassoGoes.T16 := by kernel_rfl
theorem foretellkeep_LassoGoes.bits16 : waitsOk foretellkeep_LassoGoes.T16.2 foretellkeep_LassoGoes.B16 = true := by kernel_rfl
def foretellkeep_LassoGoes.T19 : Bool × List (List Nat × List Nat) := (true, [([], []), ([], []), ([1], [1]), ([], []), ([], []), ([3, 4], [3, 4]), ([5], [5]), ([2, 6], [2, 6]), ([7], [7]), ([0, 8], [0, 8]), ([9, 0, 1, 2, 3, 4, 5, 6, 7, 8, 9], [0, 9])])
def foretellkeep_LassoGoes.B19 : List Nat := [0, 0, 2, 0, 0, 24, 56, 126, 254, 511, 1023]
theorem foretellkeep_LassoGoes.tab19 : rtab .any (opsOf Try.f8 19) = foretellkeep_LassoGoes.T19 := by kernel_rfl
theorem foretellkeep_LassoGoes.bits19 : waitsOk foretellkeep_LassoGoes.T19.2 foretellkeep_LassoGoes.B19 = true := by kernel_rfl
set_option maxHeartbeats 8000000 in
set_option maxRecDepth 100000 in
theorem foretellkeep_LassoGoes.calls (k : Nat) (A0_0 : Option Addr) (c0_0 : Nat) (l0_0 : List (List Int)) (A0_1 : Option Addr) (c0_1 : Nat) (l0_1 : List Int) (a0_2 : Int) (a0_3 : Int) (r : Bool) (w : World) (hr0_0 : Kd.C (Kd.slice 3 (Kd.int .i64)) w A0_0 l0_0.length l0_0) (hc0_0 : l0_0.length ≤ c0_0) (hr0_1 : Kd.C (Kd.int .i64) w A0_1 l0_1.length l0_1) (hc0_1 : l0_1.length ≤ c0_1) (hr_ : Aside0 (r = true)) (h : foretellkeep_LassoGoes.f k l0_0 l0_1 a0_2 a0_3 = some r) :
  Calls Try.prog 8 #[.agg #[.slice A0_0 l0_0.length c0_0, .slice A0_1 l0_1.length c0_1, .int .i64 a0_2, .int .i64 a0_3]] w fun e w' => e = .returned (.bool r) ∧ Below w.heap.size w w' := by
 have hu25 := Try.underlying25
 have hu28 := Try.underlying28
 have hu48 := Try.underlying48
 have HR0_0 := Aside0.mk hr0_0
 have HC0_0 := Aside0.mk hc0_0
 clear hr0_0 hc0_0
 have HR0_1 := Aside0.mk hr0_1
 have HC0_1 := Aside0.mk hc0_1
 clear hr0_1 hc0_1
 have HB := Aside0.mk (Below.refl w.heap.size w)
 have H : ((foretellkeep_Graph.f k l0_0 l0_1 a0_2 a0_3).bind fun bt396 => ((scc_Lasso.f k bt396.1 bt396.2.1 bt396.2.2.1 bt396.2.2.2.1 bt396.2.2.2.2).bind fun bt408 => ((scc_Fair.f k bt396.1 bt396.2.1 bt396.2.2.1 bt396.2.2.2.1 bt396.2.2.2.2).bind fun bt416 => (if bt408.2.2 = bt416.2 then (foretellkeep_LassoGoes.j0 k bt408.2.2 bt416.1 bt416.2 (bt408.2.2 != 0) bt396.1 bt396.2.1 bt396.2.2.1 bt396.2.2.2.1 bt396.2.2.2.2 bt408.1 bt408.2.1) else (foretellkeep_LassoGoes.j0 k bt408.2.2 bt416.1 bt416.2 true bt396.1 bt396.2.1 bt396.2.2.1 bt396.2.2.2.1 bt396.2.2.2.2 bt408.1 bt408.2.1))))) = some r := h
 clear h
 replace H := Option.bind_eq_some_iff.mp H
 obtain ⟨⟨t396, t399, t400, t403, t406⟩, A20, H⟩ := H
 replace H : ((scc_Lasso.f k t396 t399 t400 t403 t406).bind fun bt408 => ((scc_Fair.f k t396 t399 t400 t403 t406).bind fun bt416 => (if bt408.2.2 = bt416.2 then (foretellkeep_LassoGoes.j0 k bt408.2.2 bt416.1 bt416.2 (bt408.2.2 != 0) t396 t399 t400 t403 t406 bt408.1 bt408.2.1) else (foretellkeep_LassoGoes.j0 k bt408.2.2 bt416.1 bt416.2 true t396 t399 t400 t403 t406 bt408.1 bt408.2.1)))) = some r := H
 have A2 := Aside0.mk A20
 clear A20
 replace H := Option.bind_eq_some_iff.mp H
 obtain ⟨⟨t408, t411, t414⟩, A30, H⟩ := H
 replace H : ((scc_Fair.f k t396 t399 t400 t403 t406).bind fun bt416 => (if t414 = bt416.2 then (foretellkeep_LassoGoes.j0 k t414 bt416.1 bt416.2 (t414 != 0) t396 t399 t400 t403 t406 t408 t411) else (foretellkeep_LassoGoes.j0 k t414 bt416.1 bt416.2 true t396 t399 t400 t403 t406 t408 t411))) = some r := H
 have A3 := Aside0.mk A30
 clear A30
 replace H := Option.bind_eq_some_iff.mp H
 obtain ⟨⟨t416, t417⟩, A40, H⟩ := H
 replace H : (if t414 = t417 then (foretellkeep_LassoGoes.j0 k t414 t416 t417 (t414 != 0) t396 t399 t400 t403 t406 t408 t411) else (foretellkeep_LassoGoes.j0 k t414 t416 t417 true t396 t399 t400 t403 t406 t408 t411)) = some r := H
 have A4 := Aside0.mk A40
 clear A40
 have HC5 := Aside0.mk H
 clear H
 go_enter Try.func8, Try.ntmps8
 go_upto_region 4 with (first | ((with_reducible refine gate_dst (N := 1) rfl ?_); (try (refine gate_guard (by rfl) ?_; dsimp only)); refine box_event ?hg (N := 1) ?hd (cs := #[.slice A0_0 l0_0.length c0_0, .slice A0_1 l0_1.length c0_1, .int .i64 a0_2, .int .i64 a0_3]) (t := 25) ?hr ?_; (case hd => rfl); (case hg => rfl); (case hr => first | (go_simp; done) | (go_simp; rfl)); intro gb395 hg w6 hbox hb; have n0_ := Aside0.mk (below_step (by repeat (first | (with_reducible first | exact HB.out | apply below_alloc | apply pw_below_drewN | apply below_drew1) | exact HB.out)) hb); have n1_ := Aside0.mk (hbox); have n2_ := Aside0.mk ((by rw [hg]; exact (below_size (by repeat (first | (with_reducible first | exact HB.out | apply below_alloc | apply pw_below_drewN | apply below_drew1) | exact HB.out))) : w.heap.size ≤ gb395)); have n3_ := Aside0.mk ((by rw [hg]; exact (below_size (by repeat (first | (with_reducible first | exact HB.out | apply below_alloc | apply pw_below_drewN | apply below_drew1) | exact HB.out))) : w.heap.size ≤ gb395)); clear HB; have HB := n0_; have BK395 := n1_; have GW395 := n2_; have GE395 := n3_; clear n0_ n1_ n2_ n3_; clear hb hbox hg; have hcz7_0 : w6.cell? ⟨gb395, 0, none⟩ = some (.slice A0_0 l0_0.length c0_0) := (blk_cell BK395.out 0).trans rfl; have hcz7_1 : w6.cell? ⟨gb395, 1, none⟩ = some (.slice A0_1 l0_1.length c0_1) := (blk_cell BK395.out 1).trans rfl; have hcz7_2 : w6.cell? ⟨gb395, 2, none⟩ = some (.int .i64 a0_2) := (blk_cell BK395.out 2).trans rfl; have hcz7_3 : w6.cell? ⟨gb395, 3, none⟩ = some (.int .i64 a0_3) := (blk_cell BK395.out 3).trans rfl; have hfz7_0 := blk_frozen BK395.out 0; have hfz7_1 := blk_frozen BK395.out 1; have hfz7_2 := blk_frozen BK395.out 2; have hfz7_3 := blk_frozen BK395.out 3) | ((with_reducible refine gate_callee (f := 9) rfl ?_); refine goesL_ (some 13) rfl rfl Try.func9 (by kernel_rfl) rfl #[.agg #[.slice A0_0 l0_0.length c0_0, .slice A0_1 l0_1.length c0_1, .int .i64 a0_2, .int .i64 a0_3]] rfl (by (try simp only [List.map_toArray, List.map_cons, List.map_nil]); first | done | rfl | (simp only [List.length_drop, List.length_take]; rfl)) ?_; (with_reducible refine (foretellkeep_Graph.calls k _ _ l0_0 _ _ l0_1 a0_2 a0_3 t396 t399 t400 t403 t406 _ ?side1 ?side2 ?side3 ?side4 A2.out).mono ?_); (case side1 => repeat (first | exact (Kd.C_below HR0_0.out HB.out) | (with_reducible refine Kd.C_alloc ?_ _) | (with_reducible refine Kd.C_drewN ?_ _) | (with_reducible refine Kd.C_drew ?_))); (case side2 => exact HC0_0.out); (case side3 => repeat (first | exact (Kd.C_below HR0_1.out HB.out) | (with_reducible refine Kd.C_alloc ?_ _) | (with_reducible refine Kd.C_drewN ?_ _) | (with_reducible refine Kd.C_drew ?_))); (case side4 => exact HC0_1.out); rintro e w8 ⟨v397, v401, v404, rfl, ho0, ho1, ho2, hb⟩; refine ⟨_, rfl, ?_⟩; have n0_ := Aside0.mk (Kd.R_lower ho0 (below_size (by repeat (first | (with_reducible first | exact HB.out | apply below_alloc | apply pw_below_drewN | apply below_drew1 | refine below_set ?_ GE395.out) | exact HB.out)))); have n1_ := Aside0.mk (Kd.S_lower ho1 (below_size (by repeat (first | (with_reducible first | exact HB.out | apply below_alloc | apply pw_below_drewN | apply below_drew1 | refine below_set ?_ GE395.out) | exact HB.out)))); have n2_ := Aside0.mk (Kd.R_lower ho2 (below_size (by repeat (first | (with_reducible first | exact HB.out | apply below_alloc | apply pw_below_drewN | apply below_drew1 | refine below_set ?_ GE395.out) | exact HB.out)))); have n3_ := Aside0.mk (blk_below (g := gb395) (o := .cells #[.slice A0_0 l0_0.length c0_0, .slice A0_1 l0_1.length c0_1, .int .i64 a0_2, .int .i64 a0_3] 25 (0, 0)) (by (with_reducible repeat (first | refine blk_drewN ?_ _ | refine blk_drew ?_ | refine blk_alloc ?_ _)); exact BK395.out) hb); have n4_ := Aside0.mk (below_step (by repeat (first | (with_reducible first | exact HB.out | apply below_alloc | apply pw_below_drewN | apply below_drew1 | refine below_set ?_ GE395.out) | exact HB.out)) hb); clear BK395; clear HB; have HO398 := n0_; have HO402 := n1_; have HO405 := n2_; have BK395 := n3_; have HB := n4_; clear n0_ n1_ n2_ n3_ n4_; (try clear hb); (try clear hb2); (try clear hk); (try clear hi); (try clear ho0); (try clear ho1); (try clear ho2)) | ((with_reducible refine gate_dst (N := 3) rfl ?_); (try (refine gate_guard (by rfl) ?_; dsimp only)); refine box_event ?hg (N := 3) ?hd (cs := #[.slice none 0 0, .int .i64 0, .slice none 0 0, .slice none 0 0, .int .i64 0]) (t := 28) ?hr ?_; (case hd => rfl); (case hg => rfl); (case hr => first | (go_simp; done) | (go_simp; rfl)); intro gb407 hg w9 hbox hb; have n0_ := Aside0.mk (Kd.R_below (by (with_reducible repeat (first | apply Kd.R_alloc | apply Kd.R_drewN | apply Kd.R_drew)); exact HO398.out) hb); have n1_ := Aside0.mk (Kd.S_below (by (with_reducible repeat (first | apply Kd.S_alloc | apply Kd.S_drewN | apply Kd.S_drew)); exact HO402.out) hb); have n2_ := Aside0.mk (Kd.R_below (by (with_reducible repeat (first | apply Kd.R_alloc | apply Kd.R_drewN | apply Kd.R_drew)); exact HO405.out) hb); have n3_ := Aside0.mk (blk_below (g := gb395) (o := .cells #[.slice A0_0 l0_0.length c0_0, .slice A0_1 l0_1.length c0_1, .int .i64 a0_2, .int .i64 a0_3] 25 (0, 0)) (by (with_reducible repeat (first | refine blk_drewN ?_ _ | refine blk_drew ?_ | refine blk_alloc ?_ _)); exact BK395.out) hb); have n4_ := Aside0.mk (below_step (by repeat (first | (with_reducible first | exact HB.out | apply below_alloc | apply pw_below_drewN | apply below_drew1 | refine below_set ?_ GE395.out) | exact HB.out)) hb); have n5_ := Aside0.mk (hbox); have n6_ := Aside0.mk ((by rw [hg]; exact (below_size (by repeat (first | (with_reducible first | exact HB.out | apply below_alloc | apply pw_below_drewN | apply below_drew1 | refine below_set ?_ GE395.out) | exact HB.out))) : w.heap.size ≤ gb407)); have n7_ := Aside0.mk ((by rw [hg]; exact (below_size (by repeat (first | (with_reducible first | exact HB.out | apply below_alloc | apply pw_below_drewN | apply below_drew1 | refine below_set ?_ GE395.out) | exact HB.out))) : w.heap.size ≤ gb407)); have n8_ := Aside0.mk ((by rw [hg]; exact Nat.ne_of_lt (blk_lt (g := gb395) (o := .cells #[.slice A0_0 l0_0.length c0_0, .slice A0_1 l0_1.length c0_1, .int .i64 a0_2, .int .i64 a0_3] 25 (0, 0)) (by (with_reducible repeat (first | refine blk_drewN ?_ _ | refine blk_drew ?_ | refine blk_alloc ?_ _)); exact BK395.out)) : gb395 ≠ gb407)); have n9_ := Aside0.mk ((by rw [hg]; exact Nat.ne_of_gt (blk_lt (g := gb395) (o := .cells #[.slice A0_0 l0_0.length c0_0, .slice A0_1 l0_1.length c0_1, .int .i64 a0_2, .int .i64 a0_3] 25 (0, 0)) (by (with_reducible repeat (first | refine blk_drewN ?_ _ | refine blk_drew ?_ | refine blk_alloc ?_ _)); exact BK395.out)) : gb407 ≠ gb395)); clear HO398; clear HO402; clear HO405; clear BK395; clear HB; have HO398 := n0_; have HO402 := n1_; have HO405 := n2_; have BK395 := n3_; have HB := n4_; have BK407 := n5_; have GW407 := n6_; have GE407 := n7_; have NB395_407 := n8_; have NB407_395 := n9_; clear n0_ n1_ n2_ n3_ n4_ n5_ n6_ n7_ n8_ n9_; clear hb hbox hg; obtain ⟨Ao10, co10, eo10⟩ := Kd.R_slice HO398.out; subst eo10; have hnb11 := NB407_395.out; have hnc11 := NB395_407.out; have hcz12_0 : w9.cell? ⟨gb407, 0, none⟩ = some (.slice none 0 0) := (blk_cell BK407.out 0).trans rfl; have hcz12_1 : w9.cell? ⟨gb407, 1, none⟩ = some (.int .i64 0) := (blk_cell BK407.out 1).trans rfl; have hcz12_2 : w9.cell? ⟨gb407, 2, none⟩ = some (.slice none 0 0) := (blk_cell BK407.out 2).trans rfl; have hcz12_3 : w9.cell? ⟨gb407, 3, none⟩ = some (.slice none 0 0) := (blk_cell BK407.out 3).trans rfl; have hcz12_4 : w9.cell? ⟨gb407, 4, none⟩ = some (.int .i64 0) := (blk_cell BK407.out 4).trans rfl; have hfz12_0 := blk_frozen BK407.out 0; have hfz12_1 := blk_frozen BK407.out 1; have hfz12_2 := blk_frozen BK407.out 2; have hfz12_3 := blk_frozen BK407.out 3; have hfz12_4 := blk_frozen BK407.out 4; obtain ⟨Ao13, co13, eo13⟩ := Kd.S_slice HO402.out; subst eo13; obtain ⟨Ao14, co14, eo14⟩ := Kd.R_slice HO405.out; subst eo14) | ((with_reducible refine gate_callee (f := 16) rfl ?_); refine goesL_ (some 16) rfl rfl Try.func16 (by kernel_rfl) rfl #[.agg #[.slice Ao10 t396.length co10, .int .i64 t399, .slice Ao13 t400.length co13, .slice Ao14 t403.length co14, .int .i64 t406]] rfl (by (try simp only [List.map_toArray, List.map_cons, List.map_nil]); first | done | rfl | (simp only [List.length_drop, List.length_take]; rfl)) ?_; (with_reducible refine (scc_Lasso.calls k _ _ t396 t399 _ _ t400 _ _ t403 t406 t408 t411 t414 _ ?side1 ?side2 ?side3 ?side4 ?side5 ?side6 A3.out).mono ?_); (case side1 => refine (Kd.R_reads' (e := 45) (base := w.heap.size) (ok := fun k_ => True) (n := t396.length) (c := co10) ?_).2.2; exact (by (with_reducible repeat (first | apply Kd.R_alloc | apply Kd.R_drewN | apply Kd.R_drew)); exact (Kd.R_mono (Kd.R_far (p := ⟨gb407, 4, none⟩) (Kd.R_far (p := ⟨gb407, 3, none⟩) (Kd.R_far (p := ⟨gb407, 2, none⟩) (Kd.R_far (p := ⟨gb407, 1, none⟩) (Kd.R_far (p := ⟨gb407, 0, none⟩) (Kd.R_types HO398.out BK407.out (by decide)) (fun _ hk => hk.2) (.slice Ao10 t396.length co10)) (fun _ hk => hk.2) (.int .i64 t399)) (fun _ hk => hk.2) (.slice Ao13 t400.length co13)) (fun _ hk => hk.2) (.slice Ao14 t403.length co14)) (fun _ hk => hk.2) (.int .i64 t406)) (fun _ h_ => h_.1)))); (case side2 => exact (Kd.R_reads' HO398.out).2.1); (case side3 => refine (Kd.S_reads' (e := 23) (base := w.heap.size) (ok := fun k_ => some k_ ≠ (.slice Ao14 t403.length co14 : Value).ownBlock) (n := t400.length) (c := co13) ?_).2.2; exact (by (with_reducible repeat (first | apply Kd.S_alloc | apply Kd.S_drewN | apply Kd.S_drew)); exact (Kd.S_mono (Kd.S_far (p := ⟨gb407, 4, none⟩) (Kd.S_far (p := ⟨gb407, 3, none⟩) (Kd.S_far (p := ⟨gb407, 2, none⟩) (Kd.S_far (p := ⟨gb407, 1, none⟩) (Kd.S_far (p := ⟨gb407, 0, none⟩) (Kd.S_types HO402.out BK407.out (by decide)) (fun _ hk => hk.2) (.slice Ao10 t396.length co10)) (fun _ hk => hk.2) (.int .i64 t399)) (fun _ hk => hk.2) (.slice Ao13 t400.length co13)) (fun _ hk => hk.2) (.slice Ao14 t403.length co14)) (fun _ hk => hk.2) (.int .i64 t406)) (fun _ h_ => h_.1)))); (case side4 => exact (Kd.S_reads' HO402.out).2.1); (case side5 => refine (Kd.R_reads' (e := 3) (base := w.heap.size) (ok := fun k_ => True) (n := t403.length) (c := co14) ?_).2.2; exact (by (with_reducible repeat (first | apply Kd.R_alloc | apply Kd.R_drewN | apply Kd.R_drew)); exact (Kd.R_mono (Kd.R_far (p := ⟨gb407, 4, none⟩) (Kd.R_far (p := ⟨gb407, 3, none⟩) (Kd.R_far (p := ⟨gb407, 2, none⟩) (Kd.R_far (p := ⟨gb407, 1, none⟩) (Kd.R_far (p := ⟨gb407, 0, none⟩) (Kd.R_types HO405.out BK407.out (by decide)) (fun _ hk => hk.2) (.slice Ao10 t396.length co10)) (fun _ hk => hk.2) (.int .i64 t399)) (fun _ hk => hk.2) (.slice Ao13 t400.length co13)) (fun _ hk => hk.2) (.slice Ao14 t403.length co14)) (fun _ hk => hk.2) (.int .i64 t406)) (fun _ h_ => h_.1)))); (case side6 => exact (Kd.R_reads' HO405.out).2.1); rintro e w15 ⟨v409, v412, rfl, ho0, ho1, hb⟩; refine ⟨_, rfl, ?_⟩; have n0_ := Aside0.mk (Kd.R_below (by (with_reducible repeat (first | apply Kd.R_alloc | apply Kd.R_drewN | apply Kd.R_drew)); exact (Kd.R_mono (Kd.R_far (p := ⟨gb407, 4, none⟩) (Kd.R_far (p := ⟨gb407, 3, none⟩) (Kd.R_far (p := ⟨gb407, 2, none⟩) (Kd.R_far (p := ⟨gb407, 1, none⟩) (Kd.R_far (p := ⟨gb407, 0, none⟩) (Kd.R_types HO398.out BK407.out (by decide)) (fun _ hk => hk.2) (.slice Ao10 t396.length co10)) (fun _ hk => hk.2) (.int .i64 t399)) (fun _ hk => hk.2) (.slice Ao13 t400.length co13)) (fun _ hk => hk.2) (.slice Ao14 t403.length co14)) (fun _ hk => hk.2) (.int .i64 t406)) (fun _ h_ => h_.1))) hb); have n1_ := Aside0.mk (Kd.S_mono (Kd.S_told (Kd.S_told (Kd.S_old (by (with_reducible repeat (first | apply Kd.S_alloc | apply Kd.S_drewN | apply Kd.S_drew)); exact (Kd.S_mono (Kd.S_far (p := ⟨gb407, 4, none⟩) (Kd.S_far (p := ⟨gb407, 3, none⟩) (Kd.S_far (p := ⟨gb407, 2, none⟩) (Kd.S_far (p := ⟨gb407, 1, none⟩) (Kd.S_far (p := ⟨gb407, 0, none⟩) (Kd.S_types HO402.out BK407.out (by decide)) (fun _ hk => hk.2) (.slice Ao10 t396.length co10)) (fun _ hk => hk.2) (.int .i64 t399)) (fun _ hk => hk.2) (.slice Ao13 t400.length co13)) (fun _ hk => hk.2) (.slice Ao14 t403.length co14)) (fun _ hk => hk.2) (.int .i64 t406)) (fun _ h_ => h_.1))) hb) (Kd.R_base ho0)) (Kd.R_base ho1)) (fun _ h_ => h_.1)); have n2_ := Aside0.mk (Kd.R_mono (Kd.R_told (Kd.R_told (Kd.R_old (by (with_reducible repeat (first | apply Kd.R_alloc | apply Kd.R_drewN | apply Kd.R_drew)); exact (Kd.R_mono (Kd.R_far (p := ⟨gb407, 4, none⟩) (Kd.R_far (p := ⟨gb407, 3, none⟩) (Kd.R_far (p := ⟨gb407, 2, none⟩) (Kd.R_far (p := ⟨gb407, 1, none⟩) (Kd.R_far (p := ⟨gb407, 0, none⟩) (Kd.R_types HO405.out BK407.out (by decide)) (fun _ hk => hk.2) (.slice Ao10 t396.length co10)) (fun _ hk => hk.2) (.int .i64 t399)) (fun _ hk => hk.2) (.slice Ao13 t400.length co13)) (fun _ hk => hk.2) (.slice Ao14 t403.length co14)) (fun _ hk => hk.2) (.int .i64 t406)) (fun _ h_ => h_.1))) hb) (Kd.R_base ho0)) (Kd.R_base ho1)) (fun _ h_ => h_.1)); have n3_ := Aside0.mk (Kd.R_lower (Kd.R_new' ho0 (Kd.R_lt (by (with_reducible repeat (first | apply Kd.R_alloc | apply Kd.R_drewN | apply Kd.R_drew)); exact (Kd.R_mono (Kd.R_far (p := ⟨gb407, 4, none⟩) (Kd.R_far (p := ⟨gb407, 3, none⟩) (Kd.R_far (p := ⟨gb407, 2, none⟩) (Kd.R_far (p := ⟨gb407, 1, none⟩) (Kd.R_far (p := ⟨gb407, 0, none⟩) (Kd.R_types HO405.out BK407.out (by decide)) (fun _ hk => hk.2) (.slice Ao10 t396.length co10)) (fun _ hk => hk.2) (.int .i64 t399)) (fun _ hk => hk.2) (.slice Ao13 t400.length co13)) (fun _ hk => hk.2) (.slice Ao14 t403.length co14)) (fun _ hk => hk.2) (.int .i64 t406)) (fun _ h_ => h_.1))))) (below_size (by repeat (first | (with_reducible first | exact HB.out | apply below_alloc | apply pw_below_drewN | apply below_drew1 | refine below_set ?_ GE395.out | refine below_set ?_ GE407.out) | exact HB.out)))); have n4_ := Aside0.mk (Kd.R_lower (Kd.R_new' ho1 (Kd.R_lt (by (with_reducible repeat (first | apply Kd.R_alloc | apply Kd.R_drewN | apply Kd.R_drew)); exact (Kd.R_mono (Kd.R_far (p := ⟨gb407, 4, none⟩) (Kd.R_far (p := ⟨gb407, 3, none⟩) (Kd.R_far (p := ⟨gb407, 2, none⟩) (Kd.R_far (p := ⟨gb407, 1, none⟩) (Kd.R_far (p := ⟨gb407, 0, none⟩) (Kd.R_types HO405.out BK407.out (by decide)) (fun _ hk => hk.2) (.slice Ao10 t396.length co10)) (fun _ hk => hk.2) (.int .i64 t399)) (fun _ hk => hk.2) (.slice Ao13 t400.length co13)) (fun _ hk => hk.2) (.slice Ao14 t403.length co14)) (fun _ hk => hk.2) (.int .i64 t406)) (fun _ h_ => h_.1))))) (below_size (by repeat (first | (with_reducible first | exact HB.out | apply below_alloc | apply pw_below_drewN | apply below_drew1 | refine below_set ?_ GE395.out | refine below_set ?_ GE407.out) | exact HB.out)))); have n5_ := Aside0.mk (blk_below (g := gb395) (o := .cells #[.slice A0_0 l0_0.length c0_0, .slice A0_1 l0_1.length c0_1, .int .i64 a0_2, .int .i64 a0_3] 25 (0, 0)) (by (with_reducible repeat (first | refine blk_drewN ?_ _ | refine blk_drew ?_ | refine blk_alloc ?_ _)); refine blk_far ?_ NB395_407.out _; (with_reducible repeat (first | refine blk_drewN ?_ _ | refine blk_drew ?_ | refine blk_alloc ?_ _)); refine blk_far ?_ NB395_407.out _; (with_reducible repeat (first | refine blk_drewN ?_ _ | refine blk_drew ?_ | refine blk_alloc ?_ _)); refine blk_far ?_ NB395_407.out _; (with_reducible repeat (first | refine blk_drewN ?_ _ | refine blk_drew ?_ | refine blk_alloc ?_ _)); refine blk_far ?_ NB395_407.out _; (with_reducible repeat (first | refine blk_drewN ?_ _ | refine blk_drew ?_ | refine blk_alloc ?_ _)); refine blk_far ?_ NB395_407.out _; (with_reducible repeat (first | refine blk_drewN ?_ _ | refine blk_drew ?_ | refine blk_alloc ?_ _)); exact BK395.out) hb); have n6_ := Aside0.mk (blk_below (g := gb407) (o := .cells #[.slice Ao10 t396.length co10, .int .i64 t399, .slice Ao13 t400.length co13, .slice Ao14 t403.length co14, .int .i64 t406] 28 (0, 0)) (by (with_reducible repeat (first | refine blk_drewN ?_ _ | refine blk_drew ?_ | refine blk_alloc ?_ _)); refine blk_put (cs := #[.slice Ao10 t396.length co10, .int .i64 t399, .slice Ao13 t400.length co13, .slice Ao14 t403.length co14, .int .i64 0]) ?_ 4 _ rfl; (with_reducible repeat (first | refine blk_drewN ?_ _ | refine blk_drew ?_ | refine blk_alloc ?_ _)); refine blk_put (cs := #[.slice Ao10 t396.length co10, .int .i64 t399, .slice Ao13 t400.length co13, .slice none 0 0, .int .i64 0]) ?_ 3 _ rfl; (with_reducible repeat (first | refine blk_drewN ?_ _ | refine blk_drew ?_ | refine blk_alloc ?_ _)); refine blk_put (cs := #[.slice Ao10 t396.length co10, .int .i64 t399, .slice none 0 0, .slice none 0 0, .int .i64 0]) ?_ 2 _ rfl; (with_reducible repeat (first | refine blk_drewN ?_ _ | refine blk_drew ?_ | refine blk_alloc ?_ _)); refine blk_put (cs := #[.slice Ao10 t396.length co10, .int .i64 0, .slice none 0 0, .slice none 0 0, .int .i64 0]) ?_ 1 _ rfl; (with_reducible repeat (first | refine blk_drewN ?_ _ | refine blk_drew ?_ | refine blk_alloc ?_ _)); refine blk_put (cs := #[.slice none 0 0, .int .i64 0, .slice none 0 0, .slice none 0 0, .int .i64 0]) ?_ 0 _ rfl; (with_reducible repeat (first | refine blk_drewN ?_ _ | refine blk_drew ?_ | refine blk_alloc ?_ _)); exact BK407.out) hb); have n7_ := Aside0.mk (below_step (by repeat (first | (with_reducible first | exact HB.out | apply below_alloc | apply pw_below_drewN | apply below_drew1 | refine below_set ?_ GE395.out | refine below_set ?_ GE407.out) | exact HB.out)) hb); clear HO398; clear HO402; clear HO405; clear BK395; clear BK407; clear HB; have HO398 := n0_; have HO402 := n1_; have HO405 := n2_; have HO410 := n3_; have HO413 := n4_; have BK395 := n5_; have BK407 := n6_; have HB := n7_; clear n0_ n1_ n2_ n3_ n4_ n5_ n6_ n7_; (try clear hb); (try clear hb2); (try clear hk); (try clear hi); (try clear ho0); (try clear ho1)) | ((with_reducible refine gate_dst (N := 4) rfl ?_); (try (refine gate_guard (by rfl) ?_; dsimp only)); refine box_event ?hg (N := 4) ?hd (cs := #[.slice none 0 0, .slice none 0 0]) (t := 48) ?hr ?_; (case hd => rfl); (case hg => rfl); (case hr => first | (go_simp; done) | (go_simp; rfl)); intro gb415 hg w16 hbox hb; have n0_ := Aside0.mk (Kd.R_below (by (with_reducible repeat (first | apply Kd.R_alloc | apply Kd.R_drewN | apply Kd.R_drew)); exact HO398.out) hb); have n1_ := Aside0.mk (Kd.S_below (by (with_reducible repeat (first | apply Kd.S_alloc | apply Kd.S_drewN | apply Kd.S_drew)); exact HO402.out) hb); have n2_ := Aside0.mk (Kd.R_below (by (with_reducible repeat (first | apply Kd.R_alloc | apply Kd.R_drewN | apply Kd.R_drew)); exact HO405.out) hb); have n3_ := Aside0.mk (Kd.R_below (by (with_reducible repeat (first | apply Kd.R_alloc | apply Kd.R_drewN | apply Kd.R_drew)); exact HO410.out) hb); have n4_ := Aside0.mk (Kd.R_below (by (with_reducible repeat (first | apply Kd.R_alloc | apply Kd.R_drewN | apply Kd.R_drew)); exact HO413.out) hb); have n5_ := Aside0.mk (blk_below (g := gb395) (o := .cells #[.slice A0_0 l0_0.length c0_0, .slice A0_1 l0_1.length c0_1, .int .i64 a0_2, .int .i64 a0_3] 25 (0, 0)) (by (with_reducible repeat (first | refine blk_drewN ?_ _ | refine blk_drew ?_ | refine blk_alloc ?_ _)); exact BK395.out) hb); have n6_ := Aside0.mk (blk_below (g := gb407) (o := .cells #[.slice Ao10 t396.length co10, .int .i64 t399, .slice Ao13 t400.length co13, .slice Ao14 t403.length co14, .int .i64 t406] 28 (0, 0)) (by (with_reducible repeat (first | refine blk_drewN ?_ _ | refine blk_drew ?_ | refine blk_alloc ?_ _)); exact BK407.out) hb); have n7_ := Aside0.mk (below_step (by repeat (first | (with_reducible first | exact HB.out | apply below_alloc | apply pw_below_drewN | apply below_drew1 | refine below_set ?_ GE395.out | refine below_set ?_ GE407.out) | exact HB.out)) hb); have n8_ := Aside0.mk (hbox); have n9_ := Aside0.mk ((by rw [hg]; exact (below_size (by repeat (first | (with_reducible first | exact HB.out | apply below_alloc | apply pw_below_drewN | apply below_drew1 | refine below_set ?_ GE395.out | refine below_set ?_ GE407.out) | exact HB.out))) : w.heap.size ≤ gb415)); have n10_ := Aside0.mk ((by rw [hg]; exact (below_size (by repeat (first | (with_reducible first | exact HB.out | apply below_alloc | apply pw_below_drewN | apply below_drew1 | refine below_set ?_ GE395.out | refine below_set ?_ GE407.out) | exact HB.out))) : w.heap.size ≤ gb415)); have n11_ := Aside0.mk ((by rw [hg]; exact Nat.ne_of_lt (blk_lt (g := gb395) (o := .cells #[.slice A0_0 l0_0.length c0_0, .slice A0_1 l0_1.length c0_1, .int .i64 a0_2, .int .i64 a0_3] 25 (0, 0)) (by (with_reducible repeat (first | refine blk_drewN ?_ _ | refine blk_drew ?_ | refine blk_alloc ?_ _)); exact BK395.out)) : gb395 ≠ gb415)); have n12_ := Aside0.mk ((by rw [hg]; exact Nat.ne_of_gt (blk_lt (g := gb395) (o := .cells #[.slice A0_0 l0_0.length c0_0, .slice A0_1 l0_1.length c0_1, .int .i64 a0_2, .int .i64 a0_3] 25 (0, 0)) (by (with_reducible repeat (first | refine blk_drewN ?_ _ | refine blk_drew ?_ | refine blk_alloc ?_ _)); exact BK395.out)) : gb415 ≠ gb395)); have n13_ := Aside0.mk ((by rw [hg]; exact Nat.ne_of_lt (blk_lt (g := gb407) (o := .cells #[.slice Ao10 t396.length co10, .int .i64 t399, .slice Ao13 t400.length co13, .slice Ao14 t403.length co14, .int .i64 t406] 28 (0, 0)) (by (with_reducible repeat (first | refine blk_drewN ?_ _ | refine blk_drew ?_ | refine blk_alloc ?_ _)); exact BK407.out)) : gb407 ≠ gb415)); have n14_ := Aside0.mk ((by rw [hg]; exact Nat.ne_of_gt (blk_lt (g := gb407) (o := .cells #[.slice Ao10 t396.length co10, .int .i64 t399, .slice Ao13 t400.length co13, .slice Ao14 t403.length co14, .int .i64 t406] 28 (0, 0)) (by (with_reducible repeat (first | refine blk_drewN ?_ _ | refine blk_drew ?_ | refine blk_alloc ?_ _)); exact BK407.out)) : gb415 ≠ gb407)); clear HO398; clear HO402; clear HO405; clear HO410; clear HO413; clear BK395; clear BK407; clear HB; have HO398 := n0_; have HO402 := n1_; have HO405 := n2_; have HO410 := n3_; have HO413 := n4_; have BK395 := n5_; have BK407 := n6_; have HB := n7_; have BK415 := n8_; have GW415 := n9_; have GE415 := n10_; have NB395_415 := n11_; have NB415_395 := n12_; have NB407_415 := n13_; have NB415_407 := n14_; clear n0_ n1_ n2_ n3_ n4_ n5_ n6_ n7_ n8_ n9_ n10_ n11_ n12_ n13_ n14_; clear hb hbox hg; obtain ⟨Ao17, co17, eo17⟩ := Kd.R_slice HO410.out; subst eo17; have hnb18 := NB415_395.out; have hnc18 := NB395_415.out; have hnb19 := NB415_407.out; have hnc19 := NB407_415.out; have hcz20_0 : w16.cell? ⟨gb415, 0, none⟩ = some (.slice none 0 0) := (blk_cell BK415.out 0).trans rfl; have hcz20_1 : w16.cell? ⟨gb415, 1, none⟩ = some (.slice none 0 0) := (blk_cell BK415.out 1).trans rfl; have hfz20_0 := blk_frozen BK415.out 0; have hfz20_1 := blk_frozen BK415.out 1; obtain ⟨Ao21, co21, eo21⟩ := Kd.R_slice HO413.out; subst eo21; have hcz22_0 : w16.cell? ⟨gb407, 0, none⟩ = some (.slice Ao10 t396.length co10) := (blk_cell BK407.out 0).trans rfl; have hcz22_1 : w16.cell? ⟨gb407, 1, none⟩ = some (.int .i64 t399) := (blk_cell BK407.out 1).trans rfl; have hcz22_2 : w16.cell? ⟨gb407, 2, none⟩ = some (.slice Ao13 t400.length co13) := (blk_cell BK407.out 2).trans rfl; have hcz22_3 : w16.cell? ⟨gb407, 3, none⟩ = some (.slice Ao14 t403.length co14) := (blk_cell BK407.out 3).trans rfl; have hcz22_4 : w16.cell? ⟨gb407, 4, none⟩ = some (.int .i64 t406) := (blk_cell BK407.out 4).trans rfl; have hfz22_0 := blk_frozen BK407.out 0; have hfz22_1 := blk_frozen BK407.out 1; have hfz22_2 := blk_frozen BK407.out 2; have hfz22_3 := blk_frozen BK407.out 3; have hfz22_4 := blk_frozen BK407.out 4) | ((with_reducible refine gate_callee (f := 15) rfl ?_); refine goesL_ (some 21) rfl rfl Try.func15 (by kernel_rfl) rfl #[.agg #[.slice Ao10 t396.length co10, .int .i64 t399, .slice Ao13 t400.length co13, .slice Ao14 t403.length co14, .int .i64 t406]] rfl (by (try simp only [List.map_toArray, List.map_cons, List.map_nil]); first | done | rfl | (simp only [List.length_drop, List.length_take]; rfl)) ?_; (with_reducible refine (scc_Fair.calls k _ _ t396 t399 _ _ t400 _ _ t403 t406 t416 t417 _ ?side1 ?side2 ?side3 ?side4 ?side5 ?side6 A4.out).mono ?_); (case side1 => refine (Kd.R_reads' (e := 45) (base := w.heap.size) (ok := fun k_ => True) (n := t396.length) (c := co10) ?_).2.2; exact (by (with_reducible repeat (first | apply Kd.R_alloc | apply Kd.R_drewN | apply Kd.R_drew)); exact (Kd.R_mono (Kd.R_far (p := ⟨gb415, 1, none⟩) (Kd.R_far (p := ⟨gb415, 0, none⟩) (Kd.R_types HO398.out BK415.out (by decide)) (fun _ hk => hk.2) (.slice Ao17 t408.length co17)) (fun _ hk => hk.2) (.slice Ao21 t411.length co21)) (fun _ h_ => h_.1)))); (case side2 => exact (Kd.R_reads' HO398.out).2.1); (case side3 => refine (Kd.S_reads' (e := 23) (base := w.heap.size) (ok := fun k_ => ((some k_ ≠ (.slice Ao14 t403.length co14 : Value).ownBlock ∧ some k_ ≠ (.slice Ao17 t408.length co17 : Value).ownBlock) ∧ some k_ ≠ (.slice Ao21 t411.length co21 : Value).ownBlock)) (n := t400.length) (c := co13) ?_).2.2; exact (by (with_reducible repeat (first | apply Kd.S_alloc | apply Kd.S_drewN | apply Kd.S_drew)); exact (Kd.S_mono (Kd.S_far (p := ⟨gb415, 1, none⟩) (Kd.S_far (p := ⟨gb415, 0, none⟩) (Kd.S_types HO402.out BK415.out (by decide)) (fun _ hk => hk.2) (.slice Ao17 t408.length co17)) (fun _ hk => hk.2) (.slice Ao21 t411.length co21)) (fun _ h_ => h_.1)))); (case side4 => exact (Kd.S_reads' HO402.out).2.1); (case side5 => refine (Kd.R_reads' (e := 3) (base := w.heap.size) (ok := fun k_ => ((True ∧ some k_ ≠ (.slice Ao17 t408.length co17 : Value).ownBlock) ∧ some k_ ≠ (.slice Ao21 t411.length co21 : Value).ownBlock)) (n := t403.length) (c := co14) ?_).2.2; exact (by (with_reducible repeat (first | apply Kd.R_alloc | apply Kd.R_drewN | apply Kd.R_drew)); exact (Kd.R_mono (Kd.R_far (p := ⟨gb415, 1, none⟩) (Kd.R_far (p := ⟨gb415, 0, none⟩) (Kd.R_types HO405.out BK415.out (by decide)) (fun _ hk => hk.2) (.slice Ao17 t408.length co17)) (fun _ hk => hk.2) (.slice Ao21 t411.length co21)) (fun _ h_ => h_.1)))); (case side6 => exact (Kd.R_reads' HO405.out).2.1); rintro e w23 ⟨rfl, hb⟩; refine ⟨_, rfl, ?_⟩; have n0_ := Aside0.mk (Kd.R_below (by (with_reducible repeat (first | apply Kd.R_alloc | apply Kd.R_drewN | apply Kd.R_drew)); exact (Kd.R_mono (Kd.R_far (p := ⟨gb415, 1, none⟩) (Kd.R_far (p := ⟨gb415, 0, none⟩) (Kd.R_types HO398.out BK415.out (by decide)) (fun _ hk => hk.2) (.slice Ao17 t408.length co17)) (fun _ hk => hk.2) (.slice Ao21 t411.length co21)) (fun _ h_ => h_.1))) hb); have n1_ := Aside0.mk (Kd.S_below (by (with_reducible repeat (first | apply Kd.S_alloc | apply Kd.S_drewN | apply Kd.S_drew)); exact (Kd.S_mono (Kd.S_far (p := ⟨gb415, 1, none⟩) (Kd.S_far (p := ⟨gb415, 0, none⟩) (Kd.S_types HO402.out BK415.out (by decide)) (fun _ hk => hk.2) (.slice Ao17 t408.length co17)) (fun _ hk => hk.2) (.slice Ao21 t411.length co21)) (fun _ h_ => h_.1))) hb); have n2_ := Aside0.mk (Kd.R_below (by (with_reducible repeat (first | apply Kd.R_alloc | apply Kd.R_drewN | apply Kd.R_drew)); exact (Kd.R_mono (Kd.R_far (p := ⟨gb415, 1, none⟩) (Kd.R_far (p := ⟨gb415, 0, none⟩) (Kd.R_types HO405.out BK415.out (by decide)) (fun _ hk => hk.2) (.slice Ao17 t408.length co17)) (fun _ hk => hk.2) (.slice Ao21 t411.length co21)) (fun _ h_ => h_.1))) hb); have n3_ := Aside0.mk (Kd.R_below (by (with_reducible repeat (first | apply Kd.R_alloc | apply Kd.R_drewN | apply Kd.R_drew)); exact (Kd.R_mono (Kd.R_far (p := ⟨gb415, 1, none⟩) (Kd.R_far (p := ⟨gb415, 0, none⟩) (Kd.R_types HO410.out BK415.out (by decide)) (fun _ hk => hk.2) (.slice Ao17 t408.length co17)) (fun _ hk => hk.2) (.slice Ao21 t411.length co21)) (fun _ h_ => h_.1))) hb); have n4_ := Aside0.mk (Kd.R_below (by (with_reducible repeat (first | apply Kd.R_alloc | apply Kd.R_drewN | apply Kd.R_drew)); exact (Kd.R_mono (Kd.R_far (p := ⟨gb415, 1, none⟩) (Kd.R_far (p := ⟨gb415, 0, none⟩) (Kd.R_types HO413.out BK415.out (by decide)) (fun _ hk => hk.2) (.slice Ao17 t408.length co17)) (fun _ hk => hk.2) (.slice Ao21 t411.length co21)) (fun _ h_ => h_.1))) hb); have n5_ := Aside0.mk (blk_below (g := gb395) (o := .cells #[.slice A0_0 l0_0.length c0_0, .slice A0_1 l0_1.length c0_1, .int .i64 a0_2, .int .i64 a0_3] 25 (0, 0)) (by (with_reducible repeat (first | refine blk_drewN ?_ _ | refine blk_drew ?_ | refine blk_alloc ?_ _)); refine blk_far ?_ NB395_415.out _; (with_reducible repeat (first | refine blk_drewN ?_ _ | refine blk_drew ?_ | refine blk_alloc ?_ _)); refine blk_far ?_ NB395_415.out _; (with_reducible repeat (first | refine blk_drewN ?_ _ | refine blk_drew ?_ | refine blk_alloc ?_ _)); exact BK395.out) hb); have n6_ := Aside0.mk (blk_below (g := gb407) (o := .cells #[.slice Ao10 t396.length co10, .int .i64 t399, .slice Ao13 t400.length co13, .slice Ao14 t403.length co14, .int .i64 t406] 28 (0, 0)) (by (with_reducible repeat (first | refine blk_drewN ?_ _ | refine blk_drew ?_ | refine blk_alloc ?_ _)); refine blk_far ?_ NB407_415.out _; (with_reducible repeat (first | refine blk_drewN ?_ _ | refine blk_drew ?_ | refine blk_alloc ?_ _)); refine blk_far ?_ NB407_415.out _; (with_reducible repeat (first | refine blk_drewN ?_ _ | refine blk_drew ?_ | refine blk_alloc ?_ _)); exact BK407.out) hb); have n7_ := Aside0.mk (blk_below (g := gb415) (o := .cells #[.slice Ao17 t408.length co17, .slice Ao21 t411.length co21] 48 (0, 0)) (by (with_reducible repeat (first | refine blk_drewN ?_ _ | refine blk_drew ?_ | refine blk_alloc ?_ _)); refine blk_put (cs := #[.slice Ao17 t408.length co17, .slice none 0 0]) ?_ 1 _ rfl; (with_reducible repeat (first | refine blk_drewN ?_ _ | refine blk_drew ?_ | refine blk_alloc ?_ _)); refine blk_put (cs := #[.slice none 0 0, .slice none 0 0]) ?_ 0 _ rfl; (with_reducible repeat (first | refine blk_drewN ?_ _ | refine blk_drew ?_ | refine blk_alloc ?_ _)); exact BK415.out) hb); have n8_ := Aside0.mk (below_step (by repeat (first | (with_reducible first | exact HB.out | apply below_alloc | apply pw_below_drewN | apply below_drew1 | refine below_set ?_ GE395.out | refine below_set ?_ GE407.out | refine below_set ?_ GE415.out) | exact HB.out)) hb); clear HO398; clear HO402; clear HO405; clear HO410; clear HO413; clear BK395; clear BK407; clear BK415; clear HB; have HO398 := n0_; have HO402 := n1_; have HO405 := n2_; have HO410 := n3_; have HO413 := n4_; have BK395 := n5_; have BK407 := n6_; have BK415 := n7_; have HB := n8_; clear n0_ n1_ n2_ n3_ n4_ n5_ n6_ n7_ n8_; (try clear hb); (try clear hb2); (try clear hk); (try clear hi)))
 (try simp only [Act.put, List.setIfInBounds_toArray, List.set_cons_zero, List.set_cons_succ])
 go_cut [30] (fun v30 wc => ∃ (kq : Nat) (x30_4 : Bool), v30 = .bool x30_4 ∧ Aside0 (foretellkeep_LassoGoes.j0 kq t414 t416 t417 x30_4 t396 t399 t400 t403 t406 t408 t411 = some r) ∧ Aside0 (kq ≤ k) ∧ Aside0 (Kd.R k45 45 wc w.heap.size (fun _ => True) (.slice Ao10 t396.length co10) t396) ∧ Aside0 (Kd.S (Kd.slice 3 (Kd.int .i64)) 23 wc w.heap.size (fun k_ => some k_ ≠ ((.slice Ao14 t403.length co14) : Value).ownBlock ∧ some k_ ≠ ((.slice Ao17 t408.length co17) : Value).ownBlock ∧ some k_ ≠ ((.slice Ao21 t411.length co21) : Value).ownBlock) (.slice Ao13 t400.length co13) t400) ∧ Aside0 (Kd.R (Kd.int .i64) 3 wc w.heap.size (fun k_ => some k_ ≠ ((.slice Ao17 t408.length co17) : Value).ownBlock ∧ some k_ ≠ ((.slice Ao21 t411.length co21) : Value).ownBlock) (.slice Ao14 t403.length co14) t403) ∧ Aside0 (Kd.R (Kd.int .i64) 3 wc w.heap.size (fun k_ => some k_ ≠ ((.slice Ao14 t403.length co14) : Value).ownBlock ∧ some k_ ≠ ((.slice Ao21 t411.length co21) : Value).ownBlock) (.slice Ao17 t408.length co17) t408) ∧ Aside0 (Kd.R (Kd.int .i64) 3 wc w.heap.size (fun k_ => some k_ ≠ ((.slice Ao14 t403.length co14) : Value).ownBlock ∧ some k_ ≠ ((.slice Ao17 t408.length co17) : Value).ownBlock) (.slice Ao21 t411.length co21) t411) ∧ Aside0 (wc.heap[gb395]? = some (.cells #[(.slice A0_0 l0_0.length c0_0), (.slice A0_1 l0_1.length c0_1), .int .i64 a0_2, .int .i64 a0_3] 25 (0, 0))) ∧ Aside0 (wc.heap[gb407]? = some (.cells #[(.slice Ao10 t396.length co10), .int .i64 t399, (.slice Ao13 t400.length co13), (.slice Ao14 t403.length co14), .int .i64 t406] 28 (0, 0))) ∧ Aside0 (wc.heap[gb415]? = some (.cells #[(.slice Ao17 t408.length co17), (.slice Ao21 t411.length co21)] 48 (0, 0))) ∧ Aside0 (Below w.heap.size w wc))
 case first =>
  have H := HC5.out
  clear HC5
  by_cases c24 : t414 = t417
  ·
   rw [if_pos c24] at H
   have c24b0 : (t414 == t417) = true := beq_iff_eq.mpr c24
   have c24b1 : (t414 != t417) = false := bne_eq_false_iff_eq.mpr c24
   clear c24
   (first | rw [c24b0] | (simp only [i64_w, i32_w]; rw [c24b0]) | skip)
   have H' := Aside0.mk H
   clear H
   go_wp2
   go_meet
   case rel => exact ⟨_, ((t414 != 0)), (by first | rfl | (simp; done) | (simp [*]; done)), H', ⟨by first | omega | exact Nat.le_refl _⟩, ⟨by (with_reducible repeat (first | apply Kd.R_alloc | apply Kd.R_drewN | apply Kd.R_drew)); exact HO398.out⟩, ⟨by (with_reducible repeat (first | apply Kd.S_alloc | apply Kd.S_drewN | apply Kd.S_drew)); exact Kd.S_mono HO402.out (fun _ hk => ⟨hk.1.1, ⟨hk.1.2, hk.2⟩⟩)⟩, ⟨by (with_reducible repeat (first | apply Kd.R_alloc | apply Kd.R_drewN | apply Kd.R_drew)); exact Kd.R_mono HO405.out (fun _ hk => ⟨hk.1.2, hk.2⟩)⟩, ⟨by (with_reducible repeat (first | apply Kd.R_alloc | apply Kd.R_drewN | apply Kd.R_drew)); exact Kd.R_mono HO410.out (fun _ hk => ⟨hk.2, hk.1⟩)⟩, ⟨by (with_reducible repeat (first | apply Kd.R_alloc | apply Kd.R_drewN | apply Kd.R_drew)); exact Kd.R_mono HO413.out (fun _ hk => ⟨hk.2, hk.1⟩)⟩, ⟨by (with_reducible repeat (first | refine blk_drewN ?_ _ | refine blk_drew ?_ | refine blk_alloc ?_ _)); exact BK395.out⟩, ⟨by (with_reducible repeat (first | refine blk_drewN ?_ _ | refine blk_drew ?_ | refine blk_alloc ?_ _)); exact BK407.out⟩, ⟨by (with_reducible repeat (first | refine blk_drewN ?_ _ | refine blk_drew ?_ | refine blk_alloc ?_ _)); exact BK415.out⟩, ⟨by repeat (first | (with_reducible first | exact HB.out | apply below_alloc | apply pw_below_drewN | apply below_drew1 | refine below_set ?_ GE395.out | refine below_set ?_ GE407.out | refine below_set ?_ GE415.out) | exact HB.out)⟩⟩
  ·
   rw [if_neg c24] at H
   have c24b0 : (t414 == t417) = false := beq_eq_false_iff_ne.mpr c24
   have c24b1 : (t414 != t417) = true := bne_iff_ne.mpr c24
   (first | rw [c24b0] | (simp only [i64_w, i32_w]; rw [c24b0]) | skip)
   have H' := Aside0.mk H
   clear H
   go_wp2
   go_meet
   case rel => exact ⟨_, (true), (by first | rfl | (simp; done) | (simp [*]; done)), H', ⟨by first | omega | exact Nat.le_refl _⟩, ⟨by (with_reducible repeat (first | apply Kd.R_alloc | apply Kd.R_drewN | apply Kd.R_drew)); exact HO398.out⟩, ⟨by (with_reducible repeat (first | apply Kd.S_alloc | apply Kd.S_drewN | apply Kd.S_drew)); exact Kd.S_mono HO402.out (fun _ hk => ⟨hk.1.1, ⟨hk.1.2, hk.2⟩⟩)⟩, ⟨by (with_reducible repeat (first | apply Kd.R_alloc | apply Kd.R_drewN | apply Kd.R_drew)); exact Kd.R_mono HO405.out (fun _ hk => ⟨hk.1.2, hk.2⟩)⟩, ⟨by (with_reducible repeat (first | apply Kd.R_alloc | apply Kd.R_drewN | apply Kd.R_drew)); exact Kd.R_mono HO410.out (fun _ hk => ⟨hk.2, hk.1⟩)⟩, ⟨by (with_reducible repeat (first | apply Kd.R_alloc | apply Kd.R_drewN | apply Kd.R_drew)); exact Kd.R_mono HO413.out (fun _ hk => ⟨hk.2, hk.1⟩)⟩, ⟨by (with_reducible repeat (first | refine blk_drewN ?_ _ | refine blk_drew ?_ | refine blk_alloc ?_ _)); exact BK395.out⟩, ⟨by (with_reducible repeat (first | refine blk_drewN ?_ _ | refine blk_drew ?_ | refine blk_alloc ?_ _)); exact BK407.out⟩, ⟨by (with_reducible repeat (first | refine blk_drewN ?_ _ | refine blk_drew ?_ | refine blk_alloc ?_ _)); exact BK415.out⟩, ⟨by repeat (first | (with_reducible first | exact HB.out | apply below_alloc | apply pw_below_drewN | apply below_drew1 | refine below_set ?_ GE395.out | refine below_set ?_ GE407.out | refine below_set ?_ GE415.out) | exact HB.out)⟩⟩
 case rest =>
  clear HC5
  try clear c1
  try clear c2
  try clear p2
  try clear c8
  try clear c9
  try clear c11
  try clear c15
  try clear c16
  try clear c18
  try clear c19
  try clear c24
  try clear c24b0
  try clear c24b1
  try clear hcz12_0
  try clear hcz12_1
  try clear hcz12_2
  try clear hcz12_3
  try clear hcz12_4
  try clear hcz20_0
  try clear hcz20_1
  try clear hcz22_0
  try clear hcz22_1
  try clear hcz22_2
  try clear hcz22_3
  try clear hcz22_4
  try clear hcz7_0
  try clear hcz7_1
  try clear hcz7_2
  try clear hcz7_3
  try clear hfz12_0
  try clear hfz12_1
  try clear hfz12_2
  try clear hfz12_3
  try clear hfz12_4
  try clear hfz20_0
  try clear hfz20_1
  try clear hfz22_0
  try clear hfz22_1
  try clear hfz22_2
  try clear hfz22_3
  try clear hfz22_4
  try clear hfz7_0
  try clear hfz7_1
  try clear hfz7_2
  try clear hfz7_3
  obtain ⟨kq, x30_4, rfl, HA, HJ4, HO_408000, HO_408002, HO_408003, HO_416000, HO_416001, BK395, BK407, BK415, HB⟩ := hcut
  cases kq with
  | zero => exact absurd HA.out (by simp [foretellkeep_LassoGoes.j0])
  | succ kj4 =>
   have H := HA.out
   clear HA
   simp only [foretellkeep_LassoGoes.j0] at H
   by_cases c25 : x30_4 = true
   ·
    subst c25
    have H1 : (if t414 = t417 then (if t414 = 11 then (if (t411.length : Int) = 0 then (some (t416 == 0)) else (some false)) else (some false)) else (some false)) = some r := by rw [if_pos rfl] at H; exact H
    clear H
    have H := H1
    clear H1
    by_cases c26 : t414 = t417
    ·
     rw [if_pos c26] at H
     have c26b0 : (t414 == t417) = true := beq_iff_eq.mpr c26
     have c26b1 : (t414 != t417) = false := bne_eq_false_iff_eq.mpr c26
     clear c26
     by_cases c27 : t414 = 11
     ·
      rw [if_pos c27] at H
      have c27b0 : (t414 == 11) = true := beq_iff_eq.mpr c27
      have c27b1 : (t414 != 11) = false := bne_eq_false_iff_eq.mpr c27
      clear c27
      by_cases c28 : (t411.length : Int) = 0
      ·
       rw [if_pos c28] at H
       have c28b0 : ((t411.length : Int) == 0) = true := beq_iff_eq.mpr c28
       have c28b1 : ((t411.length : Int) != 0) = false := bne_eq_false_iff_eq.mpr c28
       clear c28
       obtain rfl := Option.some.inj H
       have hnb29 := NB415_395.out
       have hnc29 := NB395_415.out
       have hnb30 := NB415_407.out
       have hnc30 := NB407_415.out
       have hcz31_0 : wc.cell? ⟨gb415, 0, none⟩ = some (.slice Ao17 t408.length co17) := (blk_cell BK415.out 0).trans rfl
       have hcz31_1 : wc.cell? ⟨gb415, 1, none⟩ = some (.slice Ao21 t411.length co21) := (blk_cell BK415.out 1).trans rfl
       have hfz31_0 := blk_frozen BK415.out 0
       have hfz31_1 := blk_frozen BK415.out 1
       go_wp2
       go_ret
       exact ⟨by first | rfl | (simp [errW_none, errW_some] <;> rfl) | (simp [*, errW_none, errW_some] <;> rfl), by repeat (first | (with_reducible first | exact HB.out | apply below_alloc | apply pw_below_drewN | apply below_drew1 | refine below_set ?_ GE395.out | refine below_set ?_ GE407.out | refine below_set ?_ GE415.out) | exact HB.out)⟩
      ·
       rw [if_neg c28] at H
       exact absurd ((Option.some.inj H).trans hr_.out) (by decide)
     ·
      rw [if_neg c27] at H
      exact absurd ((Option.some.inj H).trans hr_.out) (by decide)
    ·
     rw [if_neg c26] at H
     exact absurd ((Option.some.inj H).trans hr_.out) (by decide)
   ·
    replace c25 := Bool.eq_false_iff.mpr c25
    subst c25
    have H1 : (if ([] : List Int).length + t408.length < 17592186044416 then ((some (([] : List Int) ++ t408 : List Int)).bind fun y418 => (if y418.length + t411.length < 17592186044416 then ((some (y418 ++ t411 : List Int)).bind fun y421 => (if (t411.length : Int) = 0 then (foretellkeep_LassoGoes.j1 kj4 y421 true t396 t399 t400 t403 t406 t408 t411) else (if 0 < (y421.length : Int) then (if (rd y421 0) < 0 then (foretellkeep_LassoGoes.j1 kj4 y421 true t396 t399 t400 t403 t406 t408 t411) else (foretellkeep_LassoGoes.j1 kj4 y421 (decide ((rd y421 0) ≥ t399)) t396 t399 t400 t403 t406 t408 t411)) else (none)))) else (none))) else (none)) = some r := by rw [if_neg (show ¬ (false = true) by decide)] at H; exact H
    clear H
    have H := H1
    clear H1
    by_cases c32 : ([] : List Int).length + t408.length < 17592186044416
    ·
     rw [if_pos c32] at H
     have LMc32 := Aside0.mk c32
     clear c32
     obtain ⟨y418, hy418⟩ : ∃ y_ : List Int, y_ = (([] : List Int) ++ t408) := ⟨_, rfl⟩
     replace H : (if y418.length + t411.length < 17592186044416 then ((some (y418 ++ t411 : List Int)).bind fun y421 => (if (t411.length : Int) = 0 then (foretellkeep_LassoGoes.j1 kj4 y421 true t396 t399 t400 t403 t406 t408 t411) else (if 0 < (y421.length : Int) then (if (rd y421 0) < 0 then (foretellkeep_LassoGoes.j1 kj4 y421 true t396 t399 t400 t403 t406 t408 t411) else (foretellkeep_LassoGoes.j1 kj4 y421 (decide ((rd y421 0) ≥ t399)) t396 t399 t400 t403 t406 t408 t411)) else (none)))) else (none)) = some r := by first | (rw [hy418]; with_reducible exact H) | (have H2_ := (Option.bind_some _ _).symm.trans H; rw [hy418]; with_reducible exact H2_) | (have H2_ := (Option.bind_some _ _).symm.trans H; with_reducible exact H2_) | with_reducible exact H | (rw [hy418]; exact H) | exact H
     have Ny418 := Aside0.mk hy418
     clear hy418
     by_cases c33 : y418.length + t411.length < 17592186044416
     ·
      rw [if_pos c33] at H
      have LMc33 := Aside0.mk c33
      clear c33
      obtain ⟨y421, hy421⟩ : ∃ y_ : List Int, y_ = (y418 ++ t411) := ⟨_, rfl⟩
      replace H : (if (t411.length : Int) = 0 then (foretellkeep_LassoGoes.j1 kj4 y421 true t396 t399 t400 t403 t406 t408 t411) else (if 0 < (y421.length : Int) then (if (rd y421 0) < 0 then (foretellkeep_LassoGoes.j1 kj4 y421 true t396 t399 t400 t403 t406 t408 t411) else (foretellkeep_LassoGoes.j1 kj4 y421 (decide ((rd y421 0) ≥ t399)) t396 t399 t400 t403 t406 t408 t411)) else (none))) = some r := by first | (rw [hy421]; with_reducible exact H) | (have H2_ := (Option.bind_some _ _).symm.trans H; rw [hy421]; with_reducible exact H2_) | (have H2_ := (Option.bind_some _ _).symm.trans H; with_reducible exact H2_) | with_reducible exact H | (rw [hy421]; exact H) | exact H
      have Ny421 := Aside0.mk hy421
      clear hy421
      have HC34 := Aside0.mk H
      clear H
      try go_wp2
      have n0_ := Aside0.mk (Kd.R_drew HO_408000.out)
      have n1_ := Aside0.mk (Kd.S_drew HO_408002.out)
      have n2_ := Aside0.mk (Kd.R_drew HO_408003.out)
      have n3_ := Aside0.mk (Kd.R_drew HO_416000.out)
      have n4_ := Aside0.mk (Kd.R_drew HO_416001.out)
      have n5_ := Aside0.mk (blk_drew BK395.out)
      have n6_ := Aside0.mk (blk_drew BK407.out)
      have n7_ := Aside0.mk (blk_drew BK415.out)
      have n8_ := Aside0.mk (below_drew1 HB.out)
      clear HO_408000
      clear HO_408002
      clear HO_408003
      clear HO_416000
      clear HO_416001
      clear BK395
      clear BK407
      clear BK415
      clear HB
      have HO_408000 := n0_
      have HO_408002 := n1_
      have HO_408003 := n2_
      have HO_416000 := n3_
      have HO_416001 := n4_
      have BK395 := n5_
      have BK407 := n6_
      have BK415 := n7_
      have HB := n8_
      clear n0_ n1_ n2_ n3_ n4_ n5_ n6_ n7_ n8_
      refine start_ (n := 7) (S := fun w' => w'.cell? ⟨gb415, 0, none⟩ = some (.slice Ao17 t408.length co17) ∧ w'.cell? ⟨gb415, 1, none⟩ = some (.slice Ao21 t411.length co21)) (ds := []) #[false, false, false, false, false, false, false] (by kernel_rfl) rfl rfl ⟨(blk_cell BK415.out 0).trans rfl, (blk_cell BK415.out 1).trans rfl⟩ (fun hHeld => ?_)
      generalize wc.drew = w35 at HO_408000 HO_408002 HO_408003 HO_416000 HO_416001 BK395 BK407 BK415 HB hHeld ⊢
      refine pure_ (i := 0) (N := some 48) (v := ?_) (a' := ?_) #[true, false, false, false, false, false, false] rfl rfl (by kernel_rfl) (fun _ _ _ h => h) (Or.inl ⟨by rfl, ?_⟩) ?_ ?_
      rotate_left
      ·
       intro w'
       go_simp
       with_reducible rfl
      rotate_left
      ·
       simp only [Act.put, List.setIfInBounds_toArray, List.set_cons_zero, List.set_cons_succ, i64_w, i32_w]
       rfl
      refine pure_ (i := 3) (N := some 51) (v := ?_) (a' := ?_) #[true, false, false, true, false, false, false] rfl rfl (by kernel_rfl) (fun _ _ _ h => h) (Or.inl ⟨by rfl, ?_⟩) ?_ ?_
      rotate_left
      ·
       intro w'
       go_simp
       with_reducible rfl
      rotate_left
      ·
       simp only [Act.put, List.setIfInBounds_toArray, List.set_cons_zero, List.set_cons_succ, i64_w, i32_w]
       rfl
      refine take_ (i := 1) (N := some 49) (v := ?_) (a' := ?_) #[true, true, false, true, false, false, false] rfl rfl (by kernel_rfl) (fun _ _ _ h => h) (Or.inl ⟨by rfl, ?_⟩) hHeld ?_ ?_
      rotate_left
      ·
       rintro w' ⟨s0, s1⟩
       go_simp
       with_reducible rfl
      rotate_left
      ·
       simp only [Act.put, List.setIfInBounds_toArray, List.set_cons_zero, List.set_cons_succ, i64_w, i32_w]
       rfl
      refine take_ (i := 4) (N := some 52) (v := ?_) (a' := ?_) #[true, true, false, true, true, false, false] rfl rfl (by kernel_rfl) (fun _ _ _ h => h) (Or.inl ⟨by rfl, ?_⟩) hHeld ?_ ?_
      rotate_left
      ·
       rintro w' ⟨s0, s1⟩
       go_simp
       with_reducible rfl
      rotate_left
      ·
       simp only [Act.put, List.setIfInBounds_toArray, List.set_cons_zero, List.set_cons_succ, i64_w, i32_w]
       rfl
      refine one_ (i := 2) (N := some 50) #[true, true, true, true, true, false, false] rfl rfl (by kernel_rfl) (by decide) (fun K hK => ?_)
      refine Kd.R_append_rows_step (Kd.int .i64) (w0 := w) w.heap.size (by rfl) (.const (.slice none 0 0)) (.tmp 49) 23 3 (.int .i64 0) 8 rfl Try.underlying23 info3 rfl (by decide) (by omega) (.slice none 0 0) ([] : List Int) t408 _ _ _ (fun k_ => some k_ ≠ (.slice Ao14 t403.length co14 : Value).ownBlock ∧ some k_ ≠ (.slice Ao17 t408.length co17 : Value).ownBlock ∧ some k_ ≠ (.slice Ao21 t411.length co21 : Value).ownBlock) (fun _ => False) rfl rfl ?aO ?aR (fun _ _ h => h) (fun _ h => h.elim) ?aF ?aB ?aS ?aL ?_
      (case aR => repeat (first | exact (Kd.R_reads' HO_416000.out).2.2 | (with_reducible refine Kd.C_alloc ?_ _) | (with_reducible refine Kd.C_drewN ?_ _) | (with_reducible refine Kd.C_drew ?_)))
      (case aB => exact (by repeat (first | (with_reducible first | exact HB.out | apply below_alloc | apply pw_below_drewN | apply below_drew1 | refine below_set ?_ GE395.out | refine below_set ?_ GE407.out | refine below_set ?_ GE415.out) | exact HB.out)))
      (case aF => exact (fun k_ hk => ⟨Kd.fresh' (Kd.R_lt (by (with_reducible repeat (first | apply Kd.R_alloc | apply Kd.R_drewN | apply Kd.R_drew)); exact HO_408003.out)) k_ hk, Kd.fresh' (Kd.R_lt (by (with_reducible repeat (first | apply Kd.R_alloc | apply Kd.R_drewN | apply Kd.R_drew)); exact HO_416000.out)) k_ hk, Kd.fresh' (Kd.R_lt (by (with_reducible repeat (first | apply Kd.R_alloc | apply Kd.R_drewN | apply Kd.R_drew)); exact HO_416001.out)) k_ hk⟩))
      (case aO => exact ((Kd.R_nil _ _ _ _ (fun k_ => some k_ ≠ (.slice Ao14 t403.length co14 : Value).ownBlock ∧ some k_ ≠ (.slice Ao17 t408.length co17 : Value).ownBlock ∧ some k_ ≠ (.slice Ao21 t411.length co21 : Value).ownBlock))))
      (case aS => exact (below_size (by repeat (first | (with_reducible first | exact HB.out | apply below_alloc | apply pw_below_drewN | apply below_drew1 | refine below_set ?_ GE395.out | refine below_set ?_ GE407.out | refine below_set ?_ GE415.out) | exact HB.out))))
      (case aL => have := LMc32.out; omega)
      intro v419 w36 ho hb hg hat
      rw [← Ny418.out] at ho
      have n0_ := Aside0.mk (Kd.R_grown (by (with_reducible repeat (first | apply Kd.R_alloc | apply Kd.R_drewN | apply Kd.R_drew)); exact HO_408000.out) hg (fun _ _ => by simp [Value.ownBlock]))
      have n1_ := Aside0.mk (Kd.S_after (Kd.S_apart_nil (by (with_reducible repeat (first | apply Kd.S_alloc | apply Kd.S_drewN | apply Kd.S_drew)); exact HO_408002.out)) hg hat)
      have n2_ := Aside0.mk (Kd.R_after (Kd.R_apart_nil (by (with_reducible repeat (first | apply Kd.R_alloc | apply Kd.R_drewN | apply Kd.R_drew)); exact HO_408003.out)) hg hat)
      have n3_ := Aside0.mk (Kd.R_after (Kd.R_apart_nil (by (with_reducible repeat (first | apply Kd.R_alloc | apply Kd.R_drewN | apply Kd.R_drew)); exact HO_416000.out)) hg hat)
      have n4_ := Aside0.mk (Kd.R_after (Kd.R_apart_nil (by (with_reducible repeat (first | apply Kd.R_alloc | apply Kd.R_drewN | apply Kd.R_drew)); exact HO_416001.out)) hg hat)
      have n5_ := Aside0.mk (blk_grown (g := gb395) (o := .cells #[.slice A0_0 l0_0.length c0_0, .slice A0_1 l0_1.length c0_1, .int .i64 a0_2, .int .i64 a0_3] 25 (0, 0)) (by (with_reducible repeat (first | refine blk_drewN ?_ _ | refine blk_drew ?_ | refine blk_alloc ?_ _)); exact BK395.out) hg (by simp [Value.ownBlock]))
      have n6_ := Aside0.mk (blk_grown (g := gb407) (o := .cells #[.slice Ao10 t396.length co10, .int .i64 t399, .slice Ao13 t400.length co13, .slice Ao14 t403.length co14, .int .i64 t406] 28 (0, 0)) (by (with_reducible repeat (first | refine blk_drewN ?_ _ | refine blk_drew ?_ | refine blk_alloc ?_ _)); exact BK407.out) hg (by simp [Value.ownBlock]))
      have n7_ := Aside0.mk (blk_grown (g := gb415) (o := .cells #[.slice Ao17 t408.length co17, .slice Ao21 t411.length co21] 48 (0, 0)) (by (with_reducible repeat (first | refine blk_drewN ?_ _ | refine blk_drew ?_ | refine blk_alloc ?_ _)); exact BK415.out) hg (by simp [Value.ownBlock]))
      have n8_ := Aside0.mk (hb)
      have n9_ := Aside0.mk (ho)
      clear HO_408000
      clear HO_408002
      clear HO_408003
      clear HO_416000
      clear HO_416001
      clear BK395
      clear BK407
      clear BK415
      clear HB
      have HO_408000 := n0_
      have HO_408002 := n1_
      have HO_408003 := n2_
      have HO_416000 := n3_
      have HO_416001 := n4_
      have BK395 := n5_
      have BK407 := n6_
      have BK415 := n7_
      have HB := n8_
      have HO420 := n9_
      clear n0_ n1_ n2_ n3_ n4_ n5_ n6_ n7_ n8_ n9_
      clear ho hb hg hat
      refine hK.out _ _ ⟨(blk_cell BK415.out 0).trans rfl, (blk_cell BK415.out 1).trans rfl⟩ (fun hHeld => ?_)
      clear hK K
      refine norm_ (a' := ?_) ?_ ?_
      rotate_left
      ·
       show Act.put _ (some 50) _ = _
       simp only [Act.put, List.setIfInBounds_toArray, List.set_cons_zero, List.set_cons_succ, i64_w, i32_w]
       rfl
      refine one_ (i := 5) (N := some 53) #[true, true, true, true, true, true, false] rfl rfl (by kernel_rfl) (by decide) (fun K hK => ?_)
      refine Kd.R_append_rows_step (Kd.int .i64) (w0 := w) w.heap.size (by rfl) (.tmp 50) (.tmp 52) 23 3 (.int .i64 0) 8 rfl Try.underlying23 info3 rfl (by decide) (by omega) v419 y418 t411 _ _ _ (fun k_ => some k_ ≠ (.slice Ao14 t403.length co14 : Value).ownBlock ∧ some k_ ≠ (.slice Ao17 t408.length co17 : Value).ownBlock ∧ some k_ ≠ (.slice Ao21 t411.length co21 : Value).ownBlock) (fun _ => False) rfl rfl ?aO ?aR (fun _ _ h => h) (fun _ h => h.elim) ?aF ?aB ?aS ?aL ?_
      (case aR => repeat (first | exact (Kd.R_reads' HO_416001.out).2.2 | (with_reducible refine Kd.C_alloc ?_ _) | (with_reducible refine Kd.C_drewN ?_ _) | (with_reducible refine Kd.C_drew ?_)))
      (case aB => exact (by repeat (first | (with_reducible first | exact HB.out | apply below_alloc | apply pw_below_drewN | apply below_drew1 | refine below_set ?_ GE395.out | refine below_set ?_ GE407.out | refine below_set ?_ GE415.out) | exact HB.out)))
      (case aF => exact (fun k_ hk => ⟨Kd.fresh' (Kd.R_lt (by (with_reducible repeat (first | apply Kd.R_alloc | apply Kd.R_drewN | apply Kd.R_drew)); exact HO_408003.out)) k_ hk, Kd.fresh' (Kd.R_lt (by (with_reducible repeat (first | apply Kd.R_alloc | apply Kd.R_drewN | apply Kd.R_drew)); exact HO_416000.out)) k_ hk, Kd.fresh' (Kd.R_lt (by (with_reducible repeat (first | apply Kd.R_alloc | apply Kd.R_drewN | apply Kd.R_drew)); exact HO_416001.out)) k_ hk⟩))
      (case aO => exact (by (with_reducible repeat (first | apply Kd.R_alloc | apply Kd.R_drewN | apply Kd.R_drew)); exact HO420.out))
      (case aS => exact (below_size (by repeat (first | (with_reducible first | exact HB.out | apply below_alloc | apply pw_below_drewN | apply below_drew1 | refine below_set ?_ GE395.out | refine below_set ?_ GE407.out | refine below_set ?_ GE415.out) | exact HB.out))))
      (case aL => have := LMc33.out; omega)
      intro v422 w37 ho hb hg hat
      rw [← Ny421.out] at ho
      have n0_ := Aside0.mk (Kd.R_over' (by (with_reducible repeat (first | apply Kd.R_alloc | apply Kd.R_drewN | apply Kd.R_drew)); exact HO_408000.out) (Kd.R_typed (by (with_reducible repeat (first | apply Kd.R_alloc | apply Kd.R_drewN | apply Kd.R_drew)); exact HO420.out)) (by decide) hg)
      have n1_ := Aside0.mk (Kd.S_after (ok := (fun k_ => some k_ ≠ (.slice Ao14 t403.length co14 : Value).ownBlock ∧ some k_ ≠ (.slice Ao17 t408.length co17 : Value).ownBlock ∧ some k_ ≠ (.slice Ao21 t411.length co21 : Value).ownBlock)) (by (with_reducible repeat (first | apply Kd.S_alloc | apply Kd.S_drewN | apply Kd.S_drew)); exact HO_408002.out) hg hat)
      have n2_ := Aside0.mk (Kd.R_after (ok := (fun k_ => some k_ ≠ (.slice Ao17 t408.length co17 : Value).ownBlock ∧ some k_ ≠ (.slice Ao21 t411.length co21 : Value).ownBlock)) (by (with_reducible repeat (first | apply Kd.R_alloc | apply Kd.R_drewN | apply Kd.R_drew)); exact HO_408003.out) hg hat)
      have n3_ := Aside0.mk (Kd.R_after (ok := (fun k_ => some k_ ≠ (.slice Ao14 t403.length co14 : Value).ownBlock ∧ some k_ ≠ (.slice Ao21 t411.length co21 : Value).ownBlock)) (by (with_reducible repeat (first | apply Kd.R_alloc | apply Kd.R_drewN | apply Kd.R_drew)); exact HO_416000.out) hg hat)
      have n4_ := Aside0.mk (Kd.R_after (ok := (fun k_ => some k_ ≠ (.slice Ao14 t403.length co14 : Value).ownBlock ∧ some k_ ≠ (.slice Ao17 t408.length co17 : Value).ownBlock)) (by (with_reducible repeat (first | apply Kd.R_alloc | apply Kd.R_drewN | apply Kd.R_drew)); exact HO_416001.out) hg hat)
      have n5_ := Aside0.mk (blk_grown (g := gb395) (o := .cells #[.slice A0_0 l0_0.length c0_0, .slice A0_1 l0_1.length c0_1, .int .i64 a0_2, .int .i64 a0_3] 25 (0, 0)) (by (with_reducible repeat (first | refine blk_drewN ?_ _ | refine blk_drew ?_ | refine blk_alloc ?_ _)); exact BK395.out) hg (Kd.R_ne HO420.out BK395.out (by decide)))
      have n6_ := Aside0.mk (blk_grown (g := gb407) (o := .cells #[.slice Ao10 t396.length co10, .int .i64 t399, .slice Ao13 t400.length co13, .slice Ao14 t403.length co14, .int .i64 t406] 28 (0, 0)) (by (with_reducible repeat (first | refine blk_drewN ?_ _ | refine blk_drew ?_ | refine blk_alloc ?_ _)); exact BK407.out) hg (Kd.R_ne HO420.out BK407.out (by decide)))
      have n7_ := Aside0.mk (blk_grown (g := gb415) (o := .cells #[.slice Ao17 t408.length co17, .slice Ao21 t411.length co21] 48 (0, 0)) (by (with_reducible repeat (first | refine blk_drewN ?_ _ | refine blk_drew ?_ | refine blk_alloc ?_ _)); exact BK415.out) hg (Kd.R_ne HO420.out BK415.out (by decide)))
      have n8_ := Aside0.mk (hb)
      have n9_ := Aside0.mk (ho)
      clear HO_408000
      clear HO_408002
      clear HO_408003
      clear HO_416000
      clear HO_416001
      clear BK395
      clear BK407
      clear BK415
      clear HB
      clear HO420
      have HO_408000 := n0_
      have HO_408002 := n1_
      have HO_408003 := n2_
      have HO_416000 := n3_
      have HO_416001 := n4_
      have BK395 := n5_
      have BK407 := n6_
      have BK415 := n7_
      have HB := n8_
      have HO423 := n9_
      clear n0_ n1_ n2_ n3_ n4_ n5_ n6_ n7_ n8_ n9_
      clear ho hb hg hat
      refine hK.out _ _ ⟨(blk_cell BK415.out 0).trans rfl, (blk_cell BK415.out 1).trans rfl⟩ (fun hHeld => ?_)
      clear hK K
      refine norm_ (a' := ?_) ?_ ?_
      rotate_left
      ·
       show Act.put _ (some 53) _ = _
       simp only [Act.put, List.setIfInBounds_toArray, List.set_cons_zero, List.set_cons_succ, i64_w, i32_w]
       rfl
      refine pure_ (i := 6) (N := some 8) (v := ?_) (a' := ?_) #[true, true, true, true, true, true, true] rfl rfl (by kernel_rfl) (fun _ _ _ h => h) (Or.inl ⟨by rfl, ?_⟩) ?_ ?_
      rotate_left
      ·
       intro w'
       go_simp
       with_reducible rfl
      rotate_left
      ·
       simp only [Act.put, List.setIfInBounds_toArray, List.set_cons_zero, List.set_cons_succ, i64_w, i32_w]
       rfl
      refine done_ (by kernel_rfl) ?_
      go_upto_region 7 with (fail)
      go_cut [71] (fun v71 wc => ∃ (kq : Nat) (x71_33 : Bool), v71 = .bool x71_33 ∧ Aside0 (foretellkeep_LassoGoes.j1 kq y421 x71_33 t396 t399 t400 t403 t406 t408 t411 = some r) ∧ Aside0 (kq ≤ kj4) ∧ Aside0 (Kd.R (Kd.int .i64) 3 wc w.heap.size (fun k_ => some k_ ≠ ((.slice Ao14 t403.length co14) : Value).ownBlock ∧ some k_ ≠ ((.slice Ao17 t408.length co17) : Value).ownBlock ∧ some k_ ≠ ((.slice Ao21 t411.length co21) : Value).ownBlock) v422 y421) ∧ Aside0 (Kd.R k45 45 wc w.heap.size (fun _ => True) (.slice Ao10 t396.length co10) t396) ∧ Aside0 (Kd.S (Kd.slice 3 (Kd.int .i64)) 23 wc w.heap.size (fun k_ => some k_ ≠ (v422 : Value).ownBlock ∧ some k_ ≠ ((.slice Ao14 t403.length co14) : Value).ownBlock ∧ some k_ ≠ ((.slice Ao17 t408.length co17) : Value).ownBlock ∧ some k_ ≠ ((.slice Ao21 t411.length co21) : Value).ownBlock) (.slice Ao13 t400.length co13) t400) ∧ Aside0 (Kd.R (Kd.int .i64) 3 wc w.heap.size (fun k_ => some k_ ≠ (v422 : Value).ownBlock ∧ some k_ ≠ ((.slice Ao17 t408.length co17) : Value).ownBlock ∧ some k_ ≠ ((.slice Ao21 t411.length co21) : Value).ownBlock) (.slice Ao14 t403.length co14) t403) ∧ Aside0 (Kd.R (Kd.int .i64) 3 wc w.heap.size (fun k_ => some k_ ≠ (v422 : Value).ownBlock ∧ some k_ ≠ ((.slice Ao14 t403.length co14) : Value).ownBlock ∧ some k_ ≠ ((.slice Ao21 t411.length co21) : Value).ownBlock) (.slice Ao17 t408.length co17) t408) ∧ Aside0 (Kd.R (Kd.int .i64) 3 wc w.heap.size (fun k_ => some k_ ≠ (v422 : Value).ownBlock ∧ some k_ ≠ ((.slice Ao14 t403.length co14) : Value).ownBlock ∧ some k_ ≠ ((.slice Ao17 t408.length co17) : Value).ownBlock) (.slice Ao21 t411.length co21) t411) ∧ Aside0 (wc.heap[gb395]? = some (.cells #[(.slice A0_0 l0_0.length c0_0), (.slice A0_1 l0_1.length c0_1), .int .i64 a0_2, .int .i64 a0_3] 25 (0, 0))) ∧ Aside0 (wc.heap[gb407]? = some (.cells #[(.slice Ao10 t396.length co10), .int .i64 t399, (.slice Ao13 t400.length co13), (.slice Ao14 t403.length co14), .int .i64 t406] 28 (0, 0))) ∧ Aside0 (wc.heap[gb415]? = some (.cells #[(.slice Ao17 t408.length co17), (.slice Ao21 t411.length co21)] 48 (0, 0))) ∧ Aside0 (Below w.heap.size w wc))
      case first =>
       have H := HC34.out
       clear HC34
       by_cases c38 : (t411.length : Int) = 0
       ·
        rw [if_pos c38] at H
        have c38b0 : ((t411.length : Int) == 0) = true := beq_iff_eq.mpr c38
        have c38b1 : ((t411.length : Int) != 0) = false := bne_eq_false_iff_eq.mpr c38
        clear c38
        (first | rw [c38b0] | (simp only [i64_w, i32_w]; rw [c38b0]) | skip)
        have H' := Aside0.mk H
        clear H
        try go_wp2
        have n0_ := Aside0.mk (Kd.R_drew HO_408000.out)
        have n1_ := Aside0.mk (Kd.S_drew HO_408002.out)
        have n2_ := Aside0.mk (Kd.R_drew HO_408003.out)
        have n3_ := Aside0.mk (Kd.R_drew HO_416000.out)
        have n4_ := Aside0.mk (Kd.R_drew HO_416001.out)
        have n5_ := Aside0.mk (Kd.R_drew HO423.out)
        have n6_ := Aside0.mk (blk_drew BK395.out)
        have n7_ := Aside0.mk (blk_drew BK407.out)
        have n8_ := Aside0.mk (blk_drew BK415.out)
        have n9_ := Aside0.mk (below_drew1 HB.out)
        clear HO_408000
        clear HO_408002
        clear HO_408003
        clear HO_416000
        clear HO_416001
        clear HO423
        clear BK395
        clear BK407
        clear BK415
        clear HB
        have HO_408000 := n0_
        have HO_408002 := n1_
        have HO_408003 := n2_
        have HO_416000 := n3_
        have HO_416001 := n4_
        have HO423 := n5_
        have BK395 := n6_
        have BK407 := n7_
        have BK415 := n8_
        have HB := n9_
        clear n0_ n1_ n2_ n3_ n4_ n5_ n6_ n7_ n8_ n9_
        refine start_ (n := 18) (S := fun w' => w'.cell? ⟨gb415, 0, none⟩ = some (.slice Ao17 t408.length co17) ∧ w'.cell? ⟨gb415, 1, none⟩ = some (.slice Ao21 t411.length co21)) (ds := []) #[false, false, false, false, false, false, false, false, false, false, false, false, false, false, false, false, false, false] (by kernel_rfl) rfl rfl ⟨(blk_cell BK415.out 0).trans rfl, (blk_cell BK415.out 1).trans rfl⟩ (fun hHeld => ?_); refine with_tabW foretellkeep_LassoGoes.tab7 foretellkeep_LassoGoes.bits7 (fun HT_ HW_ => ?_)
        generalize w37.drew = w39 at HO_408000 HO_408002 HO_408003 HO_416000 HO_416001 HO423 BK395 BK407 BK415 HB hHeld ⊢
        refine pure_ (i := 0) (N := some 54) (v := ?_) (a' := ?_) #[true, false, false, false, false, false, false, false, false, false, false, false, false, false, false, false, false, false] rfl rfl (any_of HT_.out (by kernel_rfl)) (fun _ _ _ h => h) (Or.inl ⟨by rfl, ?_⟩) ?_ ?_
        rotate_left
        ·
         intro w'
         go_simp
         with_reducible rfl
        rotate_left
        ·
         simp only [Act.put, List.setIfInBounds_toArray, List.set_cons_zero, List.set_cons_succ, i64_w, i32_w]
         rfl
        refine take_ (i := 1) (N := some 55) (v := ?_) (a' := ?_) #[true, true, false, false, false, false, false, false, false, false, false, false, false, false, false, false, false, false] rfl rfl (take_ofW HT_.out HW_.out (by kernel_rfl)) (fun _ _ _ h => h) (Or.inl ⟨by rfl, ?_⟩) hHeld ?_ ?_
        rotate_left
        ·
         rintro w' ⟨s0, s1⟩
         go_simp
         with_reducible rfl
        rotate_left
        ·
         simp only [Act.put, List.setIfInBounds_toArray, List.set_cons_zero, List.set_cons_succ, i64_w, i32_w]
         rfl
        refine pure_ (i := 2) (N := some 56) (v := ?_) (a' := ?_) #[true, true, true, false, false, false, false, false, false, false, false, false, false, false, false, false, false, false] rfl rfl (any_of HT_.out (by kernel_rfl)) (fun _ _ _ h => h) (Or.inl ⟨by rfl, ?_⟩) ?_ ?_
        rotate_left
        ·
         intro w'
         go_simp
         with_reducible rfl
        rotate_left
        ·
         simp only [Act.put, List.setIfInBounds_toArray, List.set_cons_zero, List.set_cons_succ, i64_w, i32_w]
         rfl
        refine pure_ (i := 3) (N := some 57) (v := ?_) (a' := ?_) #[true, true, true, true, false, false, false, false, false, false, false, false, false, false, false, false, false, false] rfl rfl (any_of HT_.out (by kernel_rfl)) (fun _ _ _ h => h) (Or.inl ⟨by rfl, ?_⟩) ?_ ?_
        rotate_left
        ·
         intro w'
         go_simp
         with_reducible rfl
        rotate_left
        ·
         simp only [Act.put, List.setIfInBounds_toArray, List.set_cons_zero, List.set_cons_succ, i64_w, i32_w]
         rfl
        refine pure_ (i := 4) (N := some 58) (v := ?_) (a' := ?_) #[true, true, true, true, true, false, false, false, false, false, false, false, false, false, false, false, false, false] rfl rfl (any_of HT_.out (by kernel_rfl)) (fun _ _ _ h => h) (Or.inl ⟨by rfl, ?_⟩) ?_ ?_
        rotate_left
        ·
         intro w'
         go_simp
         with_reducible rfl
        rotate_left
        ·
         simp only [Act.put, List.setIfInBounds_toArray, List.set_cons_zero, List.set_cons_succ, i64_w, i32_w]
         rfl
        refine pure_ (i := 5) (N := some 59) (v := undef) (a' := ?_) #[true, true, true, true, true, true, false, false, false, false, false, false, false, false, false, false, false, false] rfl rfl (any_of HT_.out (by kernel_rfl)) (fun _ _ _ h => h) (Or.inr ⟨by rfl, rfl⟩) ?_ ?_
        rotate_left
        ·
         simp only [Act.put, List.setIfInBounds_toArray, List.set_cons_zero, List.set_cons_succ, i64_w, i32_w]
         rfl
        refine pure_ (i := 6) (N := some 60) (v := undef) (a' := ?_) #[true, true, true, true, true, true, true, false, false, false, false, false, false, false, false, false, false, false] rfl rfl (any_of HT_.out (by kernel_rfl)) (fun _ _ _ h => h) (Or.inr ⟨by rfl, rfl⟩) ?_ ?_
        rotate_left
        ·
         simp only [Act.put, List.setIfInBounds_toArray, List.set_cons_zero, List.set_cons_succ, i64_w, i32_w]
         rfl
        refine pure_ (i := 7) (N := some 61) (v := undef) (a' := ?_) #[true, true, true, true, true, true, true, true, false, false, false, false, false, false, false, false, false, false] rfl rfl (any_of HT_.out (by kernel_rfl)) (fun _ _ _ h => h) (Or.inr ⟨by rfl, rfl⟩) ?_ ?_
        rotate_left
        ·
         simp only [Act.put, List.setIfInBounds_toArray, List.set_cons_zero, List.set_cons_succ, i64_w, i32_w]
         rfl
        refine pure_ (i := 8) (N := some 62) (v := undef) (a' := ?_) #[true, true, true, true, true, true, true, true, true, false, false, false, false, false, false, false, false, false] rfl rfl (any_of HT_.out (by kernel_rfl)) (fun _ _ _ h => h) (Or.inr ⟨by rfl, rfl⟩) ?_ ?_
        rotate_left
        ·
         simp only [Act.put, List.setIfInBounds_toArray, List.set_cons_zero, List.set_cons_succ, i64_w, i32_w]
         rfl
        refine pure_ (i := 9) (N := some 63) (v := ?_) (a' := ?_) #[true, true, true, true, true, true, true, true, true, true, false, false, false, false, false, false, false, false] rfl rfl (any_of HT_.out (by kernel_rfl)) (fun _ _ _ h => h) (Or.inl ⟨by rfl, ?_⟩) ?_ ?_
        rotate_left
        ·
         intro w'
         go_simp
         with_reducible rfl
        rotate_left
        ·
         simp only [Act.put, List.setIfInBounds_toArray, List.set_cons_zero, List.set_cons_succ, i64_w, i32_w]
         rfl
        refine pure_ (i := 10) (N := some 64) (v := ?_) (a' := ?_) #[true, true, true, true, true, true, true, true, true, true, true, false, false, false, false, false, false, false] rfl rfl (any_of HT_.out (by kernel_rfl)) (fun _ _ _ h => h) (Or.inl ⟨by rfl, ?_⟩) ?_ ?_
        rotate_left
        ·
         intro w'
         go_simp
         with_reducible rfl
        rotate_left
        ·
         simp only [Act.put, List.setIfInBounds_toArray, List.set_cons_zero, List.set_cons_succ, i64_w, i32_w]
         rfl
        refine pure_ (i := 11) (N := some 65) (v := undef) (a' := ?_) #[true, true, true, true, true, true, true, true, true, true, true, true, false, false, false, false, false, false] rfl rfl (any_of HT_.out (by kernel_rfl)) (fun _ _ _ h => h) (Or.inr ⟨by rfl, rfl⟩) ?_ ?_
        rotate_left
        ·
         simp only [Act.put, List.setIfInBounds_toArray, List.set_cons_zero, List.set_cons_succ, i64_w, i32_w]
         rfl
        refine pure_ (i := 12) (N := some 66) (v := undef) (a' := ?_) #[true, true, true, true, true, true, true, true, true, true, true, true, true, false, false, false, false, false] rfl rfl (any_of HT_.out (by kernel_rfl)) (fun _ _ _ h => h) (Or.inr ⟨by rfl, rfl⟩) ?_ ?_
        rotate_left
        ·
         simp only [Act.put, List.setIfInBounds_toArray, List.set_cons_zero, List.set_cons_succ, i64_w, i32_w]
         rfl
        refine pure_ (i := 13) (N := some 67) (v := undef) (a' := ?_) #[true, true, true, true, true, true, true, true, true, true, true, true, true, true, false, false, false, false] rfl rfl (any_of HT_.out (by kernel_rfl)) (fun _ _ _ h => h) (Or.inr ⟨by rfl, rfl⟩) ?_ ?_
        rotate_left
        ·
         simp only [Act.put, List.setIfInBounds_toArray, List.set_cons_zero, List.set_cons_succ, i64_w, i32_w]
         rfl
        refine pure_ (i := 14) (N := some 68) (v := undef) (a' := ?_) #[true, true, true, true, true, true, true, true, true, true, true, true, true, true, true, false, false, false] rfl rfl (any_of HT_.out (by kernel_rfl)) (fun _ _ _ h => h) (Or.inr ⟨by rfl, rfl⟩) ?_ ?_
        rotate_left
        ·
         simp only [Act.put, List.setIfInBounds_toArray, List.set_cons_zero, List.set_cons_succ, i64_w, i32_w]
         rfl
        refine pure_ (i := 15) (N := some 69) (v := undef) (a' := ?_) #[true, true, true, true, true, true, true, true, true, true, true, true, true, true, true, true, false, false] rfl rfl (any_of HT_.out (by kernel_rfl)) (fun _ _ _ h => h) (Or.inr ⟨by rfl, rfl⟩) ?_ ?_
        rotate_left
        ·
         simp only [Act.put, List.setIfInBounds_toArray, List.set_cons_zero, List.set_cons_succ, i64_w, i32_w]
         rfl
        refine pure_ (i := 16) (N := some 70) (v := undef) (a' := ?_) #[true, true, true, true, true, true, true, true, true, true, true, true, true, true, true, true, true, false] rfl rfl (any_of HT_.out (by kernel_rfl)) (fun _ _ _ h => h) (Or.inr ⟨by rfl, rfl⟩) ?_ ?_
        rotate_left
        ·
         simp only [Act.put, List.setIfInBounds_toArray, List.set_cons_zero, List.set_cons_succ, i64_w, i32_w]
         rfl
        refine pure_ (i := 17) (N := some 71) (v := ?_) (a' := ?_) #[true, true, true, true, true, true, true, true, true, true, true, true, true, true, true, true, true, true] rfl rfl (any_of HT_.out (by kernel_rfl)) (fun _ _ _ h => h) (Or.inl ⟨by rfl, ?_⟩) ?_ ?_
        rotate_left
        ·
         intro w'
         go_simp
         with_reducible rfl
        rotate_left
        ·
         simp only [Act.put, List.setIfInBounds_toArray, List.set_cons_zero, List.set_cons_succ, i64_w, i32_w]
         rfl
        refine done_ (done_of HT_.out (by kernel_rfl)) ?_
        try go_wp2
        go_meet
        case rel => exact ⟨_, (true), (by first | rfl | (simp; done) | (simp [*]; done)), H', ⟨by have := HJ4.out; first | omega | exact Nat.le_refl _⟩, ⟨by (with_reducible repeat (first | apply Kd.R_alloc | apply Kd.R_drewN | apply Kd.R_drew)); exact HO423.out⟩, ⟨by (with_reducible repeat (first | apply Kd.R_alloc | apply Kd.R_drewN | apply Kd.R_drew)); exact HO_408000.out⟩, ⟨by (with_reducible repeat (first | apply Kd.S_alloc | apply Kd.S_drewN | apply Kd.S_drew)); exact Kd.S_mono HO_408002.out (fun _ hk => ⟨hk.2, ⟨hk.1.1, ⟨hk.1.2.1, hk.1.2.2⟩⟩⟩)⟩, ⟨by (with_reducible repeat (first | apply Kd.R_alloc | apply Kd.R_drewN | apply Kd.R_drew)); exact Kd.R_mono HO_408003.out (fun _ hk => ⟨hk.2, ⟨hk.1.1, hk.1.2⟩⟩)⟩, ⟨by (with_reducible repeat (first | apply Kd.R_alloc | apply Kd.R_drewN | apply Kd.R_drew)); exact Kd.R_mono HO_416000.out (fun _ hk => ⟨hk.2, ⟨hk.1.1, hk.1.2⟩⟩)⟩, ⟨by (with_reducible repeat (first | apply Kd.R_alloc | apply Kd.R_drewN | apply Kd.R_drew)); exact Kd.R_mono HO_416001.out (fun _ hk => ⟨hk.2, ⟨hk.1.1, hk.1.2⟩⟩)⟩, ⟨by (with_reducible repeat (first | refine blk_drewN ?_ _ | refine blk_drew ?_ | refine blk_alloc ?_ _)); exact BK395.out⟩, ⟨by (with_reducible repeat (first | refine blk_drewN ?_ _ | refine blk_drew ?_ | refine blk_alloc ?_ _)); exact BK407.out⟩, ⟨by (with_reducible repeat (first | refine blk_drewN ?_ _ | refine blk_drew ?_ | refine blk_alloc ?_ _)); exact BK415.out⟩, ⟨by repeat (first | (with_reducible first | exact HB.out | apply below_alloc | apply pw_below_drewN | apply below_drew1 | refine below_set ?_ GE395.out | refine below_set ?_ GE407.out | refine below_set ?_ GE415.out) | exact HB.out)⟩⟩
       ·
        rw [if_neg c38] at H
        have c38b0 : ((t411.length : Int) == 0) = false := beq_eq_false_iff_ne.mpr c38
        have c38b1 : ((t411.length : Int) != 0) = true := bne_iff_ne.mpr c38
        have c38b2 : ¬ (t411 = []) := fun h_ => c38 (by rw [h_]; rfl)
        (first | rw [c38b0] | (simp only [i64_w, i32_w]; rw [c38b0]) | skip)
        by_cases c40 : 0 < (y421.length : Int)
        ·
         rw [if_pos c40] at H
         have c40b0 : decide (0 < (y421.length : Int)) = true := decide_eq_true c40
         have c40b1 : decide (0 < y421.length) = true := decide_eq_true (by omega)
         clear c40
         by_cases c41 : (rd y421 0) < 0
         ·
          rw [if_pos c41] at H
          have c41b0 : decide ((rd y421 0) < 0) = true := decide_eq_true c41
          clear c41
          have H' := Aside0.mk H
          clear H
          try go_wp2
          have n0_ := Aside0.mk (Kd.R_drew HO_408000.out)
          have n1_ := Aside0.mk (Kd.S_drew HO_408002.out)
          have n2_ := Aside0.mk (Kd.R_drew HO_408003.out)
          have n3_ := Aside0.mk (Kd.R_drew HO_416000.out)
          have n4_ := Aside0.mk (Kd.R_drew HO_416001.out)
          have n5_ := Aside0.mk (Kd.R_drew HO423.out)
          have n6_ := Aside0.mk (blk_drew BK395.out)
          have n7_ := Aside0.mk (blk_drew BK407.out)
          have n8_ := Aside0.mk (blk_drew BK415.out)
          have n9_ := Aside0.mk (below_drew1 HB.out)
          clear HO_408000
          clear HO_408002
          clear HO_408003
          clear HO_416000
          clear HO_416001
          clear HO423
          clear BK395
          clear BK407
          clear BK415
          clear HB
          have HO_408000 := n0_
          have HO_408002 := n1_
          have HO_408003 := n2_
          have HO_416000 := n3_
          have HO_416001 := n4_
          have HO423 := n5_
          have BK395 := n6_
          have BK407 := n7_
          have BK415 := n8_
          have HB := n9_
          clear n0_ n1_ n2_ n3_ n4_ n5_ n6_ n7_ n8_ n9_
          obtain ⟨Ao43, co43, eo43⟩ := Kd.R_slice HO423.out
          (first | subst eo43 | (injection eo43 with f1_ f2_ f3_; have f4_ := f1_.symm; have f5_ := f3_.symm; clear f1_ f2_ f3_; subst f4_; subst f5_))
          have p424 : 0 ≤ (0 : Int) := (by omega)
          have q424 : 0 < (y421.length : Int) := of_decide_eq_true (by first | (with_reducible assumption) | assumption)
          obtain ⟨ad424, e424, hx424_0⟩ := Kd.at_int (Kd.R_reads' HO423.out).2.2 0 p424 q424
          cases e424
          have qi424 : (0 < y421.length) = True := eq_true (by omega)
          (try rw [show ((0 : Int)).toNat = 0 from rfl] at hx424_0)
          (try rw [Addr.add_zero'] at hx424_0)
          replace p424 := eq_true p424
          replace q424 := eq_true q424
          refine start_ (n := 18) (S := fun w' => w'.cell? ⟨gb415, 0, none⟩ = some (.slice Ao17 t408.length co17) ∧ w'.cell? ⟨gb415, 1, none⟩ = some (.slice Ao21 t411.length co21) ∧ w'.cell? ad424 = some (.int .i64 (rd y421 0))) (ds := []) #[false, false, false, false, false, false, false, false, false, false, false, false, false, false, false, false, false, false] (by kernel_rfl) rfl rfl ⟨(blk_cell BK415.out 0).trans rfl, (blk_cell BK415.out 1).trans rfl, hx424_0⟩ (fun hHeld => ?_); refine with_tabW foretellkeep_LassoGoes.tab7 foretellkeep_LassoGoes.bits7 (fun HT_ HW_ => ?_)
          generalize w37.drew = w42 at HO_408000 HO_408002 HO_408003 HO_416000 HO_416001 HO423 BK395 BK407 BK415 HB hx424_0 hHeld ⊢
          refine pure_ (i := 0) (N := some 54) (v := ?_) (a' := ?_) #[true, false, false, false, false, false, false, false, false, false, false, false, false, false, false, false, false, false] rfl rfl (any_of HT_.out (by kernel_rfl)) (fun _ _ _ h => h) (Or.inl ⟨by rfl, ?_⟩) ?_ ?_
          rotate_left
          ·
           intro w'
           go_simp
           with_reducible rfl
          rotate_left
          ·
           simp only [Act.put, List.setIfInBounds_toArray, List.set_cons_zero, List.set_cons_succ, i64_w, i32_w]
           rfl
          refine take_ (i := 1) (N := some 55) (v := ?_) (a' := ?_) #[true, true, false, false, false, false, false, false, false, false, false, false, false, false, false, false, false, false] rfl rfl (take_ofW HT_.out HW_.out (by kernel_rfl)) (fun _ _ _ h => h) (Or.inl ⟨by rfl, ?_⟩) hHeld ?_ ?_
          rotate_left
          ·
           rintro w' ⟨s0, s1, s2⟩
           go_simp
           with_reducible rfl
          rotate_left
          ·
           simp only [Act.put, List.setIfInBounds_toArray, List.set_cons_zero, List.set_cons_succ, i64_w, i32_w]
           rfl
          refine pure_ (i := 2) (N := some 56) (v := ?_) (a' := ?_) #[true, true, true, false, false, false, false, false, false, false, false, false, false, false, false, false, false, false] rfl rfl (any_of HT_.out (by kernel_rfl)) (fun _ _ _ h => h) (Or.inl ⟨by rfl, ?_⟩) ?_ ?_
          rotate_left
          ·
           intro w'
           go_simp
           with_reducible rfl
          rotate_left
          ·
           simp only [Act.put, List.setIfInBounds_toArray, List.set_cons_zero, List.set_cons_succ, i64_w, i32_w]
           rfl
          refine pure_ (i := 3) (N := some 57) (v := ?_) (a' := ?_) #[true, true, true, true, false, false, false, false, false, false, false, false, false, false, false, false, false, false] rfl rfl (any_of HT_.out (by kernel_rfl)) (fun _ _ _ h => h) (Or.inl ⟨by rfl, ?_⟩) ?_ ?_
          rotate_left
          ·
           intro w'
           go_simp
           with_reducible rfl
          rotate_left
          ·
           simp only [Act.put, List.setIfInBounds_toArray, List.set_cons_zero, List.set_cons_succ, i64_w, i32_w]
           rfl
          refine pure_ (i := 4) (N := some 58) (v := ?_) (a' := ?_) #[true, true, true, true, true, false, false, false, false, false, false, false, false, false, false, false, false, false] rfl rfl (any_of HT_.out (by kernel_rfl)) (fun _ _ _ h => h) (Or.inl ⟨by rfl, ?_⟩) ?_ ?_
          rotate_left
          ·
           intro w'
           go_simp
           with_reducible rfl
          rotate_left
          ·
           simp only [Act.put, List.setIfInBounds_toArray, List.set_cons_zero, List.set_cons_succ, i64_w, i32_w]
           rfl
          refine pure_ (i := 5) (N := some 59) (v := ?_) (a' := ?_) #[true, true, true, true, true, true, false, false, false, false, false, false, false, false, false, false, false, false] rfl rfl (any_of HT_.out (by kernel_rfl)) (fun _ _ _ h => h) (Or.inl ⟨by rfl, ?_⟩) ?_ ?_
          rotate_left
          ·
           intro w'
           go_simp
           with_reducible rfl
          rotate_left
          ·
           simp only [Act.put, List.setIfInBounds_toArray, List.set_cons_zero, List.set_cons_succ, i64_w, i32_w]
           rfl
          refine pure_ (i := 6) (N := some 60) (v := ?_) (a' := ?_) #[true, true, true, true, true, true, true, false, false, false, false, false, false, false, false, false, false, false] rfl rfl (any_of HT_.out (by kernel_rfl)) (fun _ _ _ h => h) (Or.inl ⟨by rfl, ?_⟩) ?_ ?_
          rotate_left
          ·
           intro w'
           go_simp
           with_reducible rfl
          rotate_left
          ·
           simp only [Act.put, List.setIfInBounds_toArray, List.set_cons_zero, List.set_cons_succ, i64_w, i32_w]
           rfl
          refine take_ (i := 7) (N := some 61) (v := ?_) (a' := ?_) #[true, true, true, true, true, true, true, true, false, false, false, false, false, false, false, false, false, false] rfl rfl (take_ofW HT_.out HW_.out (by kernel_rfl)) (fun _ _ _ h => h) (Or.inl ⟨by rfl, ?_⟩) hHeld ?_ ?_
          rotate_left
          ·
           rintro w' ⟨s0, s1, s2⟩
           go_simp
           with_reducible rfl
          rotate_left
          ·
           simp only [Act.put, List.setIfInBounds_toArray, List.set_cons_zero, List.set_cons_succ, i64_w, i32_w]
           rfl
          refine pure_ (i := 8) (N := some 62) (v := ?_) (a' := ?_) #[true, true, true, true, true, true, true, true, true, false, false, false, false, false, false, false, false, false] rfl rfl (any_of HT_.out (by kernel_rfl)) (fun _ _ _ h => h) (Or.inl ⟨by rfl, ?_⟩) ?_ ?_
          rotate_left
          ·
           intro w'
           go_simp
           with_reducible rfl
          rotate_left
          ·
           simp only [Act.put, List.setIfInBounds_toArray, List.set_cons_zero, List.set_cons_succ, i64_w, i32_w]
           rfl
          refine pure_ (i := 9) (N := some 63) (v := ?_) (a' := ?_) #[true, true, true, true, true, true, true, true, true, true, false, false, false, false, false, false, false, false] rfl rfl (any_of HT_.out (by kernel_rfl)) (fun _ _ _ h => h) (Or.inl ⟨by rfl, ?_⟩) ?_ ?_
          rotate_left
          ·
           intro w'
           go_simp
           with_reducible rfl
          rotate_left
          ·
           simp only [Act.put, List.setIfInBounds_toArray, List.set_cons_zero, List.set_cons_succ, i64_w, i32_w]
           rfl
          refine pure_ (i := 10) (N := some 64) (v := ?_) (a' := ?_) #[true, true, true, true, true, true, true, true, true, true, true, false, false, false, false, false, false, false] rfl rfl (any_of HT_.out (by kernel_rfl)) (fun _ _ _ h => h) (Or.inl ⟨by rfl, ?_⟩) ?_ ?_
          rotate_left
          ·
           intro w'
           go_simp
           with_reducible rfl
          rotate_left
          ·
           simp only [Act.put, List.setIfInBounds_toArray, List.set_cons_zero, List.set_cons_succ, i64_w, i32_w]
           rfl
          refine pure_ (i := 11) (N := some 65) (v := undef) (a' := ?_) #[true, true, true, true, true, true, true, true, true, true, true, true, false, false, false, false, false, false] rfl rfl (any_of HT_.out (by kernel_rfl)) (fun _ _ _ h => h) (Or.inr ⟨by rfl, rfl⟩) ?_ ?_
          rotate_left
          ·
           simp only [Act.put, List.setIfInBounds_toArray, List.set_cons_zero, List.set_cons_succ, i64_w, i32_w]
           rfl
          refine pure_ (i := 12) (N := some 66) (v := undef) (a' := ?_) #[true, true, true, true, true, true, true, true, true, true, true, true, true, false, false, false, false, false] rfl rfl (any_of HT_.out (by kernel_rfl)) (fun _ _ _ h => h) (Or.inr ⟨by rfl, rfl⟩) ?_ ?_
          rotate_left
          ·
           simp only [Act.put, List.setIfInBounds_toArray, List.set_cons_zero, List.set_cons_succ, i64_w, i32_w]
           rfl
          refine pure_ (i := 13) (N := some 67) (v := undef) (a' := ?_) #[true, true, true, true, true, true, true, true, true, true, true, true, true, true, false, false, false, false] rfl rfl (any_of HT_.out (by kernel_rfl)) (fun _ _ _ h => h) (Or.inr ⟨by rfl, rfl⟩) ?_ ?_
          rotate_left
          ·
           simp only [Act.put, List.setIfInBounds_toArray, List.set_cons_zero, List.set_cons_succ, i64_w, i32_w]
           rfl
          refine pure_ (i := 14) (N := some 68) (v := undef) (a' := ?_) #[true, true, true, true, true, true, true, true, true, true, true, true, true, true, true, false, false, false] rfl rfl (any_of HT_.out (by kernel_rfl)) (fun _ _ _ h => h) (Or.inr ⟨by rfl, rfl⟩) ?_ ?_
          rotate_left
          ·
           simp only [Act.put, List.setIfInBounds_toArray, List.set_cons_zero, List.set_cons_succ, i64_w, i32_w]
           rfl
          refine pure_ (i := 15) (N := some 69) (v := undef) (a' := ?_) #[true, true, true, true, true, true, true, true, true, true, true, true, true, true, true, true, false, false] rfl rfl (any_of HT_.out (by kernel_rfl)) (fun _ _ _ h => h) (Or.inr ⟨by rfl, rfl⟩) ?_ ?_
          rotate_left
          ·
           simp only [Act.put, List.setIfInBounds_toArray, List.set_cons_zero, List.set_cons_succ, i64_w, i32_w]
           rfl
          refine pure_ (i := 16) (N := some 70) (v := undef) (a' := ?_) #[true, true, true, true, true, true, true, true, true, true, true, true, true, true, true, true, true, false] rfl rfl (any_of HT_.out (by kernel_rfl)) (fun _ _ _ h => h) (Or.inr ⟨by rfl, rfl⟩) ?_ ?_
          rotate_left
          ·
           simp only [Act.put, List.setIfInBounds_toArray, List.set_cons_zero, List.set_cons_succ, i64_w, i32_w]
           rfl
          refine pure_ (i := 17) (N := some 71) (v := ?_) (a' := ?_) #[true, true, true, true, true, true, true, true, true, true, true, true, true, true, true, true, true, true] rfl rfl (any_of HT_.out (by kernel_rfl)) (fun _ _ _ h => h) (Or.inl ⟨by rfl, ?_⟩) ?_ ?_
          rotate_left
          ·
           intro w'
           go_simp
           with_reducible rfl
          rotate_left
          ·
           simp only [Act.put, List.setIfInBounds_toArray, List.set_cons_zero, List.set_cons_succ, i64_w, i32_w]
           rfl
          refine done_ (done_of HT_.out (by kernel_rfl)) ?_
          try go_wp2
          go_meet
          case rel => exact ⟨_, (true), (by first | rfl | (simp; done) | (simp [*]; done)), H', ⟨by have := HJ4.out; first | omega | exact Nat.le_refl _⟩, ⟨by (with_reducible repeat (first | apply Kd.R_alloc | apply Kd.R_drewN | apply Kd.R_drew)); exact HO423.out⟩, ⟨by (with_reducible repeat (first | apply Kd.R_alloc | apply Kd.R_drewN | apply Kd.R_drew)); exact HO_408000.out⟩, ⟨by (with_reducible repeat (first | apply Kd.S_alloc | apply Kd.S_drewN | apply Kd.S_drew)); exact Kd.S_mono HO_408002.out (fun _ hk => ⟨hk.2, ⟨hk.1.1, ⟨hk.1.2.1, hk.1.2.2⟩⟩⟩)⟩, ⟨by (with_reducible repeat (first | apply Kd.R_alloc | apply Kd.R_drewN | apply Kd.R_drew)); exact Kd.R_mono HO_408003.out (fun _ hk => ⟨hk.2, ⟨hk.1.1, hk.1.2⟩⟩)⟩, ⟨by (with_reducible repeat (first | apply Kd.R_alloc | apply Kd.R_drewN | apply Kd.R_drew)); exact Kd.R_mono HO_416000.out (fun _ hk => ⟨hk.2, ⟨hk.1.1, hk.1.2⟩⟩)⟩, ⟨by (with_reducible repeat (first | apply Kd.R_alloc | apply Kd.R_drewN | apply Kd.R_drew)); exact Kd.R_mono HO_416001.out (fun _ hk => ⟨hk.2, ⟨hk.1.1, hk.1.2⟩⟩)⟩, ⟨by (with_reducible repeat (first | refine blk_drewN ?_ _ | refine blk_drew ?_ | refine blk_alloc ?_ _)); exact BK395.out⟩, ⟨by (with_reducible repeat (first | refine blk_drewN ?_ _ | refine blk_drew ?_ | refine blk_alloc ?_ _)); exact BK407.out⟩, ⟨by (with_reducible repeat (first | refine blk_drewN ?_ _ | refine blk_drew ?_ | refine blk_alloc ?_ _)); exact BK415.out⟩, ⟨by repeat (first | (with_reducible first | exact HB.out | apply below_alloc | apply pw_below_drewN | apply below_drew1 | refine below_set ?_ GE395.out | refine below_set ?_ GE407.out | refine below_set ?_ GE415.out) | exact HB.out)⟩⟩
         ·
          rw [if_neg c41] at H
          have c41b0 : decide ((rd y421 0) < 0) = false := decide_eq_false c41
          clear c41
          have H' := Aside0.mk H
          clear H
          try go_wp2
          have n0_ := Aside0.mk (Kd.R_drew HO_408000.out)
          have n1_ := Aside0.mk (Kd.S_drew HO_408002.out)
          have n2_ := Aside0.mk (Kd.R_drew HO_408003.out)
          have n3_ := Aside0.mk (Kd.R_drew HO_416000.out)
          have n4_ := Aside0.mk (Kd.R_drew HO_416001.out)
          have n5_ := Aside0.mk (Kd.R_drew HO423.out)
          have n6_ := Aside0.mk (blk_drew BK395.out)
          have n7_ := Aside0.mk (blk_drew BK407.out)
          have n8_ := Aside0.mk (blk_drew BK415.out)
          have n9_ := Aside0.mk (below_drew1 HB.out)
          clear HO_408000
          clear HO_408002
          clear HO_408003
          clear HO_416000
          clear HO_416001
          clear HO423
          clear BK395
          clear BK407
          clear BK415
          clear HB
          have HO_408000 := n0_
          have HO_408002 := n1_
          have HO_408003 := n2_
          have HO_416000 := n3_
          have HO_416001 := n4_
          have HO423 := n5_
          have BK395 := n6_
          have BK407 := n7_
          have BK415 := n8_
          have HB := n9_
          clear n0_ n1_ n2_ n3_ n4_ n5_ n6_ n7_ n8_ n9_
          obtain ⟨Ao45, co45, eo45⟩ := Kd.R_slice HO423.out
          (first | subst eo45 | (injection eo45 with f1_ f2_ f3_; have f4_ := f1_.symm; have f5_ := f3_.symm; clear f1_ f2_ f3_; subst f4_; subst f5_))
          have p424 : 0 ≤ (0 : Int) := (by omega)
          have q424 : 0 < (y421.length : Int) := of_decide_eq_true (by first | (with_reducible assumption) | assumption)
          obtain ⟨ad424, e424, hx424_0⟩ := Kd.at_int (Kd.R_reads' HO423.out).2.2 0 p424 q424
          cases e424
          have qi424 : (0 < y421.length) = True := eq_true (by omega)
          (try rw [show ((0 : Int)).toNat = 0 from rfl] at hx424_0)
          (try rw [Addr.add_zero'] at hx424_0)
          replace p424 := eq_true p424
          replace q424 := eq_true q424
          have p425 : 0 ≤ (0 : Int) := (by omega)
          have q425 : 0 < (y421.length : Int) := of_decide_eq_true (by first | (with_reducible assumption) | assumption)
          obtain ⟨ad425, e425, hx425_0⟩ := Kd.at_int (Kd.R_reads' HO423.out).2.2 0 p425 q425
          obtain rfl : ad424 = ad425 := (by injection e425)
          have qi425 : (0 < y421.length) = True := eq_true (by omega)
          (try rw [show ((0 : Int)).toNat = 0 from rfl] at hx425_0)
          (try rw [Addr.add_zero'] at hx425_0)
          replace p425 := eq_true p425
          replace q425 := eq_true q425
          refine start_ (n := 18) (S := fun w' => w'.cell? ⟨gb415, 0, none⟩ = some (.slice Ao17 t408.length co17) ∧ w'.cell? ⟨gb415, 1, none⟩ = some (.slice Ao21 t411.length co21) ∧ w'.cell? ⟨gb407, 0, none⟩ = some (.slice Ao10 t396.length co10) ∧ w'.cell? ⟨gb407, 1, none⟩ = some (.int .i64 t399) ∧ w'.cell? ⟨gb407, 2, none⟩ = some (.slice Ao13 t400.length co13) ∧ w'.cell? ⟨gb407, 3, none⟩ = some (.slice Ao14 t403.length co14) ∧ w'.cell? ⟨gb407, 4, none⟩ = some (.int .i64 t406) ∧ w'.cell? ad424 = some (.int .i64 (rd y421 0)) ∧ w'.cell? ad424 = some (.int .i64 (rd y421 0))) (ds := []) #[false, false, false, false, false, false, false, false, false, false, false, false, false, false, false, false, false, false] (by kernel_rfl) rfl rfl ⟨(blk_cell BK415.out 0).trans rfl, (blk_cell BK415.out 1).trans rfl, (blk_cell BK407.out 0).trans rfl, (blk_cell BK407.out 1).trans rfl, (blk_cell BK407.out 2).trans rfl, (blk_cell BK407.out 3).trans rfl, (blk_cell BK407.out 4).trans rfl, hx424_0, hx425_0⟩ (fun hHeld => ?_); refine with_tabW foretellkeep_LassoGoes.tab7 foretellkeep_LassoGoes.bits7 (fun HT_ HW_ => ?_)
          generalize w37.drew = w44 at HO_408000 HO_408002 HO_408003 HO_416000 HO_416001 HO423 BK395 BK407 BK415 HB hx424_0 hx425_0 hHeld ⊢
          refine pure_ (i := 0) (N := some 54) (v := ?_) (a' := ?_) #[true, false, false, false, false, false, false, false, false, false, false, false, false, false, false, false, false, false] rfl rfl (any_of HT_.out (by kernel_rfl)) (fun _ _ _ h => h) (Or.inl ⟨by rfl, ?_⟩) ?_ ?_
          rotate_left
          ·
           intro w'
           go_simp
           with_reducible rfl
          rotate_left
          ·
           simp only [Act.put, List.setIfInBounds_toArray, List.set_cons_zero, List.set_cons_succ, i64_w, i32_w]
           rfl
          refine take_ (i := 1) (N := some 55) (v := ?_) (a' := ?_) #[true, true, false, false, false, false, false, false, false, false, false, false, false, false, false, false, false, false] rfl rfl (take_ofW HT_.out HW_.out (by kernel_rfl)) (fun _ _ _ h => h) (Or.inl ⟨by rfl, ?_⟩) hHeld ?_ ?_
          rotate_left
          ·
           rintro w' ⟨s0, s1, s2, s3, s4, s5, s6, s7, s8⟩
           go_simp
           with_reducible rfl
          rotate_left
          ·
           simp only [Act.put, List.setIfInBounds_toArray, List.set_cons_zero, List.set_cons_succ, i64_w, i32_w]
           rfl
          refine pure_ (i := 2) (N := some 56) (v := ?_) (a' := ?_) #[true, true, true, false, false, false, false, false, false, false, false, false, false, false, false, false, false, false] rfl rfl (any_of HT_.out (by kernel_rfl)) (fun _ _ _ h => h) (Or.inl ⟨by rfl, ?_⟩) ?_ ?_
          rotate_left
          ·
           intro w'
           go_simp
           with_reducible rfl
          rotate_left
          ·
           simp only [Act.put, List.setIfInBounds_toArray, List.set_cons_zero, List.set_cons_succ, i64_w, i32_w]
           rfl
          refine pure_ (i := 3) (N := some 57) (v := ?_) (a' := ?_) #[true, true, true, true, false, false, false, false, false, false, false, false, false, false, false, false, false, false] rfl rfl (any_of HT_.out (by kernel_rfl)) (fun _ _ _ h => h) (Or.inl ⟨by rfl, ?_⟩) ?_ ?_
          rotate_left
          ·
           intro w'
           go_simp
           with_reducible rfl
          rotate_left
          ·
           simp only [Act.put, List.setIfInBounds_toArray, List.set_cons_zero, List.set_cons_succ, i64_w, i32_w]
           rfl
          refine pure_ (i := 4) (N := some 58) (v := ?_) (a' := ?_) #[true, true, true, true, true, false, false, false, false, false, false, false, false, false, false, false, false, false] rfl rfl (any_of HT_.out (by kernel_rfl)) (fun _ _ _ h => h) (Or.inl ⟨by rfl, ?_⟩) ?_ ?_
          rotate_left
          ·
           intro w'
           go_simp
           with_reducible rfl
          rotate_left
          ·
           simp only [Act.put, List.setIfInBounds_toArray, List.set_cons_zero, List.set_cons_succ, i64_w, i32_w]
           rfl
          refine pure_ (i := 5) (N := some 59) (v := ?_) (a' := ?_) #[true, true, true, true, true, true, false, false, false, false, false, false, false, false, false, false, false, false] rfl rfl (any_of HT_.out (by kernel_rfl)) (fun _ _ _ h => h) (Or.inl ⟨by rfl, ?_⟩) ?_ ?_
          rotate_left
          ·
           intro w'
           go_simp
           with_reducible rfl
          rotate_left
          ·
           simp only [Act.put, List.setIfInBounds_toArray, List.set_cons_zero, List.set_cons_succ, i64_w, i32_w]
           rfl
          refine pure_ (i := 6) (N := some 60) (v := ?_) (a' := ?_) #[true, true, true, true, true, true, true, false, false, false, false, false, false, false, false, false, false, false] rfl rfl (any_of HT_.out (by kernel_rfl)) (fun _ _ _ h => h) (Or.inl ⟨by rfl, ?_⟩) ?_ ?_
          rotate_left
          ·
           intro w'
           go_simp
           with_reducible rfl
          rotate_left
          ·
           simp only [Act.put, List.setIfInBounds_toArray, List.set_cons_zero, List.set_cons_succ, i64_w, i32_w]
           rfl
          refine take_ (i := 7) (N := some 61) (v := ?_) (a' := ?_) #[true, true, true, true, true, true, true, true, false, false, false, false, false, false, false, false, false, false] rfl rfl (take_ofW HT_.out HW_.out (by kernel_rfl)) (fun _ _ _ h => h) (Or.inl ⟨by rfl, ?_⟩) hHeld ?_ ?_
          rotate_left
          ·
           rintro w' ⟨s0, s1, s2, s3, s4, s5, s6, s7, s8⟩
           go_simp
           with_reducible rfl
          rotate_left
          ·
           simp only [Act.put, List.setIfInBounds_toArray, List.set_cons_zero, List.set_cons_succ, i64_w, i32_w]
           rfl
          refine pure_ (i := 8) (N := some 62) (v := ?_) (a' := ?_) #[true, true, true, true, true, true, true, true, true, false, false, false, false, false, false, false, false, false] rfl rfl (any_of HT_.out (by kernel_rfl)) (fun _ _ _ h => h) (Or.inl ⟨by rfl, ?_⟩) ?_ ?_
          rotate_left
          ·
           intro w'
           go_simp
           with_reducible rfl
          rotate_left
          ·
           simp only [Act.put, List.setIfInBounds_toArray, List.set_cons_zero, List.set_cons_succ, i64_w, i32_w]
           rfl
          refine pure_ (i := 9) (N := some 63) (v := ?_) (a' := ?_) #[true, true, true, true, true, true, true, true, true, true, false, false, false, false, false, false, false, false] rfl rfl (any_of HT_.out (by kernel_rfl)) (fun _ _ _ h => h) (Or.inl ⟨by rfl, ?_⟩) ?_ ?_
          rotate_left
          ·
           intro w'
           go_simp
           with_reducible rfl
          rotate_left
          ·
           simp only [Act.put, List.setIfInBounds_toArray, List.set_cons_zero, List.set_cons_succ, i64_w, i32_w]
           rfl
          refine pure_ (i := 10) (N := some 64) (v := ?_) (a' := ?_) #[true, true, true, true, true, true, true, true, true, true, true, false, false, false, false, false, false, false] rfl rfl (any_of HT_.out (by kernel_rfl)) (fun _ _ _ h => h) (Or.inl ⟨by rfl, ?_⟩) ?_ ?_
          rotate_left
          ·
           intro w'
           go_simp
           with_reducible rfl
          rotate_left
          ·
           simp only [Act.put, List.setIfInBounds_toArray, List.set_cons_zero, List.set_cons_succ, i64_w, i32_w]
           rfl
          refine pure_ (i := 11) (N := some 65) (v := ?_) (a' := ?_) #[true, true, true, true, true, true, true, true, true, true, true, true, false, false, false, false, false, false] rfl rfl (any_of HT_.out (by kernel_rfl)) (fun _ _ _ h => h) (Or.inl ⟨by rfl, ?_⟩) ?_ ?_
          rotate_left
          ·
           intro w'
           go_simp
           with_reducible rfl
          rotate_left
          ·
           simp only [Act.put, List.setIfInBounds_toArray, List.set_cons_zero, List.set_cons_succ, i64_w, i32_w]
           rfl
          refine pure_ (i := 12) (N := some 66) (v := ?_) (a' := ?_) #[true, true, true, true, true, true, true, true, true, true, true, true, true, false, false, false, false, false] rfl rfl (any_of HT_.out (by kernel_rfl)) (fun _ _ _ h => h) (Or.inl ⟨by rfl, ?_⟩) ?_ ?_
          rotate_left
          ·
           intro w'
           go_simp
           with_reducible rfl
          rotate_left
          ·
           simp only [Act.put, List.setIfInBounds_toArray, List.set_cons_zero, List.set_cons_succ, i64_w, i32_w]
           rfl
          refine pure_ (i := 14) (N := some 68) (v := ?_) (a' := ?_) #[true, true, true, true, true, true, true, true, true, true, true, true, true, false, true, false, false, false] rfl rfl (any_of HT_.out (by kernel_rfl)) (fun _ _ _ h => h) (Or.inl ⟨by rfl, ?_⟩) ?_ ?_
          rotate_left
          ·
           intro w'
           go_simp
           with_reducible rfl
          rotate_left
          ·
           simp only [Act.put, List.setIfInBounds_toArray, List.set_cons_zero, List.set_cons_succ, i64_w, i32_w]
           rfl
          refine take_ (i := 13) (N := some 67) (v := ?_) (a' := ?_) #[true, true, true, true, true, true, true, true, true, true, true, true, true, true, true, false, false, false] rfl rfl (take_ofW HT_.out HW_.out (by kernel_rfl)) (fun _ _ _ h => h) (Or.inl ⟨by rfl, ?_⟩) hHeld ?_ ?_
          rotate_left
          ·
           rintro w' ⟨s0, s1, s2, s3, s4, s5, s6, s7, s8⟩
           go_simp
           with_reducible rfl
          rotate_left
          ·
           simp only [Act.put, List.setIfInBounds_toArray, List.set_cons_zero, List.set_cons_succ, i64_w, i32_w]
           rfl
          refine take_ (i := 15) (N := some 69) (v := ?_) (a' := ?_) #[true, true, true, true, true, true, true, true, true, true, true, true, true, true, true, true, false, false] rfl rfl (take_ofW HT_.out HW_.out (by kernel_rfl)) (fun _ _ _ h => h) (Or.inl ⟨by rfl, ?_⟩) hHeld ?_ ?_
          rotate_left
          ·
           rintro w' ⟨s0, s1, s2, s3, s4, s5, s6, s7, s8⟩
           go_simp
           with_reducible rfl
          rotate_left
          ·
           simp only [Act.put, List.setIfInBounds_toArray, List.set_cons_zero, List.set_cons_succ, i64_w, i32_w]
           rfl
          refine pure_ (i := 16) (N := some 70) (v := ?_) (a' := ?_) #[true, true, true, true, true, true, true, true, true, true, true, true, true, true, true, true, true, false] rfl rfl (any_of HT_.out (by kernel_rfl)) (fun _ _ _ h => h) (Or.inl ⟨by rfl, ?_⟩) ?_ ?_
          rotate_left
          ·
           intro w'
           go_simp
           with_reducible rfl
          rotate_left
          ·
           simp only [Act.put, List.setIfInBounds_toArray, List.set_cons_zero, List.set_cons_succ, i64_w, i32_w]
           rfl
          refine pure_ (i := 17) (N := some 71) (v := ?_) (a' := ?_) #[true, true, true, true, true, true, true, true, true, true, true, true, true, true, true, true, true, true] rfl rfl (any_of HT_.out (by kernel_rfl)) (fun _ _ _ h => h) (Or.inl ⟨by rfl, ?_⟩) ?_ ?_
          rotate_left
          ·
           intro w'
           go_simp
           with_reducible rfl
          rotate_left
          ·
           simp only [Act.put, List.setIfInBounds_toArray, List.set_cons_zero, List.set_cons_succ, i64_w, i32_w]
           rfl
          refine done_ (done_of HT_.out (by kernel_rfl)) ?_
          try go_wp2
          go_meet
          case rel => exact ⟨_, (decide ((rd y421 0) ≥ t399)), (by first | rfl | (simp; done) | (simp [*]; done)), H', ⟨by have := HJ4.out; first | omega | exact Nat.le_refl _⟩, ⟨by (with_reducible repeat (first | apply Kd.R_alloc | apply Kd.R_drewN | apply Kd.R_drew)); exact HO423.out⟩, ⟨by (with_reducible repeat (first | apply Kd.R_alloc | apply Kd.R_drewN | apply Kd.R_drew)); exact HO_408000.out⟩, ⟨by (with_reducible repeat (first | apply Kd.S_alloc | apply Kd.S_drewN | apply Kd.S_drew)); exact Kd.S_mono HO_408002.out (fun _ hk => ⟨hk.2, ⟨hk.1.1, ⟨hk.1.2.1, hk.1.2.2⟩⟩⟩)⟩, ⟨by (with_reducible repeat (first | apply Kd.R_alloc | apply Kd.R_drewN | apply Kd.R_drew)); exact Kd.R_mono HO_408003.out (fun _ hk => ⟨hk.2, ⟨hk.1.1, hk.1.2⟩⟩)⟩, ⟨by (with_reducible repeat (first | apply Kd.R_alloc | apply Kd.R_drewN | apply Kd.R_drew)); exact Kd.R_mono HO_416000.out (fun _ hk => ⟨hk.2, ⟨hk.1.1, hk.1.2⟩⟩)⟩, ⟨by (with_reducible repeat (first | apply Kd.R_alloc | apply Kd.R_drewN | apply Kd.R_drew)); exact Kd.R_mono HO_416001.out (fun _ hk => ⟨hk.2, ⟨hk.1.1, hk.1.2⟩⟩)⟩, ⟨by (with_reducible repeat (first | refine blk_drewN ?_ _ | refine blk_drew ?_ | refine blk_alloc ?_ _)); exact BK395.out⟩, ⟨by (with_reducible repeat (first | refine blk_drewN ?_ _ | refine blk_drew ?_ | refine blk_alloc ?_ _)); exact BK407.out⟩, ⟨by (with_reducible repeat (first | refine blk_drewN ?_ _ | refine blk_drew ?_ | refine blk_alloc ?_ _)); exact BK415.out⟩, ⟨by repeat (first | (with_reducible first | exact HB.out | apply below_alloc | apply pw_below_drewN | apply below_drew1 | refine below_set ?_ GE395.out | refine below_set ?_ GE407.out | refine below_set ?_ GE415.out) | exact HB.out)⟩⟩
        ·
         rw [if_neg c40] at H
         exact absurd H (by simp)
      case rest =>
       clear HC34
       try clear p2
       try clear c3
       try clear c4
       try clear p4
       try clear q4
       try clear hx4
       try clear qi4
       try clear c38
       try clear c38b0
       try clear c38b1
       try clear c38b2
       try clear c40
       try clear c40b0
       try clear c40b1
       try clear c41
       try clear c41b0
       try clear p42
       try clear q42
       try clear hx42
       try clear qi42
       try clear hx424_0
       try clear hx425_0
       try clear p424
       try clear p425
       try clear q424
       try clear q425
       obtain ⟨kq, x71_33, rfl, HA, HJ33, HO_8, HO_408000, HO_408002, HO_408003, HO_416000, HO_416001, BK395, BK407, BK415, HB⟩ := hcut
       cases kq with
       | zero => exact absurd HA.out (by simp [foretellkeep_LassoGoes.j1])
       | succ kj33 =>
        have H := HA.out
        clear HA
        simp only [foretellkeep_LassoGoes.j1] at H
        by_cases c46 : x71_33 = true
        ·
         subst c46
         have H1 : (some false) = some r := by rw [if_pos rfl] at H; exact H
         clear H
         have H := H1
         clear H1
         exact absurd ((Option.some.inj H).trans hr_.out) (by decide)
        ·
         replace c46 := Bool.eq_false_iff.mpr c46
         subst c46
         have H1 : (foretellkeep_LassoGoes.l0 kj33 y421 0 0 t396 t399 t400 t403 t406 t408 t411) = some r := by rw [if_neg (show ¬ (false = true) by decide)] at H; exact H
         clear H
         have H := H1
         clear H1
         have H' := Aside0.mk H
         clear H
         go_wp2
         go_loopg [9, 10] kj33 (fun kq v9 v10 w' => ∃ (x9_3 : Int) (x10_3 : Int), v9 = .int .i64 x9_3 ∧ v10 = .int .i64 x10_3 ∧ Aside0 (foretellkeep_LassoGoes.l0 kq y421 x9_3 x10_3 t396 t399 t400 t403 t406 t408 t411 = some r) ∧ Aside0 (kq ≤ kj33) ∧ Aside0 (Kd.R (Kd.int .i64) 3 w' w.heap.size (fun k_ => some k_ ≠ ((.slice Ao14 t403.length co14) : Value).ownBlock ∧ some k_ ≠ ((.slice Ao17 t408.length co17) : Value).ownBlock ∧ some k_ ≠ ((.slice Ao21 t411.length co21) : Value).ownBlock) v422 y421) ∧ Aside0 (Kd.R k45 45 w' w.heap.size (fun _ => True) (.slice Ao10 t396.length co10) t396) ∧ Aside0 (Kd.S (Kd.slice 3 (Kd.int .i64)) 23 w' w.heap.size (fun k_ => some k_ ≠ (v422 : Value).ownBlock ∧ some k_ ≠ ((.slice Ao14 t403.length co14) : Value).ownBlock ∧ some k_ ≠ ((.slice Ao17 t408.length co17) : Value).ownBlock ∧ some k_ ≠ ((.slice Ao21 t411.length co21) : Value).ownBlock) (.slice Ao13 t400.length co13) t400) ∧ Aside0 (Kd.R (Kd.int .i64) 3 w' w.heap.size (fun k_ => some k_ ≠ (v422 : Value).ownBlock ∧ some k_ ≠ ((.slice Ao17 t408.length co17) : Value).ownBlock ∧ some k_ ≠ ((.slice Ao21 t411.length co21) : Value).ownBlock) (.slice Ao14 t403.length co14) t403) ∧ Aside0 (Kd.R (Kd.int .i64) 3 w' w.heap.size (fun k_ => some k_ ≠ (v422 : Value).ownBlock ∧ some k_ ≠ ((.slice Ao14 t403.length co14) : Value).ownBlock ∧ some k_ ≠ ((.slice Ao21 t411.length co21) : Value).ownBlock) (.slice Ao17 t408.length co17) t408) ∧ Aside0 (Kd.R (Kd.int .i64) 3 w' w.heap.size (fun k_ => some k_ ≠ (v422 : Value).ownBlock ∧ some k_ ≠ ((.slice Ao14 t403.length co14) : Value).ownBlock ∧ some k_ ≠ ((.slice Ao17 t408.length co17) : Value).ownBlock) (.slice Ao21 t411.length co21) t411) ∧ Aside0 (w'.heap[gb395]? = some (.cells #[(.slice A0_0 l0_0.length c0_0), (.slice A0_1 l0_1.length c0_1), .int .i64 a0_2, .int .i64 a0_3] 25 (0, 0))) ∧ Aside0 (w'.heap[gb407]? = some (.cells #[(.slice Ao10 t396.length co10), .int .i64 t399, (.slice Ao13 t400.length co13), (.slice Ao14 t403.length co14), .int .i64 t406] 28 (0, 0))) ∧ Aside0 (w'.heap[gb415]? = some (.cells #[(.slice Ao17 t408.length co17), (.slice Ao21 t411.length co21)] 48 (0, 0))) ∧ Aside0 (Below w.heap.size w w'))
         case atStart => exact ⟨(0), (0), (by first | rfl | (simp; done) | (simp [*]; done)), (by first | rfl | (simp; done) | (simp [*]; done)), H', ⟨Nat.le_refl _⟩, ⟨by (with_reducible repeat (first | apply Kd.R_alloc | apply Kd.R_drewN | apply Kd.R_drew)); exact HO_8.out⟩, ⟨by (with_reducible repeat (first | apply Kd.R_alloc | apply Kd.R_drewN | apply Kd.R_drew)); exact HO_408000.out⟩, ⟨by (with_reducible repeat (first | apply Kd.S_alloc | apply Kd.S_drewN | apply Kd.S_drew)); exact HO_408002.out⟩, ⟨by (with_reducible repeat (first | apply Kd.R_alloc | apply Kd.R_drewN | apply Kd.R_drew)); exact HO_408003.out⟩, ⟨by (with_reducible repeat (first | apply Kd.R_alloc | apply Kd.R_drewN | apply Kd.R_drew)); exact HO_416000.out⟩, ⟨by (with_reducible repeat (first | apply Kd.R_alloc | apply Kd.R_drewN | apply Kd.R_drew)); exact HO_416001.out⟩, ⟨by (with_reducible repeat (first | refine blk_drewN ?_ _ | refine blk_drew ?_ | refine blk_alloc ?_ _)); exact BK395.out⟩, ⟨by (with_reducible repeat (first | refine blk_drewN ?_ _ | refine blk_drew ?_ | refine blk_alloc ?_ _)); exact BK407.out⟩, ⟨by (with_reducible repeat (first | refine blk_drewN ?_ _ | refine blk_drew ?_ | refine blk_alloc ?_ _)); exact BK415.out⟩, ⟨by repeat (first | (with_reducible first | exact HB.out | apply below_alloc | apply pw_below_drewN | apply below_drew1 | refine below_set ?_ GE395.out | refine below_set ?_ GE407.out | refine below_set ?_ GE415.out) | exact HB.out)⟩⟩
         case round =>
          clear H'
          try clear p2
          try clear c3
          try clear c4
          try clear p4
          try clear q4
          try clear hx4
          try clear qi4
          try clear c38
          try clear c38b0
          try clear c38b1
          try clear c38b2
          try clear c40
          try clear c40b0
          try clear c40b1
          try clear c41
          try clear c41b0
          try clear p42
          try clear q42
          try clear hx42
          try clear qi42
          try clear c46
          try clear hx424_0
          try clear hx425_0
          try clear p2
          try clear p4
          try clear p42
          try clear p424
          try clear p425
          try clear q4
          try clear q42
          try clear q424
          try clear q425
          obtain ⟨x9_3, x10_3, rfl, rfl, HA, HK3, HO_8, HO_408000, HO_408002, HO_408003, HO_416000, HO_416001, BK395, BK407, BK415, HB⟩ := hrel
          cases gk with
          | zero => exact absurd HA.out (by simp [foretellkeep_LassoGoes.l0])
          | succ k3 =>
           have H := HA.out
           clear HA
           simp only [foretellkeep_LassoGoes.l0] at H
           by_cases c47 : x10_3 < (y421.length : Int)
           ·
            rw [if_pos c47] at H
            have c47b0 : decide (x10_3 < (y421.length : Int)) = true := decide_eq_true c47
            clear c47
            by_cases c48 : 0 < (t411.length : Int)
            ·
             rw [if_pos c48] at H
             have c48b0 : decide (0 < (t411.length : Int)) = true := decide_eq_true c48
             have c48b1 : decide (0 < t411.length) = true := decide_eq_true (by omega)
             clear c48
             have HC49 := Aside0.mk H
             clear H
             obtain ⟨Ao50, co50, eo50⟩ := Kd.R_slice HO_8.out
             subst eo50
             have hnb51 := NB415_395.out
             have hnc51 := NB395_415.out
             have hnb52 := NB415_407.out
             have hnc52 := NB407_415.out
             have hcz53_0 : wr.cell? ⟨gb415, 0, none⟩ = some (.slice Ao17 t408.length co17) := (blk_cell BK415.out 0).trans rfl
             have hcz53_1 : wr.cell? ⟨gb415, 1, none⟩ = some (.slice Ao21 t411.length co21) := (blk_cell BK415.out 1).trans rfl
             have hfz53_0 := blk_frozen BK415.out 0
             have hfz53_1 := blk_frozen BK415.out 1
             have p426 : 0 ≤ (0 : Int) := (by omega)
             have q426 : 0 < (t411.length : Int) := of_decide_eq_true (by first | (with_reducible assumption) | assumption)
             obtain ⟨ad426, e426, hx426_0⟩ := Kd.at_int (Kd.R_reads' HO_416001.out).2.2 0 p426 q426
             cases e426
             have qi426 : (0 < t411.length) = True := eq_true (by omega)
             (try rw [show ((0 : Int)).toNat = 0 from rfl] at hx426_0)
             (try rw [Addr.add_zero'] at hx426_0)
             replace p426 := eq_true p426
             replace q426 := eq_true q426
             go_upto_if 86 with (fail)
             go_cut [11] (fun v11 wc => ∃ (kq : Nat) (x11_48 : Int), v11 = .int .i64 x11_48 ∧ Aside0 (foretellkeep_LassoGoes.j3 kq y421 x9_3 x10_3 x11_48 t396 t399 t400 t403 t406 t408 t411 = some r) ∧ Aside0 (kq ≤ k3) ∧ Aside0 (Kd.R (Kd.int .i64) 3 wc w.heap.size (fun k_ => some k_ ≠ ((.slice Ao14 t403.length co14) : Value).ownBlock ∧ some k_ ≠ ((.slice Ao17 t408.length co17) : Value).ownBlock ∧ some k_ ≠ ((.slice (some ad426) t411.length co21) : Value).ownBlock) (.slice Ao50 y421.length co50) y421) ∧ Aside0 (Kd.R k45 45 wc w.heap.size (fun _ => True) (.slice Ao10 t396.length co10) t396) ∧ Aside0 (Kd.S (Kd.slice 3 (Kd.int .i64)) 23 wc w.heap.size (fun k_ => some k_ ≠ ((.slice Ao50 y421.length co50) : Value).ownBlock ∧ some k_ ≠ ((.slice Ao14 t403.length co14) : Value).ownBlock ∧ some k_ ≠ ((.slice Ao17 t408.length co17) : Value).ownBlock ∧ some k_ ≠ ((.slice (some ad426) t411.length co21) : Value).ownBlock) (.slice Ao13 t400.length co13) t400) ∧ Aside0 (Kd.R (Kd.int .i64) 3 wc w.heap.size (fun k_ => some k_ ≠ ((.slice Ao50 y421.length co50) : Value).ownBlock ∧ some k_ ≠ ((.slice Ao17 t408.length co17) : Value).ownBlock ∧ some k_ ≠ ((.slice (some ad426) t411.length co21) : Value).ownBlock) (.slice Ao14 t403.length co14) t403) ∧ Aside0 (Kd.R (Kd.int .i64) 3 wc w.heap.size (fun k_ => some k_ ≠ ((.slice Ao50 y421.length co50) : Value).ownBlock ∧ some k_ ≠ ((.slice Ao14 t403.length co14) : Value).ownBlock ∧ some k_ ≠ ((.slice (some ad426) t411.length co21) : Value).ownBlock) (.slice Ao17 t408.length co17) t408) ∧ Aside0 (Kd.R (Kd.int .i64) 3 wc w.heap.size (fun k_ => some k_ ≠ ((.slice Ao50 y421.length co50) : Value).ownBlock ∧ some k_ ≠ ((.slice Ao14 t403.length co14) : Value).ownBlock ∧ some k_ ≠ ((.slice Ao17 t408.length co17) : Value).ownBlock) (.slice (some ad426) t411.length co21) t411) ∧ Aside0 (wc.heap[gb395]? = some (.cells #[(.slice A0_0 l0_0.length c0_0), (.slice A0_1 l0_1.length c0_1), .int .i64 a0_2, .int .i64 a0_3] 25 (0, 0))) ∧ Aside0 (wc.heap[gb407]? = some (.cells #[(.slice Ao10 t396.length co10), .int .i64 t399, (.slice Ao13 t400.length co13), (.slice Ao14 t403.length co14), .int .i64 t406] 28 (0, 0))) ∧ Aside0 (wc.heap[gb415]? = some (.cells #[(.slice Ao17 t408.length co17), (.slice (some ad426) t411.length co21)] 48 (0, 0))) ∧ Aside0 (Below w.heap.size w wc))
             case first =>
              have H := HC49.out
              clear HC49
              by_cases c54 : (wrap64 (x10_3 + 1)) < (y421.length : Int)
              ·
               rw [if_pos c54] at H
               have c54b0 : decide ((wrap64 (x10_3 + 1)) < (y421.length : Int)) = true := decide_eq_true c54
               clear c54
               (first | rw [c54b0] | (simp only [i64_w, i32_w]; rw [c54b0]) | skip)
               obtain ⟨ji55, hji55⟩ : ∃ j_ : Int, (wrap64 (x10_3 + 1)) = j_ := ⟨_, rfl⟩
               replace H : (if 0 ≤ (ji55) then (foretellkeep_LassoGoes.j3 k3 y421 x9_3 x10_3 (rd y421 (ji55)) t396 t399 t400 t403 t406 t408 t411) else (none)) = some r := by first | (rw [hji55] at H; exact H) | (simp only [hji55] at H ⊢; exact H)
               (try rw [hji55] at c54b0)
               have hji55w : (IntKind.i64.wrap (x10_3 + 1)) = ji55 := (i64_w _).trans hji55
               by_cases c56 : 0 ≤ (ji55)
               ·
                rw [if_pos c56] at H
                have c56b0 : decide (0 ≤ (ji55)) = true := decide_eq_true c56
                clear c56
                have H' := Aside0.mk H
                clear H
                have p427 : 0 ≤ ((ji55) : Int) := of_decide_eq_true (by first | (with_reducible assumption) | assumption)
                have q427 : (ji55) < (y421.length : Int) := of_decide_eq_true (by first | (with_reducible assumption) | assumption)
                obtain ⟨ad427, e427, hx427_0⟩ := Kd.at_int (Kd.R_reads' HO_8.out).2.2 (ji55) p427 q427
                cases e427
                replace p427 := eq_true p427
                replace q427 := eq_true q427
                go_wp2
                go_meet
                case rel => exact ⟨_, (rd y421 (ji55)), (by first | rfl | (simp; done) | (simp only [← hji55] <;> (first | rfl | simp)) | (simp [*]; done)), (by first | exact H' | (rw [hji55]; exact H')), ⟨by have := HJ4.out; have := HJ33.out; have := HK3.out; first | omega | exact Nat.le_refl _⟩, ⟨by (with_reducible repeat (first | apply Kd.R_alloc | apply Kd.R_drewN | apply Kd.R_drew)); exact HO_8.out⟩, ⟨by (with_reducible repeat (first | apply Kd.R_alloc | apply Kd.R_drewN | apply Kd.R_drew)); exact HO_408000.out⟩, ⟨by (with_reducible repeat (first | apply Kd.S_alloc | apply Kd.S_drewN | apply Kd.S_drew)); exact HO_408002.out⟩, ⟨by (with_reducible repeat (first | apply Kd.R_alloc | apply Kd.R_drewN | apply Kd.R_drew)); exact HO_408003.out⟩, ⟨by (with_reducible repeat (first | apply Kd.R_alloc | apply Kd.R_drewN | apply Kd.R_drew)); exact HO_416000.out⟩, ⟨by (with_reducible repeat (first | apply Kd.R_alloc | apply Kd.R_drewN | apply Kd.R_drew)); exact HO_416001.out⟩, ⟨by (with_reducible repeat (first | refine blk_drewN ?_ _ | refine blk_drew ?_ | refine blk_alloc ?_ _)); exact BK395.out⟩, ⟨by (with_reducible repeat (first | refine blk_drewN ?_ _ | refine blk_drew ?_ | refine blk_alloc ?_ _)); exact BK407.out⟩, ⟨by (with_reducible repeat (first | refine blk_drewN ?_ _ | refine blk_drew ?_ | refine blk_alloc ?_ _)); exact BK415.out⟩, ⟨by repeat (first | (with_reducible first | exact HB.out | apply below_alloc | apply pw_below_drewN | apply below_drew1 | refine below_set ?_ GE395.out | refine below_set ?_ GE407.out | refine below_set ?_ GE415.out) | exact HB.out)⟩⟩
               ·
                rw [if_neg c56] at H
                exact absurd H (by simp)
              ·
               rw [if_neg c54] at H
               have c54b0 : decide ((wrap64 (x10_3 + 1)) < (y421.length : Int)) = false := decide_eq_false c54
               clear c54
               (first | rw [c54b0] | (simp only [i64_w, i32_w]; rw [c54b0]) | skip)
               have H' := Aside0.mk H
               clear H
               go_wp2
               go_meet
               case rel => exact ⟨_, (rd t411 0), (by first | rfl | (simp; done) | (simp [*]; done)), (by first | exact H' | (rw [hji55]; exact H')), ⟨by have := HJ4.out; have := HJ33.out; have := HK3.out; first | omega | exact Nat.le_refl _⟩, ⟨by (with_reducible repeat (first | apply Kd.R_alloc | apply Kd.R_drewN | apply Kd.R_drew)); exact HO_8.out⟩, ⟨by (with_reducible repeat (first | apply Kd.R_alloc | apply Kd.R_drewN | apply Kd.R_drew)); exact HO_408000.out⟩, ⟨by (with_reducible repeat (first | apply Kd.S_alloc | apply Kd.S_drewN | apply Kd.S_drew)); exact HO_408002.out⟩, ⟨by (with_reducible repeat (first | apply Kd.R_alloc | apply Kd.R_drewN | apply Kd.R_drew)); exact HO_408003.out⟩, ⟨by (with_reducible repeat (first | apply Kd.R_alloc | apply Kd.R_drewN | apply Kd.R_drew)); exact HO_416000.out⟩, ⟨by (with_reducible repeat (first | apply Kd.R_alloc | apply Kd.R_drewN | apply Kd.R_drew)); exact HO_416001.out⟩, ⟨by (with_reducible repeat (first | refine blk_drewN ?_ _ | refine blk_drew ?_ | refine blk_alloc ?_ _)); exact BK395.out⟩, ⟨by (with_reducible repeat (first | refine blk_drewN ?_ _ | refine blk_drew ?_ | refine blk_alloc ?_ _)); exact BK407.out⟩, ⟨by (with_reducible repeat (first | refine blk_drewN ?_ _ | refine blk_drew ?_ | refine blk_alloc ?_ _)); exact BK415.out⟩, ⟨by repeat (first | (with_reducible first | exact HB.out | apply below_alloc | apply pw_below_drewN | apply below_drew1 | refine below_set ?_ GE395.out | refine below_set ?_ GE407.out | refine below_set ?_ GE415.out) | exact HB.out)⟩⟩
             case rest =>
              clear HC49
              try clear p2
              try clear c3
              try clear c4
              try clear p4
              try clear q4
              try clear hx4
              try clear qi4
              try clear c5
              try clear p6
              try clear c38
              try clear c38b0
              try clear c38b1
              try clear c38b2
              try clear c40
              try clear c40b0
              try clear c40b1
              try clear c41
              try clear c41b0
              try clear p42
              try clear q42
              try clear hx42
              try clear qi42
              try clear c46
              try clear c47
              try clear c47b0
              try clear c48
              try clear c48b0
              try clear c48b1
              try clear c51
              try clear c52
              try clear c54
              try clear c54b0
              try clear c56
              try clear c56b0
              try clear hcz53_0
              try clear hcz53_1
              try clear hfz53_0
              try clear hfz53_1
              try clear hx424_0
              try clear hx425_0
              try clear hx426_0
              try clear hx427_0
              try clear p2
              try clear p4
              try clear p42
              try clear p424
              try clear p425
              try clear p426
              try clear p427
              try clear q4
              try clear q42
              try clear q424
              try clear q425
              try clear q426
              try clear q427
              obtain ⟨kq, x11_48, rfl, HA, HJ48, HO_8, HO_408000, HO_408002, HO_408003, HO_416000, HO_416001, BK395, BK407, BK415, HB⟩ := hcut
              cases kq with
              | zero => exact absurd HA.out (by simp [foretellkeep_LassoGoes.j3])
              | succ kj48 =>
               have H := HA.out
               clear HA
               simp only [foretellkeep_LassoGoes.j3] at H
               by_cases c57 : 0 ≤ x10_3
               ·
                rw [if_pos c57] at H
                have c57b0 : decide (0 ≤ x10_3) = true := decide_eq_true c57
                clear c57
                by_cases c58 : x10_3 < (y421.length : Int)
                ·
                 rw [if_pos c58] at H
                 have c58b0 : decide (x10_3 < (y421.length : Int)) = true := decide_eq_true c58
                 clear c58
                 replace H := Option.bind_eq_some_iff.mp H
                 obtain ⟨t429, A590, H⟩ := H
                 replace H : (if t429 = true then (if x10_3 ≥ (t408.length : Int) then (if 0 ≤ (rd y421 x10_3) then (if (rd y421 x10_3) < (t403.length : Int) then (foretellkeep_LassoGoes.l0 kj48 y421 (Go.bits .or .i64 x9_3 (rd t403 (rd y421 x10_3))) (wrap64 (x10_3 + 1)) t396 t399 t400 t403 t406 t408 t411) else (none)) else (none)) else (foretellkeep_LassoGoes.l0 kj48 y421 x9_3 (wrap64 (x10_3 + 1)) t396 t399 t400 t403 t406 t408 t411)) else (some false)) = some r := H
                 have A59 := Aside0.mk A590
                 clear A590
                 by_cases c60 : t429 = true
                 ·
                  subst c60
                  have H1 : (if x10_3 ≥ (t408.length : Int) then (if 0 ≤ (rd y421 x10_3) then (if (rd y421 x10_3) < (t403.length : Int) then (foretellkeep_LassoGoes.l0 kj48 y421 (Go.bits .or .i64 x9_3 (rd t403 (rd y421 x10_3))) (wrap64 (x10_3 + 1)) t396 t399 t400 t403 t406 t408 t411) else (none)) else (none)) else (foretellkeep_LassoGoes.l0 kj48 y421 x9_3 (wrap64 (x10_3 + 1)) t396 t399 t400 t403 t406 t408 t411)) = some r := by rw [if_pos rfl] at H; exact H
                  clear H
                  have H := H1
                  clear H1
                  by_cases c61 : x10_3 ≥ (t408.length : Int)
                  ·
                   rw [if_pos c61] at H
                   have c61b0 : decide ((t408.length : Int) ≤ x10_3) = true := decide_eq_true c61
                   clear c61
                   by_cases c62 : 0 ≤ (rd y421 x10_3)
                   ·
                    rw [if_pos c62] at H
                    have c62b0 : decide (0 ≤ (rd y421 x10_3)) = true := decide_eq_true c62
                    clear c62
                    by_cases c63 : (rd y421 x10_3) < (t403.length : Int)
                    ·
                     rw [if_pos c63] at H
                     have c63b0 : decide ((rd y421 x10_3) < (t403.length : Int)) = true := decide_eq_true c63
                     clear c63
                     have H' := Aside0.mk H
                     clear H
                     try go_wp2
                     have n0_ := Aside0.mk (Kd.R_drew HO_8.out)
                     have n1_ := Aside0.mk (Kd.R_drew HO_408000.out)
                     have n2_ := Aside0.mk (Kd.S_drew HO_408002.out)
                     have n3_ := Aside0.mk (Kd.R_drew HO_408003.out)
                     have n4_ := Aside0.mk (Kd.R_drew HO_416000.out)
                     have n5_ := Aside0.mk (Kd.R_drew HO_416001.out)
                     have n6_ := Aside0.mk (blk_drew BK395.out)
                     have n7_ := Aside0.mk (blk_drew BK407.out)
                     have n8_ := Aside0.mk (blk_drew BK415.out)
                     have n9_ := Aside0.mk (below_drew1 HB.out)
                     clear HO_8
                     clear HO_408000
                     clear HO_408002
                     clear HO_408003
                     clear HO_416000
                     clear HO_416001
                     clear BK395
                     clear BK407
                     clear BK415
                     clear HB
                     have HO_8 := n0_
                     have HO_408000 := n1_
                     have HO_408002 := n2_
                     have HO_408003 := n3_
                     have HO_416000 := n4_
                     have HO_416001 := n5_
                     have BK395 := n6_
                     have BK407 := n7_
                     have BK415 := n8_
                     have HB := n9_
                     clear n0_ n1_ n2_ n3_ n4_ n5_ n6_ n7_ n8_ n9_
                     have p428 : 0 ≤ (x10_3 : Int) := of_decide_eq_true (by first | (with_reducible assumption) | assumption)
                     have q428 : x10_3 < (y421.length : Int) := of_decide_eq_true (by first | (with_reducible assumption) | assumption)
                     obtain ⟨ad428, e428, hx428_0⟩ := Kd.at_int (Kd.R_reads' HO_8.out).2.2 x10_3 p428 q428
                     cases e428
                     replace p428 := eq_true p428
                     replace q428 := eq_true q428
                     refine start_ (n := 8) (S := fun w' => w'.cell? ⟨gb407, 0, none⟩ = some (.slice Ao10 t396.length co10) ∧ w'.cell? ⟨gb407, 1, none⟩ = some (.int .i64 t399) ∧ w'.cell? ⟨gb407, 2, none⟩ = some (.slice Ao13 t400.length co13) ∧ w'.cell? ⟨gb407, 3, none⟩ = some (.slice Ao14 t403.length co14) ∧ w'.cell? ⟨gb407, 4, none⟩ = some (.int .i64 t406) ∧ w'.cell? (ad428.add (x10_3).toNat) = some (.int .i64 (rd y421 x10_3))) (ds := []) #[false, false, false, false, false, false, false, false] (by kernel_rfl) rfl rfl ⟨(blk_cell BK407.out 0).trans rfl, (blk_cell BK407.out 1).trans rfl, (blk_cell BK407.out 2).trans rfl, (blk_cell BK407.out 3).trans rfl, (blk_cell BK407.out 4).trans rfl, hx428_0⟩ (fun hHeld => ?_); refine with_tabW foretellkeep_LassoGoes.tab16 foretellkeep_LassoGoes.bits16 (fun HT_ HW_ => ?_)
                     generalize wc.drew = w64 at HO_8 HO_408000 HO_408002 HO_408003 HO_416000 HO_416001 BK395 BK407 BK415 HB hx428_0 hHeld ⊢
                     refine pure_ (i := 1) (N := some 93) (v := ?_) (a' := ?_) #[false, true, false, false, false, false, false, false] rfl rfl (any_of HT_.out (by kernel_rfl)) (fun _ _ _ h => h) (Or.inl ⟨by rfl, ?_⟩) ?_ ?_
                     rotate_left
                     ·
                      intro w'
                      go_simp
                      with_reducible rfl
                     rotate_left
                     ·
                      simp only [Act.put, List.setIfInBounds_toArray, List.set_cons_zero, List.set_cons_succ, i64_w, i32_w]
                      rfl
                     refine pure_ (i := 2) (N := some 94) (v := ?_) (a' := ?_) #[false, true, true, false, false, false, false, false] rfl rfl (any_of HT_.out (by kernel_rfl)) (fun _ _ _ h => h) (Or.inl ⟨by rfl, ?_⟩) ?_ ?_
                     rotate_left
                     ·
                      intro w'
                      go_simp
                      with_reducible rfl
                     rotate_left
                     ·
                      simp only [Act.put, List.setIfInBounds_toArray, List.set_cons_zero, List.set_cons_succ, i64_w, i32_w]
                      rfl
                     refine pure_ (i := 3) (N := some 95) (v := ?_) (a' := ?_) #[false, true, true, true, false, false, false, false] rfl rfl (any_of HT_.out (by kernel_rfl)) (fun _ _ _ h => h) (Or.inl ⟨by rfl, ?_⟩) ?_ ?_
                     rotate_left
                     ·
                      intro w'
                      go_simp
                      with_reducible rfl
                     rotate_left
                     ·
                      simp only [Act.put, List.setIfInBounds_toArray, List.set_cons_zero, List.set_cons_succ, i64_w, i32_w]
                      rfl
                     refine pure_ (i := 5) (N := some 97) (v := ?_) (a' := ?_) #[false, true, true, true, false, true, false, false] rfl rfl (any_of HT_.out (by kernel_rfl)) (fun _ _ _ h => h) (Or.inl ⟨by rfl, ?_⟩) ?_ ?_
                     rotate_left
                     ·
                      intro w'
                      go_simp
                      with_reducible rfl
                     rotate_left
                     ·
                      simp only [Act.put, List.setIfInBounds_toArray, List.set_cons_zero, List.set_cons_succ, i64_w, i32_w]
                      rfl
                     refine take_ (i := 0) (N := some 92) (v := ?_) (a' := ?_) #[true, true, true, true, false, true, false, false] rfl rfl (take_ofW HT_.out HW_.out (by kernel_rfl)) (fun _ _ _ h => h) (Or.inl ⟨by rfl, ?_⟩) hHeld ?_ ?_
                     rotate_left
                     ·
                      rintro w' ⟨s0, s1, s2, s3, s4, s5⟩
                      go_simp
                      with_reducible rfl
                     rotate_left
                     ·
                      simp only [Act.put, List.setIfInBounds_toArray, List.set_cons_zero, List.set_cons_succ, i64_w, i32_w]
                      rfl
                     refine take_ (i := 4) (N := some 96) (v := ?_) (a' := ?_) #[true, true, true, true, true, true, false, false] rfl rfl (take_ofW HT_.out HW_.out (by kernel_rfl)) (fun _ _ _ h => h) (Or.inl ⟨by rfl, ?_⟩) hHeld ?_ ?_
                     rotate_left
                     ·
                      rintro w' ⟨s0, s1, s2, s3, s4, s5⟩
                      go_simp
                      with_reducible rfl
                     rotate_left
                     ·
                      simp only [Act.put, List.setIfInBounds_toArray, List.set_cons_zero, List.set_cons_succ, i64_w, i32_w]
                      rfl
                     refine one_ (i := 6) (N := some 98) #[true, true, true, true, true, true, true, false] rfl rfl (one_of HT_.out (by kernel_rfl)) (by decide) (fun K hK => ?_)
                     refine goes_ Try.func17 (by kernel_rfl) rfl #[.agg #[.slice Ao10 t396.length co10, .int .i64 t399, .slice Ao13 t400.length co13, .slice Ao14 t403.length co14, .int .i64 t406], .int .i64 (rd y421 x10_3), .int .i64 x11_48] (by rfl) rfl rfl (by (try simp only [List.map_toArray, List.map_cons, List.map_nil]); first | done | rfl | (simp only [List.length_drop, List.length_take]; rfl)) ?_
                     with_reducible refine (foretellkeep_leads.calls kj48 _ _ t396 t399 _ _ t400 _ _ t403 t406 (rd y421 x10_3) x11_48 true _ ?side1 ?side2 ?side3 ?side4 ?side5 ?side6 A59.out).mono ?_
                     (case side1 => repeat (first | exact (Kd.R_reads' HO_408000.out).2.2 | (with_reducible refine Kd.C_alloc ?_ _) | (with_reducible refine Kd.C_drewN ?_ _) | (with_reducible refine Kd.C_drew ?_)))
                     (case side2 => exact (Kd.R_reads' HO_408000.out).2.1)
                     (case side3 => repeat (first | exact (Kd.S_reads' HO_408002.out).2.2 | (with_reducible refine Kd.C_alloc ?_ _) | (with_reducible refine Kd.C_drewN ?_ _) | (with_reducible refine Kd.C_drew ?_)))
                     (case side4 => exact (Kd.S_reads' HO_408002.out).2.1)
                     (case side5 => repeat (first | exact (Kd.R_reads' HO_408003.out).2.2 | (with_reducible refine Kd.C_alloc ?_ _) | (with_reducible refine Kd.C_drewN ?_ _) | (with_reducible refine Kd.C_drew ?_)))
                     (case side6 => exact (Kd.R_reads' HO_408003.out).2.1)
                     rintro e w65 ⟨rfl, hb⟩
                     have HS5_ := (hb.cell (World.block_lt_of_cell? _ _ (hHeld.2.2.2.2.2))).trans (hHeld.2.2.2.2.2)
                     refine ⟨_, rfl, ?_⟩
                     have n0_ := Aside0.mk (Kd.R_below (by (with_reducible repeat (first | apply Kd.R_alloc | apply Kd.R_drewN | apply Kd.R_drew)); exact HO_8.out) hb)
                     have n1_ := Aside0.mk (Kd.R_below (by (with_reducible repeat (first | apply Kd.R_alloc | apply Kd.R_drewN | apply Kd.R_drew)); exact HO_408000.out) hb)
                     have n2_ := Aside0.mk (Kd.S_below (by (with_reducible repeat (first | apply Kd.S_alloc | apply Kd.S_drewN | apply Kd.S_drew)); exact HO_408002.out) hb)
                     have n3_ := Aside0.mk (Kd.R_below (by (with_reducible repeat (first | apply Kd.R_alloc | apply Kd.R_drewN | apply Kd.R_drew)); exact HO_408003.out) hb)
                     have n4_ := Aside0.mk (Kd.R_below (by (with_reducible repeat (first | apply Kd.R_alloc | apply Kd.R_drewN | apply Kd.R_drew)); exact HO_416000.out) hb)
                     have n5_ := Aside0.mk (Kd.R_below (by (with_reducible repeat (first | apply Kd.R_alloc | apply Kd.R_drewN | apply Kd.R_drew)); exact HO_416001.out) hb)
                     have n6_ := Aside0.mk (blk_below (g := gb395) (o := .cells #[.slice A0_0 l0_0.length c0_0, .slice A0_1 l0_1.length c0_1, .int .i64 a0_2, .int .i64 a0_3] 25 (0, 0)) (by (with_reducible repeat (first | refine blk_drewN ?_ _ | refine blk_drew ?_ | refine blk_alloc ?_ _)); exact BK395.out) hb)
                     have n7_ := Aside0.mk (blk_below (g := gb407) (o := .cells #[.slice Ao10 t396.length co10, .int .i64 t399, .slice Ao13 t400.length co13, .slice Ao14 t403.length co14, .int .i64 t406] 28 (0, 0)) (by (with_reducible repeat (first | refine blk_drewN ?_ _ | refine blk_drew ?_ | refine blk_alloc ?_ _)); exact BK407.out) hb)
                     have n8_ := Aside0.mk (blk_below (g := gb415) (o := .cells #[.slice Ao17 t408.length co17, .slice (some ad426) t411.length co21] 48 (0, 0)) (by (with_reducible repeat (first | refine blk_drewN ?_ _ | refine blk_drew ?_ | refine blk_alloc ?_ _)); exact BK415.out) hb)
                     have n9_ := Aside0.mk (below_step (by repeat (first | (with_reducible first | exact HB.out | apply below_alloc | apply pw_below_drewN | apply below_drew1 | refine below_set ?_ GE395.out | refine below_set ?_ GE407.out | refine below_set ?_ GE415.out) | exact HB.out)) hb)
                     clear HO_8
                     clear HO_408000
                     clear HO_408002
                     clear HO_408003
                     clear HO_416000
                     clear HO_416001
                     clear BK395
                     clear BK407
                     clear BK415
                     clear HB
                     have HO_8 := n0_
                     have HO_408000 := n1_
                     have HO_408002 := n2_
                     have HO_408003 := n3_
                     have HO_416000 := n4_
                     have HO_416001 := n5_
                     have BK395 := n6_
                     have BK407 := n7_
                     have BK415 := n8_
                     have HB := n9_
                     clear n0_ n1_ n2_ n3_ n4_ n5_ n6_ n7_ n8_ n9_
                     (try clear hb)
                     (try clear hb2)
                     (try clear hk)
                     (try clear hi)
                     refine hK.out _ _ ⟨(blk_cell BK407.out 0).trans rfl, (blk_cell BK407.out 1).trans rfl, (blk_cell BK407.out 2).trans rfl, (blk_cell BK407.out 3).trans rfl, (blk_cell BK407.out 4).trans rfl, HS5_⟩ (fun hHeld => ?_)
                     clear hK K
                     refine norm_ (a' := ?_) ?_ ?_
                     rotate_left
                     ·
                      show Act.put _ (some 98) _ = _
                      simp only [Act.put, List.setIfInBounds_toArray, List.set_cons_zero, List.set_cons_succ, i64_w, i32_w]
                      rfl
                     refine pure_ (i := 7) (N := some 99) (v := ?_) (a' := ?_) #[true, true, true, true, true, true, true, true] rfl rfl (any_of HT_.out (by kernel_rfl)) (fun _ _ _ h => h) (Or.inl ⟨by rfl, ?_⟩) ?_ ?_
                     rotate_left
                     ·
                      intro w'
                      go_simp
                      with_reducible rfl
                     rotate_left
                     ·
                      simp only [Act.put, List.setIfInBounds_toArray, List.set_cons_zero, List.set_cons_succ, i64_w, i32_w]
                      rfl
                     refine done_ (done_of HT_.out (by kernel_rfl)) ?_
                     have hnb66 := NB415_395.out
                     have hnc66 := NB395_415.out
                     have hnb67 := NB415_407.out
                     have hnc67 := NB407_415.out
                     have hcz68_0 : w65.cell? ⟨gb415, 0, none⟩ = some (.slice Ao17 t408.length co17) := (blk_cell BK415.out 0).trans rfl
                     have hcz68_1 : w65.cell? ⟨gb415, 1, none⟩ = some (.slice (some ad426) t411.length co21) := (blk_cell BK415.out 1).trans rfl
                     have hfz68_0 := blk_frozen BK415.out 0
                     have hfz68_1 := blk_frozen BK415.out 1
                     try go_wp2
                     have n0_ := Aside0.mk (Kd.R_drew HO_8.out)
                     have n1_ := Aside0.mk (Kd.R_drew HO_408000.out)
                     have n2_ := Aside0.mk (Kd.S_drew HO_408002.out)
                     have n3_ := Aside0.mk (Kd.R_drew HO_408003.out)
                     have n4_ := Aside0.mk (Kd.R_drew HO_416000.out)
                     have n5_ := Aside0.mk (Kd.R_drew HO_416001.out)
                     have n6_ := Aside0.mk (blk_drew BK395.out)
                     have n7_ := Aside0.mk (blk_drew BK407.out)
                     have n8_ := Aside0.mk (blk_drew BK415.out)
                     have n9_ := Aside0.mk (below_drew1 HB.out)
                     clear HO_8
                     clear HO_408000
                     clear HO_408002
                     clear HO_408003
                     clear HO_416000
                     clear HO_416001
                     clear BK395
                     clear BK407
                     clear BK415
                     clear HB
                     have HO_8 := n0_
                     have HO_408000 := n1_
                     have HO_408002 := n2_
                     have HO_408003 := n3_
                     have HO_416000 := n4_
                     have HO_416001 := n5_
                     have BK395 := n6_
                     have BK407 := n7_
                     have BK415 := n8_
                     have HB := n9_
                     clear n0_ n1_ n2_ n3_ n4_ n5_ n6_ n7_ n8_ n9_
                     have p430 : 0 ≤ (x10_3 : Int) := of_decide_eq_true (by first | (with_reducible assumption) | assumption)
                     have q430 : x10_3 < (y421.length : Int) := of_decide_eq_true (by first | (with_reducible assumption) | assumption)
                     obtain ⟨ad430, e430, hx430_0⟩ := Kd.at_int (Kd.R_reads' HO_8.out).2.2 x10_3 p430 q430
                     obtain rfl : ad428 = ad430 := (by injection e430)
                     replace p430 := eq_true p430
                     replace q430 := eq_true q430
                     have p431 : 0 ≤ ((rd y421 x10_3) : Int) := of_decide_eq_true (by first | (with_reducible assumption) | assumption)
                     have q431 : (rd y421 x10_3) < (t403.length : Int) := of_decide_eq_true (by first | (with_reducible assumption) | assumption)
                     obtain ⟨ad431, e431, hx431_0⟩ := Kd.at_int (Kd.R_reads' HO_408003.out).2.2 (rd y421 x10_3) p431 q431
                     cases e431
                     replace p431 := eq_true p431
                     replace q431 := eq_true q431
                     refine start_ (n := 11) (S := fun w' => w'.cell? ⟨gb407, 0, none⟩ = some (.slice Ao10 t396.length co10) ∧ w'.cell? ⟨gb407, 1, none⟩ = some (.int .i64 t399) ∧ w'.cell? ⟨gb407, 2, none⟩ = some (.slice Ao13 t400.length co13) ∧ w'.cell? ⟨gb407, 3, none⟩ = some (.slice (some ad431) t403.length co14) ∧ w'.cell? ⟨gb407, 4, none⟩ = some (.int .i64 t406) ∧ w'.cell? (ad428.add (x10_3).toNat) = some (.int .i64 (rd y421 x10_3)) ∧ w'.cell? (ad431.add ((rd y421 x10_3)).toNat) = some (.int .i64 (rd t403 (rd y421 x10_3)))) (ds := []) #[false, false, false, false, false, false, false, false, false, false, false] (by kernel_rfl) rfl rfl ⟨(blk_cell BK407.out 0).trans rfl, (blk_cell BK407.out 1).trans rfl, (blk_cell BK407.out 2).trans rfl, (blk_cell BK407.out 3).trans rfl, (blk_cell BK407.out 4).trans rfl, hx430_0, hx431_0⟩ (fun hHeld => ?_); refine with_tabW foretellkeep_LassoGoes.tab19 foretellkeep_LassoGoes.bits19 (fun HT_ HW_ => ?_)
                     generalize w65.drew = w69 at HO_8 HO_408000 HO_408002 HO_408003 HO_416000 HO_416001 BK395 BK407 BK415 HB hx430_0 hx431_0 hHeld ⊢
                     refine pure_ (i := 0) (N := some 105) (v := ?_) (a' := ?_) #[true, false, false, false, false, false, false, false, false, false, false] rfl rfl (any_of HT_.out (by kernel_rfl)) (fun _ _ _ h => h) (Or.inl ⟨by rfl, ?_⟩) ?_ ?_
                     rotate_left
                     ·
                      intro w'
                      go_simp
                      with_reducible rfl
                     rotate_left
                     ·
                      simp only [Act.put, List.setIfInBounds_toArray, List.set_cons_zero, List.set_cons_succ, i64_w, i32_w]
                      rfl
                     refine pure_ (i := 1) (N := some 106) (v := ?_) (a' := ?_) #[true, true, false, false, false, false, false, false, false, false, false] rfl rfl (any_of HT_.out (by kernel_rfl)) (fun _ _ _ h => h) (Or.inl ⟨by rfl, ?_⟩) ?_ ?_
                     rotate_left
                     ·
                      intro w'
                      go_simp
                      with_reducible rfl
                     rotate_left
                     ·
                      simp only [Act.put, List.setIfInBounds_toArray, List.set_cons_zero, List.set_cons_succ, i64_w, i32_w]
                      rfl
                     refine pure_ (i := 3) (N := some 108) (v := ?_) (a' := ?_) #[true, true, false, true, false, false, false, false, false, false, false] rfl rfl (any_of HT_.out (by kernel_rfl)) (fun _ _ _ h => h) (Or.inl ⟨by rfl, ?_⟩) ?_ ?_
                     rotate_left
                     ·
                      intro w'
                      go_simp
                      with_reducible rfl
                     rotate_left
                     ·
                      simp only [Act.put, List.setIfInBounds_toArray, List.set_cons_zero, List.set_cons_succ, i64_w, i32_w]
                      rfl
                     refine pure_ (i := 4) (N := some 109) (v := ?_) (a' := ?_) #[true, true, false, true, true, false, false, false, false, false, false] rfl rfl (any_of HT_.out (by kernel_rfl)) (fun _ _ _ h => h) (Or.inl ⟨by rfl, ?_⟩) ?_ ?_
                     rotate_left
                     ·
                      intro w'
                      go_simp
                      with_reducible rfl
                     rotate_left
                     ·
                      simp only [Act.put, List.setIfInBounds_toArray, List.set_cons_zero, List.set_cons_succ, i64_w, i32_w]
                      rfl
                     refine pure_ (i := 5) (N := some 110) (v := ?_) (a' := ?_) #[true, true, false, true, true, true, false, false, false, false, false] rfl rfl (any_of HT_.out (by kernel_rfl)) (fun _ _ _ h => h) (Or.inl ⟨by rfl, ?_⟩) ?_ ?_
                     rotate_left
                     ·
                      intro w'
                      go_simp
                      with_reducible rfl
                     rotate_left
                     ·
                      simp only [Act.put, List.setIfInBounds_toArray, List.set_cons_zero, List.set_cons_succ, i64_w, i32_w]
                      rfl
                     refine take_ (i := 2) (N := some 107) (v := ?_) (a' := ?_) #[true, true, true, true, true, true, false, false, false, false, false] rfl rfl (take_ofW HT_.out HW_.out (by kernel_rfl)) (fun _ _ _ h => h) (Or.inl ⟨by rfl, ?_⟩) hHeld ?_ ?_
                     rotate_left
                     ·
                      rintro w' ⟨s0, s1, s2, s3, s4, s5, s6⟩
                      go_simp
                      with_reducible rfl
                     rotate_left
                     ·
                      simp only [Act.put, List.setIfInBounds_toArray, List.set_cons_zero, List.set_cons_succ, i64_w, i32_w]
                      rfl
                     refine take_ (i := 6) (N := some 111) (v := ?_) (a' := ?_) #[true, true, true, true, true, true, true, false, false, false, false] rfl rfl (take_ofW HT_.out HW_.out (by kernel_rfl)) (fun _ _ _ h => h) (Or.inl ⟨by rfl, ?_⟩) hHeld ?_ ?_
                     rotate_left
                     ·
                      rintro w' ⟨s0, s1, s2, s3, s4, s5, s6⟩
                      go_simp
                      with_reducible rfl
                     rotate_left
                     ·
                      simp only [Act.put, List.setIfInBounds_toArray, List.set_cons_zero, List.set_cons_succ, i64_w, i32_w]
                      rfl
                     refine pure_ (i := 7) (N := some 112) (v := ?_) (a' := ?_) #[true, true, true, true, true, true, true, true, false, false, false] rfl rfl (any_of HT_.out (by kernel_rfl)) (fun _ _ _ h => h) (Or.inl ⟨by rfl, ?_⟩) ?_ ?_
                     rotate_left
                     ·
                      intro w'
                      go_simp
                      with_reducible rfl
                     rotate_left
                     ·
                      simp only [Act.put, List.setIfInBounds_toArray, List.set_cons_zero, List.set_cons_succ, i64_w, i32_w]
                      rfl
                     refine take_ (i := 8) (N := some 113) (v := ?_) (a' := ?_) #[true, true, true, true, true, true, true, true, true, false, false] rfl rfl (take_ofW HT_.out HW_.out (by kernel_rfl)) (fun _ _ _ h => h) (Or.inl ⟨by rfl, ?_⟩) hHeld ?_ ?_
                     rotate_left
                     ·
                      rintro w' ⟨s0, s1, s2, s3, s4, s5, s6⟩
                      go_simp
                      with_reducible rfl
                     rotate_left
                     ·
                      simp only [Act.put, List.setIfInBounds_toArray, List.set_cons_zero, List.set_cons_succ, i64_w, i32_w]
                      rfl
                     refine pure_ (i := 9) (N := some 114) (v := ?_) (a' := ?_) #[true, true, true, true, true, true, true, true, true, true, false] rfl rfl (any_of HT_.out (by kernel_rfl)) (fun _ _ _ h => h) (Or.inl ⟨by rfl, ?_⟩) ?_ ?_
                     rotate_left
                     ·
                      intro w'
                      go_simp
                      with_reducible rfl
                     rotate_left
                     ·
                      simp only [Act.put, List.setIfInBounds_toArray, List.set_cons_zero, List.set_cons_succ, i64_w, i32_w]
                      rfl
                     refine pure_ (i := 10) (N := some 9) (v := ?_) (a' := ?_) #[true, true, true, true, true, true, true, true, true, true, true] rfl rfl (any_of HT_.out (by kernel_rfl)) (fun _ _ _ h => h) (Or.inl ⟨by rfl, ?_⟩) ?_ ?_
                     rotate_left
                     ·
                      intro w'
                      go_simp
                      with_reducible rfl
                     rotate_left
                     ·
                      simp only [Act.put, List.setIfInBounds_toArray, List.set_cons_zero, List.set_cons_succ, i64_w, i32_w]
                      rfl
                     refine done_ (done_of HT_.out (by kernel_rfl)) ?_
                     try go_wp2
                     go_roundg kj48
                     case measure => have := HJ4.out; have := HJ33.out; have := HK3.out; have := HJ48.out; omega
                     case rel => exact ⟨(Go.bits .or .i64 x9_3 (rd t403 (rd y421 x10_3))), (wrap64 (x10_3 + 1)), (by first | rfl | (simp; done) | (simp [*]; done)), (by first | rfl | (simp; done) | (simp [*]; done)), (by first | exact H' | (rw [hji55]; exact H')), ⟨by have := HJ4.out; have := HJ33.out; have := HK3.out; have := HJ48.out; omega⟩, ⟨by (with_reducible repeat (first | apply Kd.R_alloc | apply Kd.R_drewN | apply Kd.R_drew)); exact HO_8.out⟩, ⟨by (with_reducible repeat (first | apply Kd.R_alloc | apply Kd.R_drewN | apply Kd.R_drew)); exact HO_408000.out⟩, ⟨by (with_reducible repeat (first | apply Kd.S_alloc | apply Kd.S_drewN | apply Kd.S_drew)); exact HO_408002.out⟩, ⟨by (with_reducible repeat (first | apply Kd.R_alloc | apply Kd.R_drewN | apply Kd.R_drew)); exact HO_408003.out⟩, ⟨by (with_reducible repeat (first | apply Kd.R_alloc | apply Kd.R_drewN | apply Kd.R_drew)); exact HO_416000.out⟩, ⟨by (with_reducible repeat (first | apply Kd.R_alloc | apply Kd.R_drewN | apply Kd.R_drew)); exact HO_416001.out⟩, ⟨by (with_reducible repeat (first | refine blk_drewN ?_ _ | refine blk_drew ?_ | refine blk_alloc ?_ _)); exact BK395.out⟩, ⟨by (with_reducible repeat (first | refine blk_drewN ?_ _ | refine blk_drew ?_ | refine blk_alloc ?_ _)); exact BK407.out⟩, ⟨by (with_reducible repeat (first | refine blk_drewN ?_ _ | refine blk_drew ?_ | refine blk_alloc ?_ _)); exact BK415.out⟩, ⟨by repeat (first | (with_reducible first | exact HB.out | apply below_alloc | apply pw_below_drewN | apply below_drew1 | refine below_set ?_ GE395.out | refine below_set ?_ GE407.out | refine below_set ?_ GE415.out) | exact HB.out)⟩⟩
                    ·
                     rw [if_neg c63] at H
                     exact absurd H (by simp)
                   ·
                    rw [if_neg c62] at H
                    exact absurd H (by simp)
                  ·
                   rw [if_neg c61] at H
                   have c61b0 : decide ((t408.length : Int) ≤ x10_3) = false := decide_eq_false c61
                   clear c61
                   have H' := Aside0.mk H
                   clear H
                   try go_wp2
                   have n0_ := Aside0.mk (Kd.R_drew HO_8.out)
                   have n1_ := Aside0.mk (Kd.R_drew HO_408000.out)
                   have n2_ := Aside0.mk (Kd.S_drew HO_408002.out)
                   have n3_ := Aside0.mk (Kd.R_drew HO_408003.out)
                   have n4_ := Aside0.mk (Kd.R_drew HO_416000.out)
                   have n5_ := Aside0.mk (Kd.R_drew HO_416001.out)
                   have n6_ := Aside0.mk (blk_drew BK395.out)
                   have n7_ := Aside0.mk (blk_drew BK407.out)
                   have n8_ := Aside0.mk (blk_drew BK415.out)
                   have n9_ := Aside0.mk (below_drew1 HB.out)
                   clear HO_8
                   clear HO_408000
                   clear HO_408002
                   clear HO_408003
                   clear HO_416000
                   clear HO_416001
                   clear BK395
                   clear BK407
                   clear BK415
                   clear HB
                   have HO_8 := n0_
                   have HO_408000 := n1_
                   have HO_408002 := n2_
                   have HO_408003 := n3_
                   have HO_416000 := n4_
                   have HO_416001 := n5_
                   have BK395 := n6_
                   have BK407 := n7_
                   have BK415 := n8_
                   have HB := n9_
                   clear n0_ n1_ n2_ n3_ n4_ n5_ n6_ n7_ n8_ n9_
                   have p428 : 0 ≤ (x10_3 : Int) := of_decide_eq_true (by first | (with_reducible assumption) | assumption)
                   have q428 : x10_3 < (y421.length : Int) := of_decide_eq_true (by first | (with_reducible assumption) | assumption)
                   obtain ⟨ad428, e428, hx428_0⟩ := Kd.at_int (Kd.R_reads' HO_8.out).2.2 x10_3 p428 q428
                   cases e428
                   replace p428 := eq_true p428
                   replace q428 := eq_true q428
                   refine start_ (n := 8) (S := fun w' => w'.cell? ⟨gb407, 0, none⟩ = some (.slice Ao10 t396.length co10) ∧ w'.cell? ⟨gb407, 1, none⟩ = some (.int .i64 t399) ∧ w'.cell? ⟨gb407, 2, none⟩ = some (.slice Ao13 t400.length co13) ∧ w'.cell? ⟨gb407, 3, none⟩ = some (.slice Ao14 t403.length co14) ∧ w'.cell? ⟨gb407, 4, none⟩ = some (.int .i64 t406) ∧ w'.cell? (ad428.add (x10_3).toNat) = some (.int .i64 (rd y421 x10_3))) (ds := []) #[false, false, false, false, false, false, false, false] (by kernel_rfl) rfl rfl ⟨(blk_cell BK407.out 0).trans rfl, (blk_cell BK407.out 1).trans rfl, (blk_cell BK407.out 2).trans rfl, (blk_cell BK407.out 3).trans rfl, (blk_cell BK407.out 4).trans rfl, hx428_0⟩ (fun hHeld => ?_); refine with_tabW foretellkeep_LassoGoes.tab16 foretellkeep_LassoGoes.bits16 (fun HT_ HW_ => ?_)
                   generalize wc.drew = w70 at HO_8 HO_408000 HO_408002 HO_408003 HO_416000 HO_416001 BK395 BK407 BK415 HB hx428_0 hHeld ⊢
                   refine pure_ (i := 1) (N := some 93) (v := ?_) (a' := ?_) #[false, true, false, false, false, false, false, false] rfl rfl (any_of HT_.out (by kernel_rfl)) (fun _ _ _ h => h) (Or.inl ⟨by rfl, ?_⟩) ?_ ?_
                   rotate_left
                   ·
                    intro w'
                    go_simp
                    with_reducible rfl
                   rotate_left
                   ·
                    simp only [Act.put, List.setIfInBounds_toArray, List.set_cons_zero, List.set_cons_succ, i64_w, i32_w]
                    rfl
                   refine pure_ (i := 2) (N := some 94) (v := ?_) (a' := ?_) #[false, true, true, false, false, false, false, false] rfl rfl (any_of HT_.out (by kernel_rfl)) (fun _ _ _ h => h) (Or.inl ⟨by rfl, ?_⟩) ?_ ?_
                   rotate_left
                   ·
                    intro w'
                    go_simp
                    with_reducible rfl
                   rotate_left
                   ·
                    simp only [Act.put, List.setIfInBounds_toArray, List.set_cons_zero, List.set_cons_succ, i64_w, i32_w]
                    rfl
                   refine pure_ (i := 3) (N := some 95) (v := ?_) (a' := ?_) #[false, true, true, true, false, false, false, false] rfl rfl (any_of HT_.out (by kernel_rfl)) (fun _ _ _ h => h) (Or.inl ⟨by rfl, ?_⟩) ?_ ?_
                   rotate_left
                   ·
                    intro w'
                    go_simp
                    with_reducible rfl
                   rotate_left
                   ·
                    simp only [Act.put, List.setIfInBounds_toArray, List.set_cons_zero, List.set_cons_succ, i64_w, i32_w]
                    rfl
                   refine pure_ (i := 5) (N := some 97) (v := ?_) (a' := ?_) #[false, true, true, true, false, true, false, false] rfl rfl (any_of HT_.out (by kernel_rfl)) (fun _ _ _ h => h) (Or.inl ⟨by rfl, ?_⟩) ?_ ?_
                   rotate_left
                   ·
                    intro w'
                    go_simp
                    with_reducible rfl
                   rotate_left
                   ·
                    simp only [Act.put, List.setIfInBounds_toArray, List.set_cons_zero, List.set_cons_succ, i64_w, i32_w]
                    rfl
                   refine take_ (i := 0) (N := some 92) (v := ?_) (a' := ?_) #[true, true, true, true, false, true, false, false] rfl rfl (take_ofW HT_.out HW_.out (by kernel_rfl)) (fun _ _ _ h => h) (Or.inl ⟨by rfl, ?_⟩) hHeld ?_ ?_
                   rotate_left
                   ·
                    rintro w' ⟨s0, s1, s2, s3, s4, s5⟩
                    go_simp
                    with_reducible rfl
                   rotate_left
                   ·
                    simp only [Act.put, List.setIfInBounds_toArray, List.set_cons_zero, List.set_cons_succ, i64_w, i32_w]
                    rfl
                   refine take_ (i := 4) (N := some 96) (v := ?_) (a' := ?_) #[true, true, true, true, true, true, false, false] rfl rfl (take_ofW HT_.out HW_.out (by kernel_rfl)) (fun _ _ _ h => h) (Or.inl ⟨by rfl, ?_⟩) hHeld ?_ ?_
                   rotate_left
                   ·
                    rintro w' ⟨s0, s1, s2, s3, s4, s5⟩
                    go_simp
                    with_reducible rfl
                   rotate_left
                   ·
                    simp only [Act.put, List.setIfInBounds_toArray, List.set_cons_zero, List.set_cons_succ, i64_w, i32_w]
                    rfl
                   refine one_ (i := 6) (N := some 98) #[true, true, true, true, true, true, true, false] rfl rfl (one_of HT_.out (by kernel_rfl)) (by decide) (fun K hK => ?_)
                   refine goes_ Try.func17 (by kernel_rfl) rfl #[.agg #[.slice Ao10 t396.length co10, .int .i64 t399, .slice Ao13 t400.length co13, .slice Ao14 t403.length co14, .int .i64 t406], .int .i64 (rd y421 x10_3), .int .i64 x11_48] (by rfl) rfl rfl (by (try simp only [List.map_toArray, List.map_cons, List.map_nil]); first | done | rfl | (simp only [List.length_drop, List.length_take]; rfl)) ?_
                   with_reducible refine (foretellkeep_leads.calls kj48 _ _ t396 t399 _ _ t400 _ _ t403 t406 (rd y421 x10_3) x11_48 true _ ?side1 ?side2 ?side3 ?side4 ?side5 ?side6 A59.out).mono ?_
                   (case side1 => repeat (first | exact (Kd.R_reads' HO_408000.out).2.2 | (with_reducible refine Kd.C_alloc ?_ _) | (with_reducible refine Kd.C_drewN ?_ _) | (with_reducible refine Kd.C_drew ?_)))
                   (case side2 => exact (Kd.R_reads' HO_408000.out).2.1)
                   (case side3 => repeat (first | exact (Kd.S_reads' HO_408002.out).2.2 | (with_reducible refine Kd.C_alloc ?_ _) | (with_reducible refine Kd.C_drewN ?_ _) | (with_reducible refine Kd.C_drew ?_)))
                   (case side4 => exact (Kd.S_reads' HO_408002.out).2.1)
                   (case side5 => repeat (first | exact (Kd.R_reads' HO_408003.out).2.2 | (with_reducible refine Kd.C_alloc ?_ _) | (with_reducible refine Kd.C_drewN ?_ _) | (with_reducible refine Kd.C_drew ?_)))
                   (case side6 => exact (Kd.R_reads' HO_408003.out).2.1)
                   rintro e w71 ⟨rfl, hb⟩
                   have HS5_ := (hb.cell (World.block_lt_of_cell? _ _ (hHeld.2.2.2.2.2))).trans (hHeld.2.2.2.2.2)
                   refine ⟨_, rfl, ?_⟩
                   have n0_ := Aside0.mk (Kd.R_below (by (with_reducible repeat (first | apply Kd.R_alloc | apply Kd.R_drewN | apply Kd.R_drew)); exact HO_8.out) hb)
                   have n1_ := Aside0.mk (Kd.R_below (by (with_reducible repeat (first | apply Kd.R_alloc | apply Kd.R_drewN | apply Kd.R_drew)); exact HO_408000.out) hb)
                   have n2_ := Aside0.mk (Kd.S_below (by (with_reducible repeat (first | apply Kd.S_alloc | apply Kd.S_drewN | apply Kd.S_drew)); exact HO_408002.out) hb)
                   have n3_ := Aside0.mk (Kd.R_below (by (with_reducible repeat (first | apply Kd.R_alloc | apply Kd.R_drewN | apply Kd.R_drew)); exact HO_408003.out) hb)
                   have n4_ := Aside0.mk (Kd.R_below (by (with_reducible repeat (first | apply Kd.R_alloc | apply Kd.R_drewN | apply Kd.R_drew)); exact HO_416000.out) hb)
                   have n5_ := Aside0.mk (Kd.R_below (by (with_reducible repeat (first | apply Kd.R_alloc | apply Kd.R_drewN | apply Kd.R_drew)); exact HO_416001.out) hb)
                   have n6_ := Aside0.mk (blk_below (g := gb395) (o := .cells #[.slice A0_0 l0_0.length c0_0, .slice A0_1 l0_1.length c0_1, .int .i64 a0_2, .int .i64 a0_3] 25 (0, 0)) (by (with_reducible repeat (first | refine blk_drewN ?_ _ | refine blk_drew ?_ | refine blk_alloc ?_ _)); exact BK395.out) hb)
                   have n7_ := Aside0.mk (blk_below (g := gb407) (o := .cells #[.slice Ao10 t396.length co10, .int .i64 t399, .slice Ao13 t400.length co13, .slice Ao14 t403.length co14, .int .i64 t406] 28 (0, 0)) (by (with_reducible repeat (first | refine blk_drewN ?_ _ | refine blk_drew ?_ | refine blk_alloc ?_ _)); exact BK407.out) hb)
                   have n8_ := Aside0.mk (blk_below (g := gb415) (o := .cells #[.slice Ao17 t408.length co17, .slice (some ad426) t411.length co21] 48 (0, 0)) (by (with_reducible repeat (first | refine blk_drewN ?_ _ | refine blk_drew ?_ | refine blk_alloc ?_ _)); exact BK415.out) hb)
                   have n9_ := Aside0.mk (below_step (by repeat (first | (with_reducible first | exact HB.out | apply below_alloc | apply pw_below_drewN | apply below_drew1 | refine below_set ?_ GE395.out | refine below_set ?_ GE407.out | refine below_set ?_ GE415.out) | exact HB.out)) hb)
                   clear HO_8
                   clear HO_408000
                   clear HO_408002
                   clear HO_408003
                   clear HO_416000
                   clear HO_416001
                   clear BK395
                   clear BK407
                   clear BK415
                   clear HB
                   have HO_8 := n0_
                   have HO_408000 := n1_
                   have HO_408002 := n2_
                   have HO_408003 := n3_
                   have HO_416000 := n4_
                   have HO_416001 := n5_
                   have BK395 := n6_
                   have BK407 := n7_
                   have BK415 := n8_
                   have HB := n9_
                   clear n0_ n1_ n2_ n3_ n4_ n5_ n6_ n7_ n8_ n9_
                   (try clear hb)
                   (try clear hb2)
                   (try clear hk)
                   (try clear hi)
                   refine hK.out _ _ ⟨(blk_cell BK407.out 0).trans rfl, (blk_cell BK407.out 1).trans rfl, (blk_cell BK407.out 2).trans rfl, (blk_cell BK407.out 3).trans rfl, (blk_cell BK407.out 4).trans rfl, HS5_⟩ (fun hHeld => ?_)
                   clear hK K
                   refine norm_ (a' := ?_) ?_ ?_
                   rotate_left
                   ·
                    show Act.put _ (some 98) _ = _
                    simp only [Act.put, List.setIfInBounds_toArray, List.set_cons_zero, List.set_cons_succ, i64_w, i32_w]
                    rfl
                   refine pure_ (i := 7) (N := some 99) (v := ?_) (a' := ?_) #[true, true, true, true, true, true, true, true] rfl rfl (any_of HT_.out (by kernel_rfl)) (fun _ _ _ h => h) (Or.inl ⟨by rfl, ?_⟩) ?_ ?_
                   rotate_left
                   ·
                    intro w'
                    go_simp
                    with_reducible rfl
                   rotate_left
                   ·
                    simp only [Act.put, List.setIfInBounds_toArray, List.set_cons_zero, List.set_cons_succ, i64_w, i32_w]
                    rfl
                   refine done_ (done_of HT_.out (by kernel_rfl)) ?_
                   have hnb72 := NB415_395.out
                   have hnc72 := NB395_415.out
                   have hnb73 := NB415_407.out
                   have hnc73 := NB407_415.out
                   have hcz74_0 : w71.cell? ⟨gb415, 0, none⟩ = some (.slice Ao17 t408.length co17) := (blk_cell BK415.out 0).trans rfl
                   have hcz74_1 : w71.cell? ⟨gb415, 1, none⟩ = some (.slice (some ad426) t411.length co21) := (blk_cell BK415.out 1).trans rfl
                   have hfz74_0 := blk_frozen BK415.out 0
                   have hfz74_1 := blk_frozen BK415.out 1
                   try go_wp2
                   go_roundg kj48
                   case measure => have := HJ4.out; have := HJ33.out; have := HK3.out; have := HJ48.out; omega
                   case rel => exact ⟨(x9_3), (wrap64 (x10_3 + 1)), (by first | rfl | (simp; done) | (simp [*]; done)), (by first | rfl | (simp; done) | (simp [*]; done)), (by first | exact H' | (rw [hji55]; exact H')), ⟨by have := HJ4.out; have := HJ33.out; have := HK3.out; have := HJ48.out; omega⟩, ⟨by (with_reducible repeat (first | apply Kd.R_alloc | apply Kd.R_drewN | apply Kd.R_drew)); exact HO_8.out⟩, ⟨by (with_reducible repeat (first | apply Kd.R_alloc | apply Kd.R_drewN | apply Kd.R_drew)); exact HO_408000.out⟩, ⟨by (with_reducible repeat (first | apply Kd.S_alloc | apply Kd.S_drewN | apply Kd.S_drew)); exact HO_408002.out⟩, ⟨by (with_reducible repeat (first | apply Kd.R_alloc | apply Kd.R_drewN | apply Kd.R_drew)); exact HO_408003.out⟩, ⟨by (with_reducible repeat (first | apply Kd.R_alloc | apply Kd.R_drewN | apply Kd.R_drew)); exact HO_416000.out⟩, ⟨by (with_reducible repeat (first | apply Kd.R_alloc | apply Kd.R_drewN | apply Kd.R_drew)); exact HO_416001.out⟩, ⟨by (with_reducible repeat (first | refine blk_drewN ?_ _ | refine blk_drew ?_ | refine blk_alloc ?_ _)); exact BK395.out⟩, ⟨by (with_reducible repeat (first | refine blk_drewN ?_ _ | refine blk_drew ?_ | refine blk_alloc ?_ _)); exact BK407.out⟩, ⟨by (with_reducible repeat (first | refine blk_drewN ?_ _ | refine blk_drew ?_ | refine blk_alloc ?_ _)); exact BK415.out⟩, ⟨by repeat (first | (with_reducible first | exact HB.out | apply below_alloc | apply pw_below_drewN | apply below_drew1 | refine below_set ?_ GE395.out | refine below_set ?_ GE407.out | refine below_set ?_ GE415.out) | exact HB.out)⟩⟩
                 ·
                  replace c60 := Bool.eq_false_iff.mpr c60
                  subst c60
                  have H1 : (some false) = some r := by rw [if_neg (show ¬ (false = true) by decide)] at H; exact H
                  clear H
                  have H := H1
                  clear H1
                  exact absurd ((Option.some.inj H).trans hr_.out) (by decide)
                ·
                 rw [if_neg c58] at H
                 exact absurd H (by simp)
               ·
                rw [if_neg c57] at H
                exact absurd H (by simp)
            ·
             rw [if_neg c48] at H
             exact absurd H (by simp)
           ·
            rw [if_neg c47] at H
            have c47b0 : decide (x10_3 < (y421.length : Int)) = false := decide_eq_false c47
            clear c47
            by_cases c75 : 0 ≤ t406
            ·
             rw [if_pos c75] at H
             have c75b0 := eq_true c75
             have c75b1 : decide (0 ≤ t406) = true := decide_eq_true c75
             clear c75
             obtain ⟨ji76, hji76⟩ : ∃ j_ : Int, (shl .i64 1 t406) = j_ := ⟨_, rfl⟩
             replace H : (some (x9_3 == (wrap64 ((ji76) - 1)))) = some r := by first | (rw [hji76] at H; exact H) | (simp only [hji76] at H ⊢; exact H)
             have hji76_ : (IntKind.i64.wrap (1 * 2 ^ min t406.toNat 64)) = ji76 := hji76
             have hji76z : t406 ≤ 64 → (IntKind.i64.wrap (1 * 2 ^ t406.toNat)) = ji76 := shl_small hji76
             have hji76u : (IntKind.i64.wrap (2 ^ min t406.toNat 64)) = ji76 := by have h_ := hji76_; rw [Int.one_mul] at h_; exact h_
             have hji76v : t406 ≤ 64 → (IntKind.i64.wrap (2 ^ t406.toNat)) = ji76 := fun hle_ => by have h_ := hji76z hle_; rw [Int.one_mul] at h_; exact h_
             have hji76y : (wrap64 (1 * 2 ^ min t406.toNat 64)) = ji76 := (i64_w _).symm.trans hji76_
             have hji76x : t406 ≤ 64 → (wrap64 (1 * 2 ^ t406.toNat)) = ji76 := fun h_ => (i64_w _).symm.trans (hji76z h_)
             obtain rfl := Option.some.inj H
             obtain ⟨Ao77, co77, eo77⟩ := Kd.R_slice HO_8.out
             subst eo77
             have hnb78 := NB407_395.out
             have hnc78 := NB395_407.out
             have hnb79 := NB407_415.out
             have hnc79 := NB415_407.out
             have hcz80_0 : wr.cell? ⟨gb407, 0, none⟩ = some (.slice Ao10 t396.length co10) := (blk_cell BK407.out 0).trans rfl
             have hcz80_1 : wr.cell? ⟨gb407, 1, none⟩ = some (.int .i64 t399) := (blk_cell BK407.out 1).trans rfl
             have hcz80_2 : wr.cell? ⟨gb407, 2, none⟩ = some (.slice Ao13 t400.length co13) := (blk_cell BK407.out 2).trans rfl
             have hcz80_3 : wr.cell? ⟨gb407, 3, none⟩ = some (.slice Ao14 t403.length co14) := (blk_cell BK407.out 3).trans rfl
             have hcz80_4 : wr.cell? ⟨gb407, 4, none⟩ = some (.int .i64 t406) := (blk_cell BK407.out 4).trans rfl
             have hfz80_0 := blk_frozen BK407.out 0
             have hfz80_1 := blk_frozen BK407.out 1
             have hfz80_2 := blk_frozen BK407.out 2
             have hfz80_3 := blk_frozen BK407.out 3
             have hfz80_4 := blk_frozen BK407.out 4
             go_wp2
             go_ret
             exact ⟨by first | rfl | (simp [errW_none, errW_some] <;> rfl) | (simp only [← hji76]; first | rfl | (simp [errW_none, errW_some] <;> rfl)) | (simp [*, errW_none, errW_some] <;> rfl), by repeat (first | (with_reducible first | exact HB.out | apply below_alloc | apply pw_below_drewN | apply below_drew1 | refine below_set ?_ GE395.out | refine below_set ?_ GE407.out | refine below_set ?_ GE415.out) | exact HB.out)⟩
            ·
             rw [if_neg c75] at H
             exact absurd H (by simp)
     ·
      rw [if_neg c33] at H
      exact absurd H (by simp)
    ·
     rw [if_neg c32] at H
     exact absurd H (by simp)

end Go.Proofs.Ytpkigkmkolbiiaa.P
end
