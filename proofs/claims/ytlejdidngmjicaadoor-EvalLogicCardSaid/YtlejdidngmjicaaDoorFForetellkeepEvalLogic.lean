-- a walk, laid out by a program of this repo over the seat's translation
import Derived.Test.YtlejdidngmjicaaDoorF0
import Derived.Test.YtlejdidngmjicaaDoorFForetellkeepTruth
import Derived.Test.YtlejdidngmjicaaDoorFForetellkeepJoined
import Derived.Test.YtlejdidngmjicaaDoorFExprEval
import Derived.Test.YtlejdidngmjicaaDoorFForetellkeepEnv
namespace Go.Proofs.YtlejdidngmjicaaDoor.P
open Go.RowKit Go.Proofs.YtlejdidngmjicaaDoorW.PrintWords Go.Proofs.YtlejdidngmjicaaDoorW.PrintLast Go.Proofs.YtlejdidngmjicaaDoorW.PrintMore Go.Proofs.YtlejdidngmjicaaDoor.G
attribute [local go_sem] max2_int min2_int max_two min_two max_three min_three max_four min_four   -- for this text's walks alone
set_option linter.unusedVariables false
set_option linter.unusedSimpArgs false

/-! ### foretellkeep_EvalLogic: function 10 -/
mutual
def foretellkeep_EvalLogic.j0 : Nat → List (S32) → List (S32) → Int → Int → Int → Int → Int → Option (Bool)
  | 0, _, _, _, _, _, _, _ => none
  | k + 1, x7, x8, x9, x10, x356000, x356001, x356002 => (foretellkeep_joined.f k 10 (([x7] : List (List (S32))))).bind fun t382 => ((foretellkeep_joined.f k 10 (([x8] : List (List (S32))))).bind fun t388 => ((foretellkeep_joined.f k 9 (([t382, t388] : List (List (S32))))).bind fun t394 => ((foretellkeep_env.f x356000 x356001 x356002).bind fun t397 => ((expr_Eval.f k t394 t397).bind fun bt400 => (foretellkeep_EvalLogic.j1 k x7 x8 x9 x10 bt400.1 bt400.2 x356000 x356001 x356002)))))
def foretellkeep_EvalLogic.j1 : Nat → List (S32) → List (S32) → Int → Int → Int → Int → Int → Int → Int → Option (Bool)
  | 0, _, _, _, _, _, _, _, _, _ => none
  | k + 1, x7, x8, x9, x10, x11, x12, x356000, x356001, x356002 => (foretellkeep_joined.f k 9 (([x7, x8] : List (List (S32))))).bind fun t405 => ((foretellkeep_env.f x356000 x356001 x356002).bind fun t408 => ((expr_Eval.f k t405 t408).bind fun bt411 => (foretellkeep_EvalLogic.j2 k x7 x8 x9 x10 x11 x12 bt411.1 bt411.2 x356000 x356001 x356002)))
def foretellkeep_EvalLogic.j2 : Nat → List (S32) → List (S32) → Int → Int → Int → Int → Int → Int → Int → Int → Int → Option (Bool)
  | 0, _, _, _, _, _, _, _, _, _, _, _ => none
  | k + 1, x7, x8, x9, x10, x11, x12, x13, x14, x356000, x356001, x356002 => (foretellkeep_joined.f k 10 (([x7] : List (List (S32))))).bind fun t416 => ((foretellkeep_joined.f k 10 (([x8] : List (List (S32))))).bind fun t422 => ((foretellkeep_joined.f k 8 (([t416, t422] : List (List (S32))))).bind fun t428 => ((foretellkeep_joined.f k 10 (([t428] : List (List (S32))))).bind fun t434 => ((foretellkeep_env.f x356000 x356001 x356002).bind fun t437 => ((expr_Eval.f k t434 t437).bind fun bt440 => (foretellkeep_EvalLogic.j3 k x7 x9 x10 x11 x12 x13 x14 bt440.1 bt440.2 x356000 x356001 x356002))))))
def foretellkeep_EvalLogic.j3 : Nat → List (S32) → Int → Int → Int → Int → Int → Int → Int → Int → Int → Int → Int → Option (Bool)
  | 0, _, _, _, _, _, _, _, _, _, _, _, _ => none
  | k + 1, x7, x9, x10, x11, x12, x13, x14, x15, x16, x356000, x356001, x356002 => (foretellkeep_joined.f k 10 (([x7] : List (List (S32))))).bind fun t445 => ((foretellkeep_joined.f k 9 (([x7, t445] : List (List (S32))))).bind fun t451 => ((foretellkeep_env.f x356000 x356001 x356002).bind fun t454 => ((expr_Eval.f k t451 t454).bind fun bt457 => (foretellkeep_EvalLogic.j4 k x9 x10 x11 x12 x13 x14 x15 x16 bt457.1 bt457.2))))
def foretellkeep_EvalLogic.j4 : Nat → Int → Int → Int → Int → Int → Int → Int → Int → Int → Int → Option (Bool)
  | 0, _, _, _, _, _, _, _, _, _, _ => none
  | k + 1, x9, x10, x11, x12, x13, x14, x15, x16, x17, x18 => if x10 = 0 then (if x12 = 0 then (if x14 = 0 then (if x16 = 0 then (if x18 = 0 then (if x9 = x11 then (if x13 = x15 then (if x9 = 0 then (some (x17 == 1)) else (if x9 = 1 then (some (x17 == 1)) else (some false))) else (some false)) else (some false)) else (some false)) else (some false)) else (some false)) else (some false)) else (some false)
end
def foretellkeep_EvalLogic.f (k : Nat) (l0 : List (S69)) (l1 : List (S69)) (a2_0 : Int) (a2_1 : Int) (a2_2 : Int) : Option (Bool) := (foretellkeep_Truth.f k l0 3).bind fun t356 => ((foretellkeep_Truth.f k l1 3).bind fun t359 => ((foretellkeep_joined.f k 8 (([t356, t359] : List (List (S32))))).bind fun t365 => ((foretellkeep_joined.f k 10 (([t365] : List (List (S32))))).bind fun t371 => ((foretellkeep_env.f a2_0 a2_1 a2_2).bind fun t374 => ((expr_Eval.f k t371 t374).bind fun bt377 => (foretellkeep_EvalLogic.j0 k t356 t359 bt377.1 bt377.2 a2_0 a2_1 a2_2))))))
theorem foretellkeep_EvalLogic.mono_l : ∀ k, (∀ y0 y1 y2 y3 y4 y5 y6, LeO (foretellkeep_EvalLogic.j0 k y0 y1 y2 y3 y4 y5 y6) (foretellkeep_EvalLogic.j0 (k + 1) y0 y1 y2 y3 y4 y5 y6)) ∧ (∀ y0 y1 y2 y3 y4 y5 y6 y7 y8, LeO (foretellkeep_EvalLogic.j1 k y0 y1 y2 y3 y4 y5 y6 y7 y8) (foretellkeep_EvalLogic.j1 (k + 1) y0 y1 y2 y3 y4 y5 y6 y7 y8)) ∧ (∀ y0 y1 y2 y3 y4 y5 y6 y7 y8 y9 y10, LeO (foretellkeep_EvalLogic.j2 k y0 y1 y2 y3 y4 y5 y6 y7 y8 y9 y10) (foretellkeep_EvalLogic.j2 (k + 1) y0 y1 y2 y3 y4 y5 y6 y7 y8 y9 y10)) ∧ (∀ y0 y1 y2 y3 y4 y5 y6 y7 y8 y9 y10 y11, LeO (foretellkeep_EvalLogic.j3 k y0 y1 y2 y3 y4 y5 y6 y7 y8 y9 y10 y11) (foretellkeep_EvalLogic.j3 (k + 1) y0 y1 y2 y3 y4 y5 y6 y7 y8 y9 y10 y11)) ∧ (∀ y0 y1 y2 y3 y4 y5 y6 y7 y8 y9, LeO (foretellkeep_EvalLogic.j4 k y0 y1 y2 y3 y4 y5 y6 y7 y8 y9) (foretellkeep_EvalLogic.j4 (k + 1) y0 y1 y2 y3 y4 y5 y6 y7 y8 y9))
  | 0 => ⟨fun _ _ _ _ _ _ _ r h => by simp [foretellkeep_EvalLogic.j0] at h, fun _ _ _ _ _ _ _ _ _ r h => by simp [foretellkeep_EvalLogic.j1] at h, fun _ _ _ _ _ _ _ _ _ _ _ r h => by simp [foretellkeep_EvalLogic.j2] at h, fun _ _ _ _ _ _ _ _ _ _ _ _ r h => by simp [foretellkeep_EvalLogic.j3] at h, fun _ _ _ _ _ _ _ _ _ _ r h => by simp [foretellkeep_EvalLogic.j4] at h⟩
  | k + 1 => by
    obtain ⟨ih0, ih1, ih2, ih3, ih4⟩ := foretellkeep_EvalLogic.mono_l k
    refine ⟨?_, ?_, ?_, ?_, ?_⟩
    · intro y0 y1 y2 y3 y4 y5 y6
      unfold foretellkeep_EvalLogic.j0
      repeat' first
      | (with_reducible exact ih0 _ _ _ _ _ _ _)
      | (with_reducible exact ih1 _ _ _ _ _ _ _ _ _)
      | (with_reducible exact ih2 _ _ _ _ _ _ _ _ _ _ _)
      | (with_reducible exact ih3 _ _ _ _ _ _ _ _ _ _ _ _)
      | (with_reducible exact ih4 _ _ _ _ _ _ _ _ _ _)
      | (with_reducible exact expr_Eval.mono _ _ _)
      | (with_reducible exact foretellkeep_Truth.mono _ _ _)
      | (with_reducible exact foretellkeep_joined.mono _ _ _)
      | (with_reducible exact LeO.refl _)
      | (with_reducible exact LeO.none _)
      | (with_reducible refine LeO.ite ?_ ?_)
      | (with_reducible refine LeO.bind ?_ (fun _ => ?_))
      | exact ih0 _ _ _ _ _ _ _
      | exact ih1 _ _ _ _ _ _ _ _ _
      | exact ih2 _ _ _ _ _ _ _ _ _ _ _
      | exact ih3 _ _ _ _ _ _ _ _ _ _ _ _
      | exact ih4 _ _ _ _ _ _ _ _ _ _
      | exact expr_Eval.mono _ _ _
      | exact foretellkeep_Truth.mono _ _ _
      | exact foretellkeep_joined.mono _ _ _
      | exact LeO.none _
      | refine LeO.ite ?_ ?_
      | refine LeO.bind ?_ (fun _ => ?_)
    · intro y0 y1 y2 y3 y4 y5 y6 y7 y8
      unfold foretellkeep_EvalLogic.j1
      repeat' first
      | (with_reducible exact ih0 _ _ _ _ _ _ _)
      | (with_reducible exact ih1 _ _ _ _ _ _ _ _ _)
      | (with_reducible exact ih2 _ _ _ _ _ _ _ _ _ _ _)
      | (with_reducible exact ih3 _ _ _ _ _ _ _ _ _ _ _ _)
      | (with_reducible exact ih4 _ _ _ _ _ _ _ _ _ _)
      | (with_reducible exact expr_Eval.mono _ _ _)
      | (with_reducible exact foretellkeep_Truth.mono _ _ _)
      | (with_reducible exact foretellkeep_joined.mono _ _ _)
      | (with_reducible exact LeO.refl _)
      | (with_reducible exact LeO.none _)
      | (with_reducible refine LeO.ite ?_ ?_)
      | (with_reducible refine LeO.bind ?_ (fun _ => ?_))
      | exact ih0 _ _ _ _ _ _ _
      | exact ih1 _ _ _ _ _ _ _ _ _
      | exact ih2 _ _ _ _ _ _ _ _ _ _ _
      | exact ih3 _ _ _ _ _ _ _ _ _ _ _ _
      | exact ih4 _ _ _ _ _ _ _ _ _ _
      | exact expr_Eval.mono _ _ _
      | exact foretellkeep_Truth.mono _ _ _
      | exact foretellkeep_joined.mono _ _ _
      | exact LeO.none _
      | refine LeO.ite ?_ ?_
      | refine LeO.bind ?_ (fun _ => ?_)
    · intro y0 y1 y2 y3 y4 y5 y6 y7 y8 y9 y10
      unfold foretellkeep_EvalLogic.j2
      repeat' first
      | (with_reducible exact ih0 _ _ _ _ _ _ _)
      | (with_reducible exact ih1 _ _ _ _ _ _ _ _ _)
      | (with_reducible exact ih2 _ _ _ _ _ _ _ _ _ _ _)
      | (with_reducible exact ih3 _ _ _ _ _ _ _ _ _ _ _ _)
      | (with_reducible exact ih4 _ _ _ _ _ _ _ _ _ _)
      | (with_reducible exact expr_Eval.mono _ _ _)
      | (with_reducible exact foretellkeep_Truth.mono _ _ _)
      | (with_reducible exact foretellkeep_joined.mono _ _ _)
      | (with_reducible exact LeO.refl _)
      | (with_reducible exact LeO.none _)
      | (with_reducible refine LeO.ite ?_ ?_)
      | (with_reducible refine LeO.bind ?_ (fun _ => ?_))
      | exact ih0 _ _ _ _ _ _ _
      | exact ih1 _ _ _ _ _ _ _ _ _
      | exact ih2 _ _ _ _ _ _ _ _ _ _ _
      | exact ih3 _ _ _ _ _ _ _ _ _ _ _ _
      | exact ih4 _ _ _ _ _ _ _ _ _ _
      | exact expr_Eval.mono _ _ _
      | exact foretellkeep_Truth.mono _ _ _
      | exact foretellkeep_joined.mono _ _ _
      | exact LeO.none _
      | refine LeO.ite ?_ ?_
      | refine LeO.bind ?_ (fun _ => ?_)
    · intro y0 y1 y2 y3 y4 y5 y6 y7 y8 y9 y10 y11
      unfold foretellkeep_EvalLogic.j3
      repeat' first
      | (with_reducible exact ih0 _ _ _ _ _ _ _)
      | (with_reducible exact ih1 _ _ _ _ _ _ _ _ _)
      | (with_reducible exact ih2 _ _ _ _ _ _ _ _ _ _ _)
      | (with_reducible exact ih3 _ _ _ _ _ _ _ _ _ _ _ _)
      | (with_reducible exact ih4 _ _ _ _ _ _ _ _ _ _)
      | (with_reducible exact expr_Eval.mono _ _ _)
      | (with_reducible exact foretellkeep_Truth.mono _ _ _)
      | (with_reducible exact foretellkeep_joined.mono _ _ _)
      | (with_reducible exact LeO.refl _)
      | (with_reducible exact LeO.none _)
      | (with_reducible refine LeO.ite ?_ ?_)
      | (with_reducible refine LeO.bind ?_ (fun _ => ?_))
      | exact ih0 _ _ _ _ _ _ _
      | exact ih1 _ _ _ _ _ _ _ _ _
      | exact ih2 _ _ _ _ _ _ _ _ _ _ _
      | exact ih3 _ _ _ _ _ _ _ _ _ _ _ _
      | exact ih4 _ _ _ _ _ _ _ _ _ _
      | exact expr_Eval.mono _ _ _
      | exact foretellkeep_Truth.mono _ _ _
      | exact foretellkeep_joined.mono _ _ _
      | exact LeO.none _
      | refine LeO.ite ?_ ?_
      | refine LeO.bind ?_ (fun _ => ?_)
    · intro y0 y1 y2 y3 y4 y5 y6 y7 y8 y9
      unfold foretellkeep_EvalLogic.j4
      repeat' first
      | (with_reducible exact ih0 _ _ _ _ _ _ _)
      | (with_reducible exact ih1 _ _ _ _ _ _ _ _ _)
      | (with_reducible exact ih2 _ _ _ _ _ _ _ _ _ _ _)
      | (with_reducible exact ih3 _ _ _ _ _ _ _ _ _ _ _ _)
      | (with_reducible exact ih4 _ _ _ _ _ _ _ _ _ _)
      | (with_reducible exact expr_Eval.mono _ _ _)
      | (with_reducible exact foretellkeep_Truth.mono _ _ _)
      | (with_reducible exact foretellkeep_joined.mono _ _ _)
      | (with_reducible exact LeO.refl _)
      | (with_reducible exact LeO.none _)
      | (with_reducible refine LeO.ite ?_ ?_)
      | (with_reducible refine LeO.bind ?_ (fun _ => ?_))
      | exact ih0 _ _ _ _ _ _ _
      | exact ih1 _ _ _ _ _ _ _ _ _
      | exact ih2 _ _ _ _ _ _ _ _ _ _ _
      | exact ih3 _ _ _ _ _ _ _ _ _ _ _ _
      | exact ih4 _ _ _ _ _ _ _ _ _ _
      | exact expr_Eval.mono _ _ _
      | exact foretellkeep_Truth.mono _ _ _
      | exact foretellkeep_joined.mono _ _ _
      | exact LeO.none _
      | refine LeO.ite ?_ ?_
      | refine LeO.bind ?_ (fun _ => ?_)
theorem foretellkeep_EvalLogic.mono : ∀ a0 a1 a2 a3 a4 k, LeO (foretellkeep_EvalLogic.f k a0 a1 a2 a3 a4) (foretellkeep_EvalLogic.f (k + 1) a0 a1 a2 a3 a4) := by
  intro a0 a1 a2 a3 a4 k
  obtain ⟨ih0, ih1, ih2, ih3, ih4⟩ := foretellkeep_EvalLogic.mono_l k
  unfold foretellkeep_EvalLogic.f
  repeat' first
      | (with_reducible exact ih0 _ _ _ _ _ _ _)
      | (with_reducible exact ih1 _ _ _ _ _ _ _ _ _)
      | (with_reducible exact ih2 _ _ _ _ _ _ _ _ _ _ _)
      | (with_reducible exact ih3 _ _ _ _ _ _ _ _ _ _ _ _)
      | (with_reducible exact ih4 _ _ _ _ _ _ _ _ _ _)
      | (with_reducible exact expr_Eval.mono _ _ _)
      | (with_reducible exact foretellkeep_Truth.mono _ _ _)
      | (with_reducible exact foretellkeep_joined.mono _ _ _)
      | (with_reducible exact LeO.refl _)
      | (with_reducible exact LeO.none _)
      | (with_reducible refine LeO.ite ?_ ?_)
      | (with_reducible refine LeO.bind ?_ (fun _ => ?_))
      | exact ih0 _ _ _ _ _ _ _
      | exact ih1 _ _ _ _ _ _ _ _ _
      | exact ih2 _ _ _ _ _ _ _ _ _ _ _
      | exact ih3 _ _ _ _ _ _ _ _ _ _ _ _
      | exact ih4 _ _ _ _ _ _ _ _ _ _
      | exact expr_Eval.mono _ _ _
      | exact foretellkeep_Truth.mono _ _ _
      | exact foretellkeep_joined.mono _ _ _
      | exact LeO.none _
      | refine LeO.ite ?_ ?_
      | refine LeO.bind ?_ (fun _ => ?_)
def foretellkeep_EvalLogic.T3 : Bool × List (List Nat × List Nat) := (true, [([], []), ([], []), ([0, 1], [0, 1]), ([2], [2]), ([3], [3]), ([4, 3], [4]), ([], []), ([6, 5], [6]), ([5, 7, 7], [5, 7]), ([8], [8]), ([9], [9]), ([9], [9]), ([10, 8, 0, 1, 2, 3, 4, 5, 6, 7, 8, 9, 10], [10]), ([11, 12, 0, 1, 2, 3, 4, 5, 6, 7, 8, 9, 10, 11, 12], [11])])
def foretellkeep_EvalLogic.B3 : List Nat := [0, 0, 3, 7, 15, 31, 0, 127, 255, 511, 1023, 1023, 2047, 8191]
theorem foretellkeep_EvalLogic.tab3 : rtab .any (opsOf Tryd.f10 3) = foretellkeep_EvalLogic.T3 := by kernel_rfl
theorem foretellkeep_EvalLogic.bits3 : waitsOk foretellkeep_EvalLogic.T3.2 foretellkeep_EvalLogic.B3 = true := by kernel_rfl
def foretellkeep_EvalLogic.T4 : Bool × List (List Nat × List Nat) := (true, [([], []), ([0], [0]), ([1], [1]), ([], []), ([3], [3]), ([4, 2], [4]), ([2, 5], [2, 5]), ([6, 5], [6]), ([], []), ([8, 7], [8]), ([7, 9, 9], [7, 9]), ([10], [10]), ([11], [11]), ([11], [11]), ([12, 10, 0, 1, 2, 3, 4, 5, 6, 7, 8, 9, 10, 11, 12], [12]), ([13, 14, 0, 1, 2, 3, 4, 5, 6, 7, 8, 9, 10, 11, 12, 13, 14], [13])])
def foretellkeep_EvalLogic.B4 : List Nat := [0, 1, 3, 0, 8, 31, 63, 127, 0, 511, 1023, 2047, 4095, 4095, 8191, 32767]
theorem foretellkeep_EvalLogic.tab4 : rtab .any (opsOf Tryd.f10 4) = foretellkeep_EvalLogic.T4 := by kernel_rfl
theorem foretellkeep_EvalLogic.bits4 : waitsOk foretellkeep_EvalLogic.T4.2 foretellkeep_EvalLogic.B4 = true := by kernel_rfl
def foretellkeep_EvalLogic.T5 : Bool × List (List Nat × List Nat) := (true, [([], []), ([], []), ([0, 1], [0, 1]), ([2], [2]), ([], []), ([4, 3], [4]), ([3, 5, 5], [3, 5]), ([6], [6]), ([7], [7]), ([7], [7]), ([8, 6, 0, 1, 2, 3, 4, 5, 6, 7, 8], [8]), ([9, 10, 0, 1, 2, 3, 4, 5, 6, 7, 8, 9, 10], [9])])
def foretellkeep_EvalLogic.B5 : List Nat := [0, 0, 3, 7, 0, 31, 63, 127, 255, 255, 511, 2047]
theorem foretellkeep_EvalLogic.tab5 : rtab .any (opsOf Tryd.f10 5) = foretellkeep_EvalLogic.T5 := by kernel_rfl
theorem foretellkeep_EvalLogic.bits5 : waitsOk foretellkeep_EvalLogic.T5.2 foretellkeep_EvalLogic.B5 = true := by kernel_rfl
def foretellkeep_EvalLogic.T6 : Bool × List (List Nat × List Nat) := (true, [([], []), ([0], [0]), ([1], [1]), ([], []), ([3], [3]), ([4, 2], [4]), ([2, 5], [2, 5]), ([6, 5], [6]), ([7], [7]), ([8, 7], [8]), ([], []), ([10, 9], [10]), ([9, 11, 11], [9, 11]), ([12], [12]), ([13], [13]), ([13], [13]), ([14, 12, 0, 1, 2, 3, 4, 5, 6, 7, 8, 9, 10, 11, 12, 13, 14], [14]), ([15, 16, 0, 1, 2, 3, 4, 5, 6, 7, 8, 9, 10, 11, 12, 13, 14, 15, 16], [15])])
def foretellkeep_EvalLogic.B6 : List Nat := [0, 1, 3, 0, 8, 31, 63, 127, 255, 511, 0, 2047, 4095, 8191, 16383, 16383, 32767, 131071]
theorem foretellkeep_EvalLogic.tab6 : rtab .any (opsOf Tryd.f10 6) = foretellkeep_EvalLogic.T6 := by kernel_rfl
theorem foretellkeep_EvalLogic.bits6 : waitsOk foretellkeep_EvalLogic.T6.2 foretellkeep_EvalLogic.B6 = true := by kernel_rfl
def foretellkeep_EvalLogic.T7 : Bool × List (List Nat × List Nat) := (true, [([], []), ([], []), ([1], [1]), ([2], [2]), ([0, 3], [0, 3]), ([4, 3], [4]), ([], []), ([6, 5], [6]), ([5, 7, 7], [5, 7]), ([8], [8]), ([9], [9]), ([9], [9]), ([10, 8, 0, 1, 2, 3, 4, 5, 6, 7, 8, 9, 10], [10]), ([11, 12, 0, 1, 2, 3, 4, 5, 6, 7, 8, 9, 10, 11, 12], [11])])
def foretellkeep_EvalLogic.B7 : List Nat := [0, 0, 2, 6, 15, 31, 0, 127, 255, 511, 1023, 1023, 2047, 8191]
theorem foretellkeep_EvalLogic.tab7 : rtab .any (opsOf Tryd.f10 7) = foretellkeep_EvalLogic.T7 := by kernel_rfl
theorem foretellkeep_EvalLogic.bits7 : waitsOk foretellkeep_EvalLogic.T7.2 foretellkeep_EvalLogic.B7 = true := by kernel_rfl
set_option maxHeartbeats 8000000 in
set_option maxRecDepth 100000 in
theorem foretellkeep_EvalLogic.calls (k : Nat) (A0 : Option Addr) (c0 : Nat) (l0 : List (S69)) (A1 : Option Addr) (c1 : Nat) (l1 : List (S69)) (a2_0 : Int) (a2_1 : Int) (a2_2 : Int) (r : Bool) (w : World) (hr0 : Kd.C k69 w A0 l0.length l0) (hc0 : l0.length ≤ c0) (hr1 : Kd.C k69 w A1 l1.length l1) (hc1 : l1.length ≤ c1) (hG_ : Glob w) (hr_ : Aside0 (r = true)) (h : foretellkeep_EvalLogic.f k l0 l1 a2_0 a2_1 a2_2 = some r) :
    Calls Tryd.prog 10 #[.slice A0 l0.length c0, .slice A1 l1.length c1, .agg #[.int .i64 a2_0, .int .i64 a2_1, .int .i64 a2_2]] w fun e w' => e = .returned (.bool r) ∧ Below w.heap.size w w' := by
  have hu45 := Tryd.underlying45
  have HR0 := Aside0.mk hr0
  have HC0 := Aside0.mk hc0
  clear hr0 hc0
  have HR1 := Aside0.mk hr1
  have HC1 := Aside0.mk hc1
  clear hr1 hc1
  have HB := Aside0.mk (Below.refl w.heap.size w)
  have H : ((foretellkeep_Truth.f k l0 3).bind fun t356 => ((foretellkeep_Truth.f k l1 3).bind fun t359 => ((foretellkeep_joined.f k 8 (([t356, t359] : List (List (S32))))).bind fun t365 => ((foretellkeep_joined.f k 10 (([t365] : List (List (S32))))).bind fun t371 => ((foretellkeep_env.f a2_0 a2_1 a2_2).bind fun t374 => ((expr_Eval.f k t371 t374).bind fun bt377 => (foretellkeep_EvalLogic.j0 k t356 t359 bt377.1 bt377.2 a2_0 a2_1 a2_2))))))) = some r := h
  clear h
  replace H := Option.bind_eq_some_iff.mp H
  obtain ⟨t356, A40, H⟩ := H
  replace H : ((foretellkeep_Truth.f k l1 3).bind fun t359 => ((foretellkeep_joined.f k 8 (([t356, t359] : List (List (S32))))).bind fun t365 => ((foretellkeep_joined.f k 10 (([t365] : List (List (S32))))).bind fun t371 => ((foretellkeep_env.f a2_0 a2_1 a2_2).bind fun t374 => ((expr_Eval.f k t371 t374).bind fun bt377 => (foretellkeep_EvalLogic.j0 k t356 t359 bt377.1 bt377.2 a2_0 a2_1 a2_2)))))) = some r := H
  have A4 := Aside0.mk A40
  clear A40
  replace H := Option.bind_eq_some_iff.mp H
  obtain ⟨t359, A50, H⟩ := H
  replace H : ((foretellkeep_joined.f k 8 (([t356, t359] : List (List (S32))))).bind fun t365 => ((foretellkeep_joined.f k 10 (([t365] : List (List (S32))))).bind fun t371 => ((foretellkeep_env.f a2_0 a2_1 a2_2).bind fun t374 => ((expr_Eval.f k t371 t374).bind fun bt377 => (foretellkeep_EvalLogic.j0 k t356 t359 bt377.1 bt377.2 a2_0 a2_1 a2_2))))) = some r := H
  have A5 := Aside0.mk A50
  clear A50
  have HC6 := Aside0.mk H
  clear H
  go_enter Tryd.func10, Tryd.ntmps10
  go_upto_region 3 with (first | ((with_reducible refine gate_dst (N := 5) rfl ?_); refine box_event ?hg (N := 5) ?hd (cs := #[.int .i64 a2_0, .int .i64 a2_1, .int .i64 a2_2]) (t := 45) ?hr ?_; (case hd => rfl); (case hg => rfl); (case hr => first | (go_simp; done) | (go_simp; rfl)); intro gb355 hg w7 hbox hb; have n0_ := Aside0.mk (below_step (by repeat (first | (with_reducible first | exact HB.out | apply below_alloc | apply pw_below_drewN | apply below_drew1) | exact HB.out)) hb); have n1_ := Aside0.mk (hbox); have n2_ := Aside0.mk ((by rw [hg]; exact (below_size (by repeat (first | (with_reducible first | exact HB.out | apply below_alloc | apply pw_below_drewN | apply below_drew1) | exact HB.out))) : w.heap.size ≤ gb355)); have n3_ := Aside0.mk ((by rw [hg]; exact (below_size (by repeat (first | (with_reducible first | exact HB.out | apply below_alloc | apply pw_below_drewN | apply below_drew1) | exact HB.out))) : w.heap.size ≤ gb355)); clear HB; have HB := n0_; have BK355 := n1_; have GW355 := n2_; have GE355 := n3_; clear n0_ n1_ n2_ n3_; clear hb hbox hg) | ((with_reducible refine gate_callee (f := 14) rfl ?_); refine goesL_ (some 20) rfl rfl Tryd.func14 (by kernel_rfl) rfl #[.slice A0 l0.length c0, .int .i64 3] rfl (by (try simp only [List.map_toArray, List.map_cons, List.map_nil]); first | done | rfl | (simp only [List.length_drop, List.length_take]; rfl)) ?_; (with_reducible refine (foretellkeep_Truth.calls k _ _ l0 3 t356 _ ?side1 ?side2 A4.out).mono ?_); (case side1 => repeat (first | exact (Kd.C_below HR0.out HB.out) | (with_reducible refine Kd.C_alloc ?_ _) | (with_reducible refine Kd.C_drewN ?_ _) | (with_reducible refine Kd.C_drew ?_))); (case side2 => exact HC0.out); rintro e w8 ⟨v357, rfl, ho0, hb⟩; refine ⟨_, rfl, ?_⟩; have n0_ := Aside0.mk (Kd.V_lower (Kd.V_mono (ok' := fun k_ => k_ ≠ gb355) (Kd.R_V (Kd.R_bound ho0)) (fun k_ hk_ => (Kd.freshB (g := gb355) (o := .cells #[.int .i64 a2_0, .int .i64 a2_1, .int .i64 a2_2] 45 (0, 0)) (by (with_reducible repeat (first | refine blk_drewN ?_ _ | refine blk_drew ?_ | refine blk_alloc ?_ _)); exact BK355.out) k_ hk_.2.1))) (below_size (by repeat (first | (with_reducible first | exact HB.out | apply below_alloc | apply pw_below_drewN | apply below_drew1 | refine below_set ?_ GE355.out) | exact HB.out)))); have n1_ := Aside0.mk (blk_below (g := gb355) (o := .cells #[.int .i64 a2_0, .int .i64 a2_1, .int .i64 a2_2] 45 (0, 0)) (by (with_reducible repeat (first | refine blk_drewN ?_ _ | refine blk_drew ?_ | refine blk_alloc ?_ _)); exact BK355.out) hb); have n2_ := Aside0.mk (below_step (by repeat (first | (with_reducible first | exact HB.out | apply below_alloc | apply pw_below_drewN | apply below_drew1 | refine below_set ?_ GE355.out) | exact HB.out)) hb); clear BK355; clear HB; have HO358 := n0_; have BK355 := n1_; have HB := n2_; clear n0_ n1_ n2_; (try clear hb); (try clear hb2); (try clear hk); (try clear hi); (try clear ho0)) | ((with_reducible refine gate_callee (f := 14) rfl ?_); refine goesL_ (some 22) rfl rfl Tryd.func14 (by kernel_rfl) rfl #[.slice A1 l1.length c1, .int .i64 3] rfl (by (try simp only [List.map_toArray, List.map_cons, List.map_nil]); first | done | rfl | (simp only [List.length_drop, List.length_take]; rfl)) ?_; (with_reducible refine (foretellkeep_Truth.calls k _ _ l1 3 t359 _ ?side1 ?side2 A5.out).mono ?_); (case side1 => repeat (first | exact (Kd.C_below HR1.out HB.out) | (with_reducible refine Kd.C_alloc ?_ _) | (with_reducible refine Kd.C_drewN ?_ _) | (with_reducible refine Kd.C_drew ?_))); (case side2 => exact HC1.out); rintro e w9 ⟨v360, rfl, ho0, hb⟩; refine ⟨_, rfl, ?_⟩; have n0_ := Aside0.mk (Kd.V_below (by (with_reducible repeat (first | apply Kd.V_alloc | apply Kd.V_drewN | apply Kd.V_drew)); exact HO358.out) hb); have n1_ := Aside0.mk (Kd.V_lower (Kd.V_mono (ok' := fun k_ => k_ ≠ gb355) (Kd.R_V (Kd.R_bound ho0)) (fun k_ hk_ => (Kd.freshB (g := gb355) (o := .cells #[.int .i64 a2_0, .int .i64 a2_1, .int .i64 a2_2] 45 (0, 0)) (by (with_reducible repeat (first | refine blk_drewN ?_ _ | refine blk_drew ?_ | refine blk_alloc ?_ _)); exact BK355.out) k_ hk_.2.1))) (below_size (by repeat (first | (with_reducible first | exact HB.out | apply below_alloc | apply pw_below_drewN | apply below_drew1 | refine below_set ?_ GE355.out) | exact HB.out)))); have n2_ := Aside0.mk (blk_below (g := gb355) (o := .cells #[.int .i64 a2_0, .int .i64 a2_1, .int .i64 a2_2] 45 (0, 0)) (by (with_reducible repeat (first | refine blk_drewN ?_ _ | refine blk_drew ?_ | refine blk_alloc ?_ _)); exact BK355.out) hb); have n3_ := Aside0.mk (below_step (by repeat (first | (with_reducible first | exact HB.out | apply below_alloc | apply pw_below_drewN | apply below_drew1 | refine below_set ?_ GE355.out) | exact HB.out)) hb); clear HO358; clear BK355; clear HB; have HO358 := n0_; have HO361 := n1_; have BK355 := n2_; have HB := n3_; clear n0_ n1_ n2_ n3_; (try clear hb); (try clear hb2); (try clear hk); (try clear hi); (try clear ho0)))
  (try simp only [Act.put, List.setIfInBounds_toArray, List.set_cons_zero, List.set_cons_succ])
  go_cut [9, 10] (fun v9 v10 wc => ∃ (kq : Nat) (x9_5 : Int) (x10_5 : Int), v9 = .int .i64 x9_5 ∧ v10 = .int .i64 x10_5 ∧ Aside0 (foretellkeep_EvalLogic.j0 kq t356 t359 x9_5 x10_5 a2_0 a2_1 a2_2 = some r) ∧ Aside0 (kq ≤ k) ∧ Aside0 (Kd.V k32 32 wc w.heap.size (fun k_ => k_ ≠ gb355) v357 t356) ∧ Aside0 (Kd.V k32 32 wc w.heap.size (fun k_ => k_ ≠ gb355) v360 t359) ∧ Aside0 (wc.heap[gb355]? = some (.cells #[.int .i64 a2_0, .int .i64 a2_1, .int .i64 a2_2] 45 (0, 0))) ∧ Aside0 (Below w.heap.size w wc))
  case first =>
    have H := HC6.out
    clear HC6
    obtain ⟨y362, hy362⟩ : ∃ y_ : List (List (S32)), y_ = (([t356, t359] : List (List (S32)))) := ⟨_, rfl⟩
    replace H : ((foretellkeep_joined.f k 8 y362).bind fun t365 => ((foretellkeep_joined.f k 10 (([t365] : List (List (S32))))).bind fun t371 => ((foretellkeep_env.f a2_0 a2_1 a2_2).bind fun t374 => ((expr_Eval.f k t371 t374).bind fun bt377 => (foretellkeep_EvalLogic.j0 k t356 t359 bt377.1 bt377.2 a2_0 a2_1 a2_2))))) = some r := by first | (rw [hy362]; with_reducible exact H) | (have H2_ := (Option.bind_some _ _).symm.trans H; rw [hy362]; with_reducible exact H2_) | (have H2_ := (Option.bind_some _ _).symm.trans H; with_reducible exact H2_) | with_reducible exact H | (rw [hy362]; exact H) | exact H
    have Ny362 := Aside0.mk hy362
    clear hy362
    replace H := Option.bind_eq_some_iff.mp H
    obtain ⟨t365, A100, H⟩ := H
    replace H : ((foretellkeep_joined.f k 10 (([t365] : List (List (S32))))).bind fun t371 => ((foretellkeep_env.f a2_0 a2_1 a2_2).bind fun t374 => ((expr_Eval.f k t371 t374).bind fun bt377 => (foretellkeep_EvalLogic.j0 k t356 t359 bt377.1 bt377.2 a2_0 a2_1 a2_2)))) = some r := H
    have A10 := Aside0.mk A100
    clear A100
    obtain ⟨y368, hy368⟩ : ∃ y_ : List (List (S32)), y_ = (([t365] : List (List (S32)))) := ⟨_, rfl⟩
    replace H : ((foretellkeep_joined.f k 10 y368).bind fun t371 => ((foretellkeep_env.f a2_0 a2_1 a2_2).bind fun t374 => ((expr_Eval.f k t371 t374).bind fun bt377 => (foretellkeep_EvalLogic.j0 k t356 t359 bt377.1 bt377.2 a2_0 a2_1 a2_2)))) = some r := by first | (rw [hy368]; with_reducible exact H) | (have H2_ := (Option.bind_some _ _).symm.trans H; rw [hy368]; with_reducible exact H2_) | (have H2_ := (Option.bind_some _ _).symm.trans H; with_reducible exact H2_) | with_reducible exact H | (rw [hy368]; exact H) | exact H
    have Ny368 := Aside0.mk hy368
    clear hy368
    replace H := Option.bind_eq_some_iff.mp H
    obtain ⟨t371, A110, H⟩ := H
    replace H : ((foretellkeep_env.f a2_0 a2_1 a2_2).bind fun t374 => ((expr_Eval.f k t371 t374).bind fun bt377 => (foretellkeep_EvalLogic.j0 k t356 t359 bt377.1 bt377.2 a2_0 a2_1 a2_2))) = some r := H
    have A11 := Aside0.mk A110
    clear A110
    replace H := Option.bind_eq_some_iff.mp H
    obtain ⟨t374, A120, H⟩ := H
    replace H : ((expr_Eval.f k t371 t374).bind fun bt377 => (foretellkeep_EvalLogic.j0 k t356 t359 bt377.1 bt377.2 a2_0 a2_1 a2_2)) = some r := H
    have A12 := Aside0.mk A120
    clear A120
    replace H := Option.bind_eq_some_iff.mp H
    obtain ⟨⟨t377, t378⟩, A130, H⟩ := H
    replace H : (foretellkeep_EvalLogic.j0 k t356 t359 t377 t378 a2_0 a2_1 a2_2) = some r := H
    have A13 := Aside0.mk A130
    clear A130
    have H' := Aside0.mk H
    clear H
    obtain ⟨Ao14, co14, eo14⟩ := Kd.V_slice HO358.out
    subst eo14
    obtain ⟨Ao15, co15, eo15⟩ := Kd.V_slice HO361.out
    subst eo15
    try go_wp2
    have n0_ := Aside0.mk (Kd.V_drew HO358.out)
    have n1_ := Aside0.mk (Kd.V_drew HO361.out)
    have n2_ := Aside0.mk (blk_drew BK355.out)
    have n3_ := Aside0.mk (below_drew1 HB.out)
    clear HO358
    clear HO361
    clear BK355
    clear HB
    have HO358 := n0_
    have HO361 := n1_
    have BK355 := n2_
    have HB := n3_
    clear n0_ n1_ n2_ n3_
    refine start_ (n := 14) (S := fun w' => w'.cell? ⟨gb355, 0, none⟩ = some (.int .i64 a2_0) ∧ w'.cell? ⟨gb355, 1, none⟩ = some (.int .i64 a2_1) ∧ w'.cell? ⟨gb355, 2, none⟩ = some (.int .i64 a2_2)) (ds := []) #[false, false, false, false, false, false, false, false, false, false, false, false, false, false] (by kernel_rfl) rfl rfl ⟨(blk_cell BK355.out 0).trans rfl, (blk_cell BK355.out 1).trans rfl, (blk_cell BK355.out 2).trans rfl⟩ (fun hHeld => ?_); refine with_tabW foretellkeep_EvalLogic.tab3 foretellkeep_EvalLogic.bits3 (fun HT_ HW_ => ?_)
    generalize w9.drew = w16 at HO358 HO361 BK355 HB hHeld ⊢
    refine pure_ (i := 0) (N := some 24) (v := ?_) (a' := ?_) #[true, false, false, false, false, false, false, false, false, false, false, false, false, false] rfl rfl (any_of HT_.out (by kernel_rfl)) (fun _ _ _ h => h) (Or.inl ⟨by rfl, ?_⟩) ?_ ?_
    rotate_left
    · intro w'
      go_simp
      with_reducible rfl
    rotate_left
    · simp only [Act.put, List.setIfInBounds_toArray, List.set_cons_zero, List.set_cons_succ, i64_w, i32_w]
      rfl
    refine pure_ (i := 1) (N := some 25) (v := ?_) (a' := ?_) #[true, true, false, false, false, false, false, false, false, false, false, false, false, false] rfl rfl (any_of HT_.out (by kernel_rfl)) (fun _ _ _ h => h) (Or.inl ⟨by rfl, ?_⟩) ?_ ?_
    rotate_left
    · intro w'
      go_simp
      with_reducible rfl
    rotate_left
    · simp only [Act.put, List.setIfInBounds_toArray, List.set_cons_zero, List.set_cons_succ, i64_w, i32_w]
      rfl
    refine take_ (i := 6) (N := some 30) (v := ?_) (a' := ?_) #[true, true, false, false, false, false, true, false, false, false, false, false, false, false] rfl rfl (take_ofW HT_.out HW_.out (by kernel_rfl)) (fun _ _ _ h => h) (Or.inl ⟨by rfl, ?_⟩) hHeld ?_ ?_
    rotate_left
    · rintro w' ⟨s0, s1, s2⟩
      go_simp
      with_reducible rfl
    rotate_left
    · simp only [Act.put, List.setIfInBounds_toArray, List.set_cons_zero, List.set_cons_succ, i64_w, i32_w]
      rfl
    refine one_ (i := 2) (N := some 26) #[true, true, true, false, false, false, true, false, false, false, false, false, false, false] rfl rfl (one_of HT_.out (by kernel_rfl)) (by decide) (fun K hK => ?_)
    refine Kd.N_lit_step (Kd.slice 32 k32) _ 23 ?hg (N' := 26) ?hd (xs := ([t356, t359] : List (List (S32)))) (inner := [.slice Ao14 t356.length co14, .slice Ao15 t359.length co15]) (ok := (fun k_ => k_ ≠ gb355)) (okp := (fun k_ => k_ ≠ gb355)) ?hr ?hp (fun _ hk => hk) ((show ∀ k_, w16.heap.size ≤ k_ → (fun k_ => k_ ≠ gb355) k_ from fun k_ hk => Kd.freshB (g := gb355) (o := .cells #[.int .i64 a2_0, .int .i64 a2_1, .int .i64 a2_2] 45 (0, 0)) (by (with_reducible repeat (first | refine blk_drewN ?_ _ | refine blk_drew ?_ | refine blk_alloc ?_ _)); exact BK355.out) k_ hk) _ (Nat.le_refl _)) (Below.refl _ _) (Nat.le_refl _) (by simp) ?_; (case hd => rfl); (case hg => rfl); (case hr => first | (go_simp; done) | (go_simp; rfl)); (case hp => exact (Reps.one (show Kd.FK (Kd.slice 32 k32) _ _ t356 [.slice Ao14 t356.length co14] from (Kd.FK_slice_mk (Kd.V_reads' (Kd.V_mono (ok' := (fun k_ => k_ ≠ gb355)) (HO358.out) (fun k_ hk => hk))).2.1 (Kd.V_F (Kd.V_mono (ok' := (fun k_ => k_ ≠ gb355)) (HO358.out) (fun k_ hk => hk))))) (Reps.one (show Kd.FK (Kd.slice 32 k32) _ _ t359 [.slice Ao15 t359.length co15] from (Kd.FK_slice_mk (Kd.V_reads' (Kd.V_mono (ok' := (fun k_ => k_ ≠ gb355)) (HO361.out) (fun k_ hk => hk))).2.1 (Kd.V_F (Kd.V_mono (ok' := (fun k_ => k_ ≠ gb355)) (HO361.out) (fun k_ hk => hk))))) (Reps.none _ _))))
    intro v363 w17 ho18 hb hg_ hnew_
    clear hg_ hnew_
    (first | rw [← Ny362.out] at ho18 | (simp only [Int.reduceToNat] at ho18; rw [← Ny362.out] at ho18))
    have n0_ := Aside0.mk (Kd.V_elder' (by (with_reducible repeat (first | apply Kd.V_alloc | apply Kd.V_drewN | apply Kd.V_drew)); exact HO358.out) (by first | exact Kd.N_base ho18 | exact Kd.S_base ho18 | exact Kd.R_base ho18) hb)
    have n1_ := Aside0.mk (Kd.V_elder' (by (with_reducible repeat (first | apply Kd.V_alloc | apply Kd.V_drewN | apply Kd.V_drew)); exact HO361.out) (by first | exact Kd.N_base ho18 | exact Kd.S_base ho18 | exact Kd.R_base ho18) hb)
    have n2_ := Aside0.mk (Kd.N_lower ho18 (below_size (by repeat (first | (with_reducible first | exact HB.out | apply below_alloc | apply pw_below_drewN | apply below_drew1 | refine below_set ?_ GE355.out) | exact HB.out))))
    have n3_ := Aside0.mk (blk_below (g := gb355) (o := .cells #[.int .i64 a2_0, .int .i64 a2_1, .int .i64 a2_2] 45 (0, 0)) (by (with_reducible repeat (first | refine blk_drewN ?_ _ | refine blk_drew ?_ | refine blk_alloc ?_ _)); exact BK355.out) hb)
    have n4_ := Aside0.mk (below_step (by repeat (first | (with_reducible first | exact HB.out | apply below_alloc | apply pw_below_drewN | apply below_drew1 | refine below_set ?_ GE355.out) | exact HB.out)) hb)
    clear HO358
    clear HO361
    clear BK355
    clear HB
    have HO358 := n0_
    have HO361 := n1_
    have HO364 := n2_
    have BK355 := n3_
    have HB := n4_
    clear n0_ n1_ n2_ n3_ n4_
    clear hb ho18
    obtain ⟨Ao19, co19, eo19⟩ := Kd.N_slice HO364.out
    (first | subst eo19 | (injection eo19 with f1_ f2_ f3_; have f4_ := f1_.symm; have f5_ := f3_.symm; clear f1_ f2_ f3_; subst f4_; subst f5_))
    refine hK.out _ _ ⟨(blk_cell BK355.out 0).trans rfl, (blk_cell BK355.out 1).trans rfl, (blk_cell BK355.out 2).trans rfl⟩ (fun hHeld => ?_)
    clear hK K
    refine norm_ (a' := ?_) ?_ ?_
    rotate_left
    · show Act.put _ (some 26) _ = _
      simp only [Act.put, List.setIfInBounds_toArray, List.set_cons_zero, List.set_cons_succ, i64_w, i32_w]
      rfl
    refine one_ (i := 3) (N := some 27) #[true, true, true, true, false, false, true, false, false, false, false, false, false, false] rfl rfl (one_of HT_.out (by kernel_rfl)) (by decide) (fun K hK => ?_)
    refine goes_ Tryd.func21 (by kernel_rfl) rfl #[.int .i64 8, .slice Ao19 y362.length co19] (by rfl) rfl rfl (by (try simp only [List.map_toArray, List.map_cons, List.map_nil]); first | done | rfl | (simp only [List.length_drop, List.length_take]; rfl)) ?_
    with_reducible refine (foretellkeep_joined.calls k 8 _ _ y362 t365 _ ?side1 ?side2 A10.out).mono ?_
    (case side1 => repeat (first | exact (Kd.N_reads' HO364.out).2.2 | (with_reducible refine Kd.C_alloc ?_ _) | (with_reducible refine Kd.C_drewN ?_ _) | (with_reducible refine Kd.C_drew ?_)))
    (case side2 => exact (Kd.N_reads' HO364.out).2.1)
    rintro e w20 ⟨v366, rfl, ho0, hb⟩
    refine ⟨_, rfl, ?_⟩
    have n0_ := Aside0.mk (Kd.V_below (by (with_reducible repeat (first | apply Kd.V_alloc | apply Kd.V_drewN | apply Kd.V_drew)); exact HO358.out) hb)
    have n1_ := Aside0.mk (Kd.V_below (by (with_reducible repeat (first | apply Kd.V_alloc | apply Kd.V_drewN | apply Kd.V_drew)); exact HO361.out) hb)
    have n2_ := Aside0.mk (Kd.N_below (by (with_reducible repeat (first | apply Kd.N_alloc | apply Kd.N_drewN | apply Kd.N_drew)); exact HO364.out) hb)
    have n3_ := Aside0.mk (Kd.V_lower (Kd.V_mono (ok' := fun k_ => k_ ≠ gb355) (Kd.R_V (Kd.R_bound ho0)) (fun k_ hk_ => (Kd.freshB (g := gb355) (o := .cells #[.int .i64 a2_0, .int .i64 a2_1, .int .i64 a2_2] 45 (0, 0)) (by (with_reducible repeat (first | refine blk_drewN ?_ _ | refine blk_drew ?_ | refine blk_alloc ?_ _)); exact BK355.out) k_ hk_.2.1))) (below_size (by repeat (first | (with_reducible first | exact HB.out | apply below_alloc | apply pw_below_drewN | apply below_drew1 | refine below_set ?_ GE355.out) | exact HB.out))))
    have n4_ := Aside0.mk (blk_below (g := gb355) (o := .cells #[.int .i64 a2_0, .int .i64 a2_1, .int .i64 a2_2] 45 (0, 0)) (by (with_reducible repeat (first | refine blk_drewN ?_ _ | refine blk_drew ?_ | refine blk_alloc ?_ _)); exact BK355.out) hb)
    have n5_ := Aside0.mk (below_step (by repeat (first | (with_reducible first | exact HB.out | apply below_alloc | apply pw_below_drewN | apply below_drew1 | refine below_set ?_ GE355.out) | exact HB.out)) hb)
    clear HO358
    clear HO361
    clear HO364
    clear BK355
    clear HB
    have HO358 := n0_
    have HO361 := n1_
    have HO364 := n2_
    have HO367 := n3_
    have BK355 := n4_
    have HB := n5_
    clear n0_ n1_ n2_ n3_ n4_ n5_
    (try clear hb)
    (try clear hb2)
    (try clear hk)
    (try clear hi)
    (try clear ho0)
    obtain ⟨Ao21, co21, eo21⟩ := Kd.V_slice HO367.out
    (first | subst eo21 | (injection eo21 with f1_ f2_ f3_; have f4_ := f1_.symm; have f5_ := f3_.symm; clear f1_ f2_ f3_; subst f4_; subst f5_))
    refine hK.out _ _ ⟨(blk_cell BK355.out 0).trans rfl, (blk_cell BK355.out 1).trans rfl, (blk_cell BK355.out 2).trans rfl⟩ (fun hHeld => ?_)
    clear hK K
    refine norm_ (a' := ?_) ?_ ?_
    rotate_left
    · show Act.put _ (some 27) _ = _
      simp only [Act.put, List.setIfInBounds_toArray, List.set_cons_zero, List.set_cons_succ, i64_w, i32_w]
      rfl
    refine one_ (i := 4) (N := some 28) #[true, true, true, true, true, false, true, false, false, false, false, false, false, false] rfl rfl (one_of HT_.out (by kernel_rfl)) (by decide) (fun K hK => ?_)
    refine Kd.N_lit_step (Kd.slice 32 k32) _ 23 ?hg (N' := 28) ?hd (xs := ([t365] : List (List (S32)))) (inner := [.slice Ao21 t365.length co21]) (ok := (fun k_ => k_ ≠ gb355)) (okp := (fun k_ => k_ ≠ gb355)) ?hr ?hp (fun _ hk => hk) ((show ∀ k_, w20.heap.size ≤ k_ → (fun k_ => k_ ≠ gb355) k_ from fun k_ hk => Kd.freshB (g := gb355) (o := .cells #[.int .i64 a2_0, .int .i64 a2_1, .int .i64 a2_2] 45 (0, 0)) (by (with_reducible repeat (first | refine blk_drewN ?_ _ | refine blk_drew ?_ | refine blk_alloc ?_ _)); exact BK355.out) k_ hk) _ (Nat.le_refl _)) (Below.refl _ _) (Nat.le_refl _) (by simp) ?_; (case hd => rfl); (case hg => rfl); (case hr => first | (go_simp; done) | (go_simp; rfl)); (case hp => exact (Reps.one (show Kd.FK (Kd.slice 32 k32) _ _ t365 [.slice Ao21 t365.length co21] from (Kd.FK_slice_mk (Kd.V_reads' (Kd.V_mono (ok' := (fun k_ => k_ ≠ gb355)) (HO367.out) (fun k_ hk => hk))).2.1 (Kd.V_F (Kd.V_mono (ok' := (fun k_ => k_ ≠ gb355)) (HO367.out) (fun k_ hk => hk))))) (Reps.none _ _)))
    intro v369 w22 ho23 hb hg_ hnew_
    clear hg_ hnew_
    (first | rw [← Ny368.out] at ho23 | (simp only [Int.reduceToNat] at ho23; rw [← Ny368.out] at ho23))
    have n0_ := Aside0.mk (Kd.V_elder' (by (with_reducible repeat (first | apply Kd.V_alloc | apply Kd.V_drewN | apply Kd.V_drew)); exact HO358.out) (by first | exact Kd.N_base ho23 | exact Kd.S_base ho23 | exact Kd.R_base ho23) hb)
    have n1_ := Aside0.mk (Kd.V_elder' (by (with_reducible repeat (first | apply Kd.V_alloc | apply Kd.V_drewN | apply Kd.V_drew)); exact HO361.out) (by first | exact Kd.N_base ho23 | exact Kd.S_base ho23 | exact Kd.R_base ho23) hb)
    have n2_ := Aside0.mk (Kd.N_elder' (by (with_reducible repeat (first | apply Kd.N_alloc | apply Kd.N_drewN | apply Kd.N_drew)); exact HO364.out) (by first | exact Kd.N_base ho23 | exact Kd.S_base ho23 | exact Kd.R_base ho23) hb)
    have n3_ := Aside0.mk (Kd.V_elder' (by (with_reducible repeat (first | apply Kd.V_alloc | apply Kd.V_drewN | apply Kd.V_drew)); exact HO367.out) (by first | exact Kd.N_base ho23 | exact Kd.S_base ho23 | exact Kd.R_base ho23) hb)
    have n4_ := Aside0.mk (Kd.N_lower ho23 (below_size (by repeat (first | (with_reducible first | exact HB.out | apply below_alloc | apply pw_below_drewN | apply below_drew1 | refine below_set ?_ GE355.out) | exact HB.out))))
    have n5_ := Aside0.mk (blk_below (g := gb355) (o := .cells #[.int .i64 a2_0, .int .i64 a2_1, .int .i64 a2_2] 45 (0, 0)) (by (with_reducible repeat (first | refine blk_drewN ?_ _ | refine blk_drew ?_ | refine blk_alloc ?_ _)); exact BK355.out) hb)
    have n6_ := Aside0.mk (below_step (by repeat (first | (with_reducible first | exact HB.out | apply below_alloc | apply pw_below_drewN | apply below_drew1 | refine below_set ?_ GE355.out) | exact HB.out)) hb)
    clear HO358
    clear HO361
    clear HO364
    clear HO367
    clear BK355
    clear HB
    have HO358 := n0_
    have HO361 := n1_
    have HO364 := n2_
    have HO367 := n3_
    have HO370 := n4_
    have BK355 := n5_
    have HB := n6_
    clear n0_ n1_ n2_ n3_ n4_ n5_ n6_
    clear hb ho23
    obtain ⟨Ao24, co24, eo24⟩ := Kd.N_slice HO370.out
    (first | subst eo24 | (injection eo24 with f1_ f2_ f3_; have f4_ := f1_.symm; have f5_ := f3_.symm; clear f1_ f2_ f3_; subst f4_; subst f5_))
    refine hK.out _ _ ⟨(blk_cell BK355.out 0).trans rfl, (blk_cell BK355.out 1).trans rfl, (blk_cell BK355.out 2).trans rfl⟩ (fun hHeld => ?_)
    clear hK K
    refine norm_ (a' := ?_) ?_ ?_
    rotate_left
    · show Act.put _ (some 28) _ = _
      simp only [Act.put, List.setIfInBounds_toArray, List.set_cons_zero, List.set_cons_succ, i64_w, i32_w]
      rfl
    refine one_ (i := 5) (N := some 29) #[true, true, true, true, true, true, true, false, false, false, false, false, false, false] rfl rfl (one_of HT_.out (by kernel_rfl)) (by decide) (fun K hK => ?_)
    refine goes_ Tryd.func21 (by kernel_rfl) rfl #[.int .i64 10, .slice Ao24 y368.length co24] (by rfl) rfl rfl (by (try simp only [List.map_toArray, List.map_cons, List.map_nil]); first | done | rfl | (simp only [List.length_drop, List.length_take]; rfl)) ?_
    with_reducible refine (foretellkeep_joined.calls k 10 _ _ y368 t371 _ ?side1 ?side2 A11.out).mono ?_
    (case side1 => repeat (first | exact (Kd.N_reads' HO370.out).2.2 | (with_reducible refine Kd.C_alloc ?_ _) | (with_reducible refine Kd.C_drewN ?_ _) | (with_reducible refine Kd.C_drew ?_)))
    (case side2 => exact (Kd.N_reads' HO370.out).2.1)
    rintro e w25 ⟨v372, rfl, ho0, hb⟩
    refine ⟨_, rfl, ?_⟩
    have n0_ := Aside0.mk (Kd.V_below (by (with_reducible repeat (first | apply Kd.V_alloc | apply Kd.V_drewN | apply Kd.V_drew)); exact HO358.out) hb)
    have n1_ := Aside0.mk (Kd.V_below (by (with_reducible repeat (first | apply Kd.V_alloc | apply Kd.V_drewN | apply Kd.V_drew)); exact HO361.out) hb)
    have n2_ := Aside0.mk (Kd.N_below (by (with_reducible repeat (first | apply Kd.N_alloc | apply Kd.N_drewN | apply Kd.N_drew)); exact HO364.out) hb)
    have n3_ := Aside0.mk (Kd.V_below (by (with_reducible repeat (first | apply Kd.V_alloc | apply Kd.V_drewN | apply Kd.V_drew)); exact HO367.out) hb)
    have n4_ := Aside0.mk (Kd.N_below (by (with_reducible repeat (first | apply Kd.N_alloc | apply Kd.N_drewN | apply Kd.N_drew)); exact HO370.out) hb)
    have n5_ := Aside0.mk (Kd.V_lower (Kd.V_mono (ok' := fun k_ => k_ ≠ gb355) (Kd.R_V (Kd.R_bound ho0)) (fun k_ hk_ => (Kd.freshB (g := gb355) (o := .cells #[.int .i64 a2_0, .int .i64 a2_1, .int .i64 a2_2] 45 (0, 0)) (by (with_reducible repeat (first | refine blk_drewN ?_ _ | refine blk_drew ?_ | refine blk_alloc ?_ _)); exact BK355.out) k_ hk_.2.1))) (below_size (by repeat (first | (with_reducible first | exact HB.out | apply below_alloc | apply pw_below_drewN | apply below_drew1 | refine below_set ?_ GE355.out) | exact HB.out))))
    have n6_ := Aside0.mk (blk_below (g := gb355) (o := .cells #[.int .i64 a2_0, .int .i64 a2_1, .int .i64 a2_2] 45 (0, 0)) (by (with_reducible repeat (first | refine blk_drewN ?_ _ | refine blk_drew ?_ | refine blk_alloc ?_ _)); exact BK355.out) hb)
    have n7_ := Aside0.mk (below_step (by repeat (first | (with_reducible first | exact HB.out | apply below_alloc | apply pw_below_drewN | apply below_drew1 | refine below_set ?_ GE355.out) | exact HB.out)) hb)
    clear HO358
    clear HO361
    clear HO364
    clear HO367
    clear HO370
    clear BK355
    clear HB
    have HO358 := n0_
    have HO361 := n1_
    have HO364 := n2_
    have HO367 := n3_
    have HO370 := n4_
    have HO373 := n5_
    have BK355 := n6_
    have HB := n7_
    clear n0_ n1_ n2_ n3_ n4_ n5_ n6_ n7_
    (try clear hb)
    (try clear hb2)
    (try clear hk)
    (try clear hi)
    (try clear ho0)
    refine hK.out _ _ ⟨(blk_cell BK355.out 0).trans rfl, (blk_cell BK355.out 1).trans rfl, (blk_cell BK355.out 2).trans rfl⟩ (fun hHeld => ?_)
    clear hK K
    refine norm_ (a' := ?_) ?_ ?_
    rotate_left
    · show Act.put _ (some 29) _ = _
      simp only [Act.put, List.setIfInBounds_toArray, List.set_cons_zero, List.set_cons_succ, i64_w, i32_w]
      rfl
    refine one_ (i := 7) (N := some 31) #[true, true, true, true, true, true, true, true, false, false, false, false, false, false] rfl rfl (one_of HT_.out (by kernel_rfl)) (by decide) (fun K hK => ?_)
    refine goes_ Tryd.func25 (by kernel_rfl) rfl #[.agg #[.int .i64 a2_0, .int .i64 a2_1, .int .i64 a2_2]] (by rfl) rfl rfl (by (try simp only [List.map_toArray, List.map_cons, List.map_nil]); first | done | rfl | (simp only [List.length_drop, List.length_take]; rfl)) ?_
    with_reducible refine (foretellkeep_env.calls a2_0 a2_1 a2_2 t374 _ A12.out).mono ?_
    rintro e w26 ⟨v375, rfl, ho0, hb⟩
    refine ⟨_, rfl, ?_⟩
    have n0_ := Aside0.mk (Kd.V_below (by (with_reducible repeat (first | apply Kd.V_alloc | apply Kd.V_drewN | apply Kd.V_drew)); exact HO358.out) hb)
    have n1_ := Aside0.mk (Kd.V_below (by (with_reducible repeat (first | apply Kd.V_alloc | apply Kd.V_drewN | apply Kd.V_drew)); exact HO361.out) hb)
    have n2_ := Aside0.mk (Kd.N_below (by (with_reducible repeat (first | apply Kd.N_alloc | apply Kd.N_drewN | apply Kd.N_drew)); exact HO364.out) hb)
    have n3_ := Aside0.mk (Kd.V_below (by (with_reducible repeat (first | apply Kd.V_alloc | apply Kd.V_drewN | apply Kd.V_drew)); exact HO367.out) hb)
    have n4_ := Aside0.mk (Kd.N_below (by (with_reducible repeat (first | apply Kd.N_alloc | apply Kd.N_drewN | apply Kd.N_drew)); exact HO370.out) hb)
    have n5_ := Aside0.mk (Kd.V_below (by (with_reducible repeat (first | apply Kd.V_alloc | apply Kd.V_drewN | apply Kd.V_drew)); exact HO373.out) hb)
    have n6_ := Aside0.mk (Kd.V_lower (Kd.V_mono (ok' := fun k_ => k_ ≠ gb355) (Kd.R_V (Kd.R_bound ho0)) (fun k_ hk_ => (Kd.freshB (g := gb355) (o := .cells #[.int .i64 a2_0, .int .i64 a2_1, .int .i64 a2_2] 45 (0, 0)) (by (with_reducible repeat (first | refine blk_drewN ?_ _ | refine blk_drew ?_ | refine blk_alloc ?_ _)); exact BK355.out) k_ hk_.2.1))) (below_size (by repeat (first | (with_reducible first | exact HB.out | apply below_alloc | apply pw_below_drewN | apply below_drew1 | refine below_set ?_ GE355.out) | exact HB.out))))
    have n7_ := Aside0.mk (blk_below (g := gb355) (o := .cells #[.int .i64 a2_0, .int .i64 a2_1, .int .i64 a2_2] 45 (0, 0)) (by (with_reducible repeat (first | refine blk_drewN ?_ _ | refine blk_drew ?_ | refine blk_alloc ?_ _)); exact BK355.out) hb)
    have n8_ := Aside0.mk (below_step (by repeat (first | (with_reducible first | exact HB.out | apply below_alloc | apply pw_below_drewN | apply below_drew1 | refine below_set ?_ GE355.out) | exact HB.out)) hb)
    clear HO358
    clear HO361
    clear HO364
    clear HO367
    clear HO370
    clear HO373
    clear BK355
    clear HB
    have HO358 := n0_
    have HO361 := n1_
    have HO364 := n2_
    have HO367 := n3_
    have HO370 := n4_
    have HO373 := n5_
    have HO376 := n6_
    have BK355 := n7_
    have HB := n8_
    clear n0_ n1_ n2_ n3_ n4_ n5_ n6_ n7_ n8_
    (try clear hb)
    (try clear hb2)
    (try clear hk)
    (try clear hi)
    (try clear ho0)
    obtain ⟨Ao27, co27, eo27⟩ := Kd.V_slice HO373.out
    (first | subst eo27 | (injection eo27 with f1_ f2_ f3_; have f4_ := f1_.symm; have f5_ := f3_.symm; clear f1_ f2_ f3_; subst f4_; subst f5_))
    obtain ⟨Ao28, co28, eo28⟩ := Kd.V_slice HO376.out
    (first | subst eo28 | (injection eo28 with f1_ f2_ f3_; have f4_ := f1_.symm; have f5_ := f3_.symm; clear f1_ f2_ f3_; subst f4_; subst f5_))
    refine hK.out _ _ ⟨(blk_cell BK355.out 0).trans rfl, (blk_cell BK355.out 1).trans rfl, (blk_cell BK355.out 2).trans rfl⟩ (fun hHeld => ?_)
    clear hK K
    refine norm_ (a' := ?_) ?_ ?_
    rotate_left
    · show Act.put _ (some 31) _ = _
      simp only [Act.put, List.setIfInBounds_toArray, List.set_cons_zero, List.set_cons_succ, i64_w, i32_w]
      rfl
    refine one_ (i := 8) (N := some 32) #[true, true, true, true, true, true, true, true, true, false, false, false, false, false] rfl rfl (one_of HT_.out (by kernel_rfl)) (by decide) (fun K hK => ?_)
    refine goes_ Tryd.func24 (by kernel_rfl) rfl #[.slice Ao27 t371.length co27, .slice Ao28 t374.length co28] (by rfl) rfl rfl (by (try simp only [List.map_toArray, List.map_cons, List.map_nil]); first | done | rfl | (simp only [List.length_drop, List.length_take]; rfl)) ?_
    with_reducible refine (expr_Eval.calls k _ _ t371 _ _ t374 t377 t378 _ ?side1 ?side2 ?side3 ?side4 ?side5 A13.out).mono ?_
    (case side1 => repeat (first | exact (Kd.V_reads' HO373.out).2.2 | (with_reducible refine Kd.C_alloc ?_ _) | (with_reducible refine Kd.C_drewN ?_ _) | (with_reducible refine Kd.C_drew ?_)))
    (case side2 => exact (Kd.V_reads' HO373.out).2.1)
    (case side3 => repeat (first | exact (Kd.V_reads' HO376.out).2.2 | (with_reducible refine Kd.C_alloc ?_ _) | (with_reducible refine Kd.C_drewN ?_ _) | (with_reducible refine Kd.C_drew ?_)))
    (case side4 => exact (Kd.V_reads' HO376.out).2.1)
    (case side5 => first | exact hG_ | exact Glob.drewN hG_ _ | exact Glob.below hG_ (by repeat (first | (with_reducible first | exact HB.out | apply below_alloc | apply pw_below_drewN | apply below_drew1 | refine below_set ?_ GE355.out) | exact HB.out)))
    rintro e w29 ⟨rfl, hb⟩
    refine ⟨_, rfl, ?_⟩
    have n0_ := Aside0.mk (Kd.V_below (by (with_reducible repeat (first | apply Kd.V_alloc | apply Kd.V_drewN | apply Kd.V_drew)); exact HO358.out) hb)
    have n1_ := Aside0.mk (Kd.V_below (by (with_reducible repeat (first | apply Kd.V_alloc | apply Kd.V_drewN | apply Kd.V_drew)); exact HO361.out) hb)
    have n2_ := Aside0.mk (Kd.N_below (by (with_reducible repeat (first | apply Kd.N_alloc | apply Kd.N_drewN | apply Kd.N_drew)); exact HO364.out) hb)
    have n3_ := Aside0.mk (Kd.V_below (by (with_reducible repeat (first | apply Kd.V_alloc | apply Kd.V_drewN | apply Kd.V_drew)); exact HO367.out) hb)
    have n4_ := Aside0.mk (Kd.N_below (by (with_reducible repeat (first | apply Kd.N_alloc | apply Kd.N_drewN | apply Kd.N_drew)); exact HO370.out) hb)
    have n5_ := Aside0.mk (Kd.V_below (by (with_reducible repeat (first | apply Kd.V_alloc | apply Kd.V_drewN | apply Kd.V_drew)); exact HO373.out) hb)
    have n6_ := Aside0.mk (Kd.V_below (by (with_reducible repeat (first | apply Kd.V_alloc | apply Kd.V_drewN | apply Kd.V_drew)); exact HO376.out) hb)
    have n7_ := Aside0.mk (blk_below (g := gb355) (o := .cells #[.int .i64 a2_0, .int .i64 a2_1, .int .i64 a2_2] 45 (0, 0)) (by (with_reducible repeat (first | refine blk_drewN ?_ _ | refine blk_drew ?_ | refine blk_alloc ?_ _)); exact BK355.out) hb)
    have n8_ := Aside0.mk (below_step (by repeat (first | (with_reducible first | exact HB.out | apply below_alloc | apply pw_below_drewN | apply below_drew1 | refine below_set ?_ GE355.out) | exact HB.out)) hb)
    clear HO358
    clear HO361
    clear HO364
    clear HO367
    clear HO370
    clear HO373
    clear HO376
    clear BK355
    clear HB
    have HO358 := n0_
    have HO361 := n1_
    have HO364 := n2_
    have HO367 := n3_
    have HO370 := n4_
    have HO373 := n5_
    have HO376 := n6_
    have BK355 := n7_
    have HB := n8_
    clear n0_ n1_ n2_ n3_ n4_ n5_ n6_ n7_ n8_
    (try clear hb)
    (try clear hb2)
    (try clear hk)
    (try clear hi)
    refine hK.out _ _ ⟨(blk_cell BK355.out 0).trans rfl, (blk_cell BK355.out 1).trans rfl, (blk_cell BK355.out 2).trans rfl⟩ (fun hHeld => ?_)
    clear hK K
    refine norm_ (a' := ?_) ?_ ?_
    rotate_left
    · show Act.put _ (some 32) _ = _
      simp only [Act.put, List.setIfInBounds_toArray, List.set_cons_zero, List.set_cons_succ, i64_w, i32_w]
      rfl
    refine pure_ (i := 9) (N := some 23) (v := ?_) (a' := ?_) #[true, true, true, true, true, true, true, true, true, true, false, false, false, false] rfl rfl (any_of HT_.out (by kernel_rfl)) (fun _ _ _ h => h) (Or.inl ⟨by rfl, ?_⟩) ?_ ?_
    rotate_left
    · intro w'
      go_simp
      with_reducible rfl
    rotate_left
    · simp only [Act.put, List.setIfInBounds_toArray, List.set_cons_zero, List.set_cons_succ, i64_w, i32_w]
      rfl
    refine pure_ (i := 10) (N := some 33) (v := ?_) (a' := ?_) #[true, true, true, true, true, true, true, true, true, true, true, false, false, false] rfl rfl (any_of HT_.out (by kernel_rfl)) (fun _ _ _ h => h) (Or.inl ⟨by rfl, ?_⟩) ?_ ?_
    rotate_left
    · intro w'
      go_simp
      with_reducible rfl
    rotate_left
    · simp only [Act.put, List.setIfInBounds_toArray, List.set_cons_zero, List.set_cons_succ, i64_w, i32_w]
      rfl
    refine pure_ (i := 11) (N := some 34) (v := ?_) (a' := ?_) #[true, true, true, true, true, true, true, true, true, true, true, true, false, false] rfl rfl (any_of HT_.out (by kernel_rfl)) (fun _ _ _ h => h) (Or.inl ⟨by rfl, ?_⟩) ?_ ?_
    rotate_left
    · intro w'
      go_simp
      with_reducible rfl
    rotate_left
    · simp only [Act.put, List.setIfInBounds_toArray, List.set_cons_zero, List.set_cons_succ, i64_w, i32_w]
      rfl
    refine pure_ (i := 12) (N := some 9) (v := ?_) (a' := ?_) #[true, true, true, true, true, true, true, true, true, true, true, true, true, false] rfl rfl (any_of HT_.out (by kernel_rfl)) (fun _ _ _ h => h) (Or.inl ⟨by rfl, ?_⟩) ?_ ?_
    rotate_left
    · intro w'
      go_simp
      with_reducible rfl
    rotate_left
    · simp only [Act.put, List.setIfInBounds_toArray, List.set_cons_zero, List.set_cons_succ, i64_w, i32_w]
      rfl
    refine pure_ (i := 13) (N := some 10) (v := ?_) (a' := ?_) #[true, true, true, true, true, true, true, true, true, true, true, true, true, true] rfl rfl (any_of HT_.out (by kernel_rfl)) (fun _ _ _ h => h) (Or.inl ⟨by rfl, ?_⟩) ?_ ?_
    rotate_left
    · intro w'
      go_simp
      with_reducible rfl
    rotate_left
    · simp only [Act.put, List.setIfInBounds_toArray, List.set_cons_zero, List.set_cons_succ, i64_w, i32_w]
      rfl
    refine done_ (done_of HT_.out (by kernel_rfl)) ?_
    try go_wp2
    go_meet
    case rel => exact ⟨_, (t377), (t378), (by first | rfl | (simp; done) | (simp [*]; done)), (by first | rfl | (simp; done) | (simp [*]; done)), H', ⟨by first | omega | exact Nat.le_refl _⟩, ⟨by (with_reducible repeat (first | apply Kd.V_alloc | apply Kd.V_drewN | apply Kd.V_drew)); exact Kd.V_mono HO358.out (fun _ hk => by first | exact hk.1.1 | exact hk)⟩, ⟨by (with_reducible repeat (first | apply Kd.V_alloc | apply Kd.V_drewN | apply Kd.V_drew)); exact Kd.V_mono HO361.out (fun _ hk => by first | exact hk.1.1 | exact hk)⟩, ⟨by (with_reducible repeat (first | refine blk_drewN ?_ _ | refine blk_drew ?_ | refine blk_alloc ?_ _)); exact BK355.out⟩, ⟨by repeat (first | (with_reducible first | exact HB.out | apply below_alloc | apply pw_below_drewN | apply below_drew1 | refine below_set ?_ GE355.out) | exact HB.out)⟩⟩
  case rest =>
    clear HC6
    try clear c1
    try clear c2
    try clear p2
    try clear c10
    try clear c14
    try clear c21
    try clear c24
    try clear c25
    obtain ⟨kq, x9_5, x10_5, rfl, rfl, HA, HJ5, HO_7, HO_8, BK355, HB⟩ := hcut
    cases kq with
    | zero => exact absurd HA.out (by simp [foretellkeep_EvalLogic.j0])
    | succ kj5 =>
      have H := HA.out
      clear HA
      simp only [foretellkeep_EvalLogic.j0] at H
      have HC30 := Aside0.mk H
      clear H
      go_upto_region 4 with (fail)
      go_cut [11, 12] (fun v11 v12 wc => ∃ (kq : Nat) (x11_29 : Int) (x12_29 : Int), v11 = .int .i64 x11_29 ∧ v12 = .int .i64 x12_29 ∧ Aside0 (foretellkeep_EvalLogic.j1 kq t356 t359 x9_5 x10_5 x11_29 x12_29 a2_0 a2_1 a2_2 = some r) ∧ Aside0 (kq ≤ kj5) ∧ Aside0 (Kd.V k32 32 wc w.heap.size (fun k_ => k_ ≠ gb355) v357 t356) ∧ Aside0 (Kd.V k32 32 wc w.heap.size (fun k_ => k_ ≠ gb355) v360 t359) ∧ Aside0 (wc.heap[gb355]? = some (.cells #[.int .i64 a2_0, .int .i64 a2_1, .int .i64 a2_2] 45 (0, 0))) ∧ Aside0 (Below w.heap.size w wc))
      case first =>
        have H := HC30.out
        clear HC30
        obtain ⟨y379, hy379⟩ : ∃ y_ : List (List (S32)), y_ = (([t356] : List (List (S32)))) := ⟨_, rfl⟩
        replace H : ((foretellkeep_joined.f kj5 10 y379).bind fun t382 => ((foretellkeep_joined.f kj5 10 (([t359] : List (List (S32))))).bind fun t388 => ((foretellkeep_joined.f kj5 9 (([t382, t388] : List (List (S32))))).bind fun t394 => ((foretellkeep_env.f a2_0 a2_1 a2_2).bind fun t397 => ((expr_Eval.f kj5 t394 t397).bind fun bt400 => (foretellkeep_EvalLogic.j1 kj5 t356 t359 x9_5 x10_5 bt400.1 bt400.2 a2_0 a2_1 a2_2)))))) = some r := by first | (rw [hy379]; with_reducible exact H) | (have H2_ := (Option.bind_some _ _).symm.trans H; rw [hy379]; with_reducible exact H2_) | (have H2_ := (Option.bind_some _ _).symm.trans H; with_reducible exact H2_) | with_reducible exact H | (rw [hy379]; exact H) | exact H
        have Ny379 := Aside0.mk hy379
        clear hy379
        replace H := Option.bind_eq_some_iff.mp H
        obtain ⟨t382, A310, H⟩ := H
        replace H : ((foretellkeep_joined.f kj5 10 (([t359] : List (List (S32))))).bind fun t388 => ((foretellkeep_joined.f kj5 9 (([t382, t388] : List (List (S32))))).bind fun t394 => ((foretellkeep_env.f a2_0 a2_1 a2_2).bind fun t397 => ((expr_Eval.f kj5 t394 t397).bind fun bt400 => (foretellkeep_EvalLogic.j1 kj5 t356 t359 x9_5 x10_5 bt400.1 bt400.2 a2_0 a2_1 a2_2))))) = some r := H
        have A31 := Aside0.mk A310
        clear A310
        obtain ⟨y385, hy385⟩ : ∃ y_ : List (List (S32)), y_ = (([t359] : List (List (S32)))) := ⟨_, rfl⟩
        replace H : ((foretellkeep_joined.f kj5 10 y385).bind fun t388 => ((foretellkeep_joined.f kj5 9 (([t382, t388] : List (List (S32))))).bind fun t394 => ((foretellkeep_env.f a2_0 a2_1 a2_2).bind fun t397 => ((expr_Eval.f kj5 t394 t397).bind fun bt400 => (foretellkeep_EvalLogic.j1 kj5 t356 t359 x9_5 x10_5 bt400.1 bt400.2 a2_0 a2_1 a2_2))))) = some r := by first | (rw [hy385]; with_reducible exact H) | (have H2_ := (Option.bind_some _ _).symm.trans H; rw [hy385]; with_reducible exact H2_) | (have H2_ := (Option.bind_some _ _).symm.trans H; with_reducible exact H2_) | with_reducible exact H | (rw [hy385]; exact H) | exact H
        have Ny385 := Aside0.mk hy385
        clear hy385
        replace H := Option.bind_eq_some_iff.mp H
        obtain ⟨t388, A320, H⟩ := H
        replace H : ((foretellkeep_joined.f kj5 9 (([t382, t388] : List (List (S32))))).bind fun t394 => ((foretellkeep_env.f a2_0 a2_1 a2_2).bind fun t397 => ((expr_Eval.f kj5 t394 t397).bind fun bt400 => (foretellkeep_EvalLogic.j1 kj5 t356 t359 x9_5 x10_5 bt400.1 bt400.2 a2_0 a2_1 a2_2)))) = some r := H
        have A32 := Aside0.mk A320
        clear A320
        obtain ⟨y391, hy391⟩ : ∃ y_ : List (List (S32)), y_ = (([t382, t388] : List (List (S32)))) := ⟨_, rfl⟩
        replace H : ((foretellkeep_joined.f kj5 9 y391).bind fun t394 => ((foretellkeep_env.f a2_0 a2_1 a2_2).bind fun t397 => ((expr_Eval.f kj5 t394 t397).bind fun bt400 => (foretellkeep_EvalLogic.j1 kj5 t356 t359 x9_5 x10_5 bt400.1 bt400.2 a2_0 a2_1 a2_2)))) = some r := by first | (rw [hy391]; with_reducible exact H) | (have H2_ := (Option.bind_some _ _).symm.trans H; rw [hy391]; with_reducible exact H2_) | (have H2_ := (Option.bind_some _ _).symm.trans H; with_reducible exact H2_) | with_reducible exact H | (rw [hy391]; exact H) | exact H
        have Ny391 := Aside0.mk hy391
        clear hy391
        replace H := Option.bind_eq_some_iff.mp H
        obtain ⟨t394, A330, H⟩ := H
        replace H : ((foretellkeep_env.f a2_0 a2_1 a2_2).bind fun t397 => ((expr_Eval.f kj5 t394 t397).bind fun bt400 => (foretellkeep_EvalLogic.j1 kj5 t356 t359 x9_5 x10_5 bt400.1 bt400.2 a2_0 a2_1 a2_2))) = some r := H
        have A33 := Aside0.mk A330
        clear A330
        replace H := Option.bind_eq_some_iff.mp H
        obtain ⟨t397, A340, H⟩ := H
        replace H : ((expr_Eval.f kj5 t394 t397).bind fun bt400 => (foretellkeep_EvalLogic.j1 kj5 t356 t359 x9_5 x10_5 bt400.1 bt400.2 a2_0 a2_1 a2_2)) = some r := H
        have A34 := Aside0.mk A340
        clear A340
        replace H := Option.bind_eq_some_iff.mp H
        obtain ⟨⟨t400, t401⟩, A350, H⟩ := H
        replace H : (foretellkeep_EvalLogic.j1 kj5 t356 t359 x9_5 x10_5 t400 t401 a2_0 a2_1 a2_2) = some r := H
        have A35 := Aside0.mk A350
        clear A350
        have H' := Aside0.mk H
        clear H
        obtain ⟨Ao36, co36, eo36⟩ := Kd.V_slice HO_7.out
        subst eo36
        obtain ⟨Ao37, co37, eo37⟩ := Kd.V_slice HO_8.out
        subst eo37
        try go_wp2
        have n0_ := Aside0.mk (Kd.V_drew HO_7.out)
        have n1_ := Aside0.mk (Kd.V_drew HO_8.out)
        have n2_ := Aside0.mk (blk_drew BK355.out)
        have n3_ := Aside0.mk (below_drew1 HB.out)
        clear HO_7
        clear HO_8
        clear BK355
        clear HB
        have HO_7 := n0_
        have HO_8 := n1_
        have BK355 := n2_
        have HB := n3_
        clear n0_ n1_ n2_ n3_
        refine start_ (n := 16) (S := fun w' => True) (ds := []) #[false, false, false, false, false, false, false, false, false, false, false, false, false, false, false, false] (by kernel_rfl) rfl rfl trivial (fun hHeld => ?_); refine with_tabW foretellkeep_EvalLogic.tab4 foretellkeep_EvalLogic.bits4 (fun HT_ HW_ => ?_)
        generalize wc.drew = w38 at HO_7 HO_8 BK355 HB hHeld ⊢
        refine pure_ (i := 0) (N := some 36) (v := ?_) (a' := ?_) #[true, false, false, false, false, false, false, false, false, false, false, false, false, false, false, false] rfl rfl (any_of HT_.out (by kernel_rfl)) (fun _ _ _ h => h) (Or.inl ⟨by rfl, ?_⟩) ?_ ?_
        rotate_left
        · intro w'
          go_simp
          with_reducible rfl
        rotate_left
        · simp only [Act.put, List.setIfInBounds_toArray, List.set_cons_zero, List.set_cons_succ, i64_w, i32_w]
          rfl
        refine pure_ (i := 3) (N := some 39) (v := ?_) (a' := ?_) #[true, false, false, true, false, false, false, false, false, false, false, false, false, false, false, false] rfl rfl (any_of HT_.out (by kernel_rfl)) (fun _ _ _ h => h) (Or.inl ⟨by rfl, ?_⟩) ?_ ?_
        rotate_left
        · intro w'
          go_simp
          with_reducible rfl
        rotate_left
        · simp only [Act.put, List.setIfInBounds_toArray, List.set_cons_zero, List.set_cons_succ, i64_w, i32_w]
          rfl
        refine inv_at [1, 2, 4, 5, 6, 7, 8, 9, 10, 11, 12, 13, 14, 15] (fun a0_ b a w' => ∃ (v380 : Value) (v383 : Value) (v386 : Value) (v389 : Value) (v392 : Value) (v395 : Value) (v398 : Value), a = putSel a0_ b [(1, 37, v380), (2, 38, v383), (4, 40, v386), (5, 41, v389), (6, 42, v392), (7, 43, v395), (8, 44, .agg #[.int .i64 a2_0, .int .i64 a2_1, .int .i64 a2_2]), (9, 45, v398), (10, 46, .tuple #[.int .i64 t400, .int .i64 t401]), (11, 35, .tuple #[.int .i64 t400, .int .i64 t401]), (12, 47, .int .i64 t400), (13, 48, .int .i64 t401), (14, 11, .int .i64 t400), (15, 12, .int .i64 t401)] ∧ (Kd.V k32 32 w' w.heap.size (fun k_ => k_ ≠ gb355) (.slice Ao36 t356.length co36) t356) ∧ (Kd.V k32 32 w' w.heap.size (fun k_ => k_ ≠ gb355) (.slice Ao37 t359.length co37) t359) ∧ (w'.heap[gb355]? = some (.cells #[.int .i64 a2_0, .int .i64 a2_1, .int .i64 a2_2] 45 (0, 0))) ∧ (Below w.heap.size w w') ∧ (b 1 = true → Kd.N (Kd.slice 32 k32) 23 w' w.heap.size (fun k_ => k_ ≠ gb355) v380 y379) ∧ (b 2 = true → Kd.V k32 32 w' w.heap.size (fun k_ => k_ ≠ gb355) v383 t382) ∧ (b 4 = true → Kd.N (Kd.slice 32 k32) 23 w' w.heap.size (fun k_ => k_ ≠ gb355) v386 y385) ∧ (b 5 = true → Kd.V k32 32 w' w.heap.size (fun k_ => k_ ≠ gb355) v389 t388) ∧ (b 6 = true → Kd.N (Kd.slice 32 k32) 23 w' w.heap.size (fun k_ => k_ ≠ gb355) v392 y391) ∧ (b 7 = true → Kd.V k32 32 w' w.heap.size (fun k_ => k_ ≠ gb355) v395 t394) ∧ (b 9 = true → Kd.V (Kd.int .i64) 3 w' w.heap.size (fun k_ => k_ ≠ gb355) v398 t397)) HT_.out HW_.out (by kernel_rfl) (by kernel_rfl) ?_ ?_ ?_
        · exact ⟨.bool false, .bool false, .bool false, .bool false, .bool false, .bool false, .bool false, by simp only [putSel, Bool.false_eq_true, if_false], HO_7.out, HO_8.out, BK355.out, HB.out, fun h_ => absurd h_ (by decide), fun h_ => absurd h_ (by decide), fun h_ => absurd h_ (by decide), fun h_ => absurd h_ (by decide), fun h_ => absurd h_ (by decide), fun h_ => absurd h_ (by decide), fun h_ => absurd h_ (by decide)⟩
        · skip
          clear BK355 HB HO_7 HO_8
          refine steps_cons ?_ ?_
          · rintro b a w' ⟨v380, v383, v386, v389, v392, v395, v398, ha, Q_HO_7, Q_HO_8, Q_BK355, Q_HB, Q_HO381, Q_HO384, Q_HO387, Q_HO390, Q_HO393, Q_HO396, Q_HO399⟩ hb_ hon hoff
            refine ⟨_, rfl, fun K hK => ?_⟩
            have e36 : a.tmps[36]? = some (.slice Ao36 t356.length co36) := by rw [ha]; exact (putSel_off rfl).trans rfl
            replace ha := Aside0.mk ha
            have HO_7 := Aside0.mk Q_HO_7
            have HO_8 := Aside0.mk Q_HO_8
            have BK355 := Aside0.mk Q_BK355
            have HB := Aside0.mk Q_HB
            refine Kd.N_lit_step (Kd.slice 32 k32) _ 23 ?hg (N' := 37) ?hd (xs := ([t356] : List (List (S32)))) (inner := [.slice Ao36 t356.length co36]) (ok := (fun k_ => k_ ≠ gb355)) (okp := (fun k_ => k_ ≠ gb355)) ?hr ?hp (fun _ hk => hk) ((show ∀ k_, w'.heap.size ≤ k_ → (fun k_ => k_ ≠ gb355) k_ from fun k_ hk => Kd.freshB (g := gb355) (o := .cells #[.int .i64 a2_0, .int .i64 a2_1, .int .i64 a2_2] 45 (0, 0)) (by (with_reducible repeat (first | refine blk_drewN ?_ _ | refine blk_drew ?_ | refine blk_alloc ?_ _)); exact BK355.out) k_ hk) _ (Nat.le_refl _)) (Below.refl _ _) (Nat.le_refl _) (by simp) ?_; (case hd => rfl); (case hg => rfl); (case hr => first | (go_simp; done) | (go_simp; rfl)); (case hp => exact (Reps.one (show Kd.FK (Kd.slice 32 k32) _ _ t356 [.slice Ao36 t356.length co36] from (Kd.FK_slice_mk (Kd.V_reads' (Kd.V_mono (ok' := (fun k_ => k_ ≠ gb355)) (HO_7.out) (fun k_ hk => hk))).2.1 (Kd.V_F (Kd.V_mono (ok' := (fun k_ => k_ ≠ gb355)) (HO_7.out) (fun k_ hk => hk))))) (Reps.none _ _)))
            intro v380 w39 ho40 hb hg_ hnew_
            clear hg_ hnew_
            (first | rw [← Ny379.out] at ho40 | (simp only [Int.reduceToNat] at ho40; rw [← Ny379.out] at ho40))
            have n0_ := Aside0.mk (Kd.V_elder' (by (with_reducible repeat (first | apply Kd.V_alloc | apply Kd.V_drewN | apply Kd.V_drew)); exact HO_7.out) (by first | exact Kd.N_base ho40 | exact Kd.S_base ho40 | exact Kd.R_base ho40) hb)
            have n1_ := Aside0.mk (Kd.V_elder' (by (with_reducible repeat (first | apply Kd.V_alloc | apply Kd.V_drewN | apply Kd.V_drew)); exact HO_8.out) (by first | exact Kd.N_base ho40 | exact Kd.S_base ho40 | exact Kd.R_base ho40) hb)
            have n2_ := Aside0.mk (Kd.N_lower ho40 (below_size (by repeat (first | (with_reducible first | exact HB.out | apply below_alloc | apply pw_below_drewN | apply below_drew1 | refine below_set ?_ GE355.out) | exact HB.out))))
            have n3_ := Aside0.mk (blk_below (g := gb355) (o := .cells #[.int .i64 a2_0, .int .i64 a2_1, .int .i64 a2_2] 45 (0, 0)) (by (with_reducible repeat (first | refine blk_drewN ?_ _ | refine blk_drew ?_ | refine blk_alloc ?_ _)); exact BK355.out) hb)
            have n4_ := Aside0.mk (below_step (by repeat (first | (with_reducible first | exact HB.out | apply below_alloc | apply pw_below_drewN | apply below_drew1 | refine below_set ?_ GE355.out) | exact HB.out)) hb)
            have z_HO387 := fun (h0_ : b 4 = true) => (show Kd.N (Kd.slice 32 k32) 23 w39 w.heap.size (fun k_ => k_ ≠ gb355) v386 y385 from by first | exact (Kd.N_elder' (by (with_reducible repeat (first | apply Kd.N_alloc | apply Kd.N_drewN | apply Kd.N_drew)); exact (Q_HO387 h0_)) (by first | exact Kd.N_base ho40 | exact Kd.S_base ho40 | exact Kd.R_base ho40) hb) | exact Kd.N_mono (Kd.N_elder' (by (with_reducible repeat (first | apply Kd.N_alloc | apply Kd.N_drewN | apply Kd.N_drew)); exact (Q_HO387 h0_)) (by first | exact Kd.N_base ho40 | exact Kd.S_base ho40 | exact Kd.R_base ho40) hb) (fun _ h_ => by first | trivial | exact h_ | exact h_.1))
            clear HO_7
            clear HO_8
            clear BK355
            clear HB
            have HO_7 := n0_
            have HO_8 := n1_
            have HO381 := n2_
            have BK355 := n3_
            have HB := n4_
            clear n0_ n1_ n2_ n3_ n4_
            clear hb ho40
            refine hK.out _ _ ⟨v380, v383, v386, v389, v392, v395, v398, (by rw [ha.out]; exact putSel_upk 0 hb_ rfl rfl rfl), (by (with_reducible repeat (first | apply Kd.V_alloc | apply Kd.V_drewN | apply Kd.V_drew)); exact Kd.V_mono HO_7.out (fun _ hk => by first | exact ⟨hk.2, hk.1⟩ | exact hk.1 | exact hk)), (by (with_reducible repeat (first | apply Kd.V_alloc | apply Kd.V_drewN | apply Kd.V_drew)); exact Kd.V_mono HO_8.out (fun _ hk => by first | exact ⟨hk.2, hk.1⟩ | exact hk.1 | exact hk)), (by (with_reducible repeat (first | refine blk_drewN ?_ _ | refine blk_drew ?_ | refine blk_alloc ?_ _)); exact BK355.out), (by repeat (first | (with_reducible first | exact HB.out | apply below_alloc | apply pw_below_drewN | apply below_drew1 | refine below_set ?_ GE355.out) | exact HB.out)), fun _ => (by (with_reducible repeat (first | apply Kd.N_alloc | apply Kd.N_drewN | apply Kd.N_drew)); exact HO381.out), fun h0_ => absurd ((hoff 2 (by kernel_rfl)).symm.trans h0_) (by decide), z_HO387, fun h0_ => absurd ((hoff 5 (by kernel_rfl)).symm.trans h0_) (by decide), fun h0_ => absurd ((hoff 6 (by kernel_rfl)).symm.trans h0_) (by decide), fun h0_ => absurd ((hoff 7 (by kernel_rfl)).symm.trans h0_) (by decide), fun h0_ => absurd ((hoff 9 (by kernel_rfl)).symm.trans h0_) (by decide)⟩
          refine steps_cons ?_ ?_
          · rintro b a w' ⟨v380, v383, v386, v389, v392, v395, v398, ha, Q_HO_7, Q_HO_8, Q_BK355, Q_HB, Q_HO381, Q_HO384, Q_HO387, Q_HO390, Q_HO393, Q_HO396, Q_HO399⟩ hb_ hon hoff
            refine ⟨_, rfl, fun K hK => ?_⟩
            have e37 : a.tmps[37]? = some (v380) := by rw [ha]; exact putSel_on (e := (1, 37, v380)) 0 rfl rfl (hon 1 (by kernel_rfl)) rfl
            replace ha := Aside0.mk ha
            have HO_7 := Aside0.mk Q_HO_7
            have HO_8 := Aside0.mk Q_HO_8
            have BK355 := Aside0.mk Q_BK355
            have HB := Aside0.mk Q_HB
            have HO381 := Aside0.mk (Q_HO381 (hon 1 (by kernel_rfl)))
            obtain ⟨Ao42, co42, eo42⟩ := Kd.N_slice HO381.out
            (first | subst eo42 | (injection eo42 with f1_ f2_ f3_; have f4_ := f1_.symm; have f5_ := f3_.symm; clear f1_ f2_ f3_; subst f4_; subst f5_))
            refine goes_ Tryd.func21 (by kernel_rfl) rfl #[.int .i64 10, .slice Ao42 y379.length co42] (by rfl) rfl rfl (by first | (simp only [List.map_toArray, List.map_cons, List.map_nil, Act.eval, Array.getD_eq_getD_getElem?, Option.getD_some, e37]; done) | (simp only [List.map_toArray, List.map_cons, List.map_nil, Act.eval, Array.getD_eq_getD_getElem?, Option.getD_some, e37]; rfl)) ?_
            with_reducible refine (foretellkeep_joined.calls kj5 10 _ _ y379 t382 _ ?side1 ?side2 A31.out).mono ?_
            (case side1 => repeat (first | exact (Kd.N_reads' HO381.out).2.2 | (with_reducible refine Kd.C_alloc ?_ _) | (with_reducible refine Kd.C_drewN ?_ _) | (with_reducible refine Kd.C_drew ?_)))
            (case side2 => exact (Kd.N_reads' HO381.out).2.1)
            rintro e w43 ⟨v383, rfl, ho0, hb⟩
            refine ⟨_, rfl, ?_⟩
            have n0_ := Aside0.mk (Kd.V_below (by (with_reducible repeat (first | apply Kd.V_alloc | apply Kd.V_drewN | apply Kd.V_drew)); exact HO_7.out) hb)
            have n1_ := Aside0.mk (Kd.V_below (by (with_reducible repeat (first | apply Kd.V_alloc | apply Kd.V_drewN | apply Kd.V_drew)); exact HO_8.out) hb)
            have n2_ := Aside0.mk (Kd.N_below (by (with_reducible repeat (first | apply Kd.N_alloc | apply Kd.N_drewN | apply Kd.N_drew)); exact HO381.out) hb)
            have n3_ := Aside0.mk (Kd.V_lower (Kd.V_mono (ok' := fun k_ => k_ ≠ gb355) (Kd.R_V (Kd.R_bound ho0)) (fun k_ hk_ => (Kd.freshB (g := gb355) (o := .cells #[.int .i64 a2_0, .int .i64 a2_1, .int .i64 a2_2] 45 (0, 0)) (by (with_reducible repeat (first | refine blk_drewN ?_ _ | refine blk_drew ?_ | refine blk_alloc ?_ _)); exact BK355.out) k_ hk_.2.1))) (below_size (by repeat (first | (with_reducible first | exact HB.out | apply below_alloc | apply pw_below_drewN | apply below_drew1 | refine below_set ?_ GE355.out) | exact HB.out))))
            have n4_ := Aside0.mk (blk_below (g := gb355) (o := .cells #[.int .i64 a2_0, .int .i64 a2_1, .int .i64 a2_2] 45 (0, 0)) (by (with_reducible repeat (first | refine blk_drewN ?_ _ | refine blk_drew ?_ | refine blk_alloc ?_ _)); exact BK355.out) hb)
            have n5_ := Aside0.mk (below_step (by repeat (first | (with_reducible first | exact HB.out | apply below_alloc | apply pw_below_drewN | apply below_drew1 | refine below_set ?_ GE355.out) | exact HB.out)) hb)
            have z_HO387 := fun (h0_ : b 4 = true) => (show Kd.N (Kd.slice 32 k32) 23 w43 w.heap.size (fun k_ => k_ ≠ gb355) v386 y385 from by first | exact (Kd.N_below (by (with_reducible repeat (first | apply Kd.N_alloc | apply Kd.N_drewN | apply Kd.N_drew)); exact (Q_HO387 h0_)) hb) | exact Kd.N_mono (Kd.N_below (by (with_reducible repeat (first | apply Kd.N_alloc | apply Kd.N_drewN | apply Kd.N_drew)); exact (Q_HO387 h0_)) hb) (fun _ h_ => by first | trivial | exact h_ | exact h_.1))
            clear HO_7
            clear HO_8
            clear HO381
            clear BK355
            clear HB
            have HO_7 := n0_
            have HO_8 := n1_
            have HO381 := n2_
            have HO384 := n3_
            have BK355 := n4_
            have HB := n5_
            clear n0_ n1_ n2_ n3_ n4_ n5_
            (try clear hb)
            (try clear hb2)
            (try clear hk)
            (try clear hi)
            (try clear ho0)
            refine hK.out _ _ ⟨.slice Ao42 y379.length co42, v383, v386, v389, v392, v395, v398, (by rw [ha.out]; exact putSel_upk 1 hb_ rfl rfl rfl), (by (with_reducible repeat (first | apply Kd.V_alloc | apply Kd.V_drewN | apply Kd.V_drew)); exact HO_7.out), (by (with_reducible repeat (first | apply Kd.V_alloc | apply Kd.V_drewN | apply Kd.V_drew)); exact HO_8.out), (by (with_reducible repeat (first | refine blk_drewN ?_ _ | refine blk_drew ?_ | refine blk_alloc ?_ _)); exact BK355.out), (by repeat (first | (with_reducible first | exact HB.out | apply below_alloc | apply pw_below_drewN | apply below_drew1 | refine below_set ?_ GE355.out) | exact HB.out)), fun _ => (by (with_reducible repeat (first | apply Kd.N_alloc | apply Kd.N_drewN | apply Kd.N_drew)); exact HO381.out), fun _ => (by (with_reducible repeat (first | apply Kd.V_alloc | apply Kd.V_drewN | apply Kd.V_drew)); exact HO384.out), z_HO387, fun h0_ => absurd ((hoff 5 (by kernel_rfl)).symm.trans h0_) (by decide), fun h0_ => absurd ((hoff 6 (by kernel_rfl)).symm.trans h0_) (by decide), fun h0_ => absurd ((hoff 7 (by kernel_rfl)).symm.trans h0_) (by decide), fun h0_ => absurd ((hoff 9 (by kernel_rfl)).symm.trans h0_) (by decide)⟩
          refine steps_cons ?_ ?_
          · rintro b a w' ⟨v380, v383, v386, v389, v392, v395, v398, ha, Q_HO_7, Q_HO_8, Q_BK355, Q_HB, Q_HO381, Q_HO384, Q_HO387, Q_HO390, Q_HO393, Q_HO396, Q_HO399⟩ hb_ hon hoff
            refine ⟨_, rfl, fun K hK => ?_⟩
            have e39 : a.tmps[39]? = some (.slice Ao37 t359.length co37) := by rw [ha]; exact (putSel_off rfl).trans rfl
            replace ha := Aside0.mk ha
            have HO_7 := Aside0.mk Q_HO_7
            have HO_8 := Aside0.mk Q_HO_8
            have BK355 := Aside0.mk Q_BK355
            have HB := Aside0.mk Q_HB
            refine Kd.N_lit_step (Kd.slice 32 k32) _ 23 ?hg (N' := 40) ?hd (xs := ([t359] : List (List (S32)))) (inner := [.slice Ao37 t359.length co37]) (ok := (fun k_ => k_ ≠ gb355)) (okp := (fun k_ => k_ ≠ gb355)) ?hr ?hp (fun _ hk => hk) ((show ∀ k_, w'.heap.size ≤ k_ → (fun k_ => k_ ≠ gb355) k_ from fun k_ hk => Kd.freshB (g := gb355) (o := .cells #[.int .i64 a2_0, .int .i64 a2_1, .int .i64 a2_2] 45 (0, 0)) (by (with_reducible repeat (first | refine blk_drewN ?_ _ | refine blk_drew ?_ | refine blk_alloc ?_ _)); exact BK355.out) k_ hk) _ (Nat.le_refl _)) (Below.refl _ _) (Nat.le_refl _) (by simp) ?_; (case hd => rfl); (case hg => rfl); (case hr => first | (go_simp; done) | (go_simp; rfl)); (case hp => exact (Reps.one (show Kd.FK (Kd.slice 32 k32) _ _ t359 [.slice Ao37 t359.length co37] from (Kd.FK_slice_mk (Kd.V_reads' (Kd.V_mono (ok' := (fun k_ => k_ ≠ gb355)) (HO_8.out) (fun k_ hk => hk))).2.1 (Kd.V_F (Kd.V_mono (ok' := (fun k_ => k_ ≠ gb355)) (HO_8.out) (fun k_ hk => hk))))) (Reps.none _ _)))
            intro v386 w39 ho40 hb hg_ hnew_
            clear hg_ hnew_
            (first | rw [← Ny385.out] at ho40 | (simp only [Int.reduceToNat] at ho40; rw [← Ny385.out] at ho40))
            have n0_ := Aside0.mk (Kd.V_elder' (by (with_reducible repeat (first | apply Kd.V_alloc | apply Kd.V_drewN | apply Kd.V_drew)); exact HO_7.out) (by first | exact Kd.N_base ho40 | exact Kd.S_base ho40 | exact Kd.R_base ho40) hb)
            have n1_ := Aside0.mk (Kd.V_elder' (by (with_reducible repeat (first | apply Kd.V_alloc | apply Kd.V_drewN | apply Kd.V_drew)); exact HO_8.out) (by first | exact Kd.N_base ho40 | exact Kd.S_base ho40 | exact Kd.R_base ho40) hb)
            have n2_ := Aside0.mk (Kd.N_lower ho40 (below_size (by repeat (first | (with_reducible first | exact HB.out | apply below_alloc | apply pw_below_drewN | apply below_drew1 | refine below_set ?_ GE355.out) | exact HB.out))))
            have n3_ := Aside0.mk (blk_below (g := gb355) (o := .cells #[.int .i64 a2_0, .int .i64 a2_1, .int .i64 a2_2] 45 (0, 0)) (by (with_reducible repeat (first | refine blk_drewN ?_ _ | refine blk_drew ?_ | refine blk_alloc ?_ _)); exact BK355.out) hb)
            have n4_ := Aside0.mk (below_step (by repeat (first | (with_reducible first | exact HB.out | apply below_alloc | apply pw_below_drewN | apply below_drew1 | refine below_set ?_ GE355.out) | exact HB.out)) hb)
            have z_HO381 := fun (h0_ : b 1 = true) => (show Kd.N (Kd.slice 32 k32) 23 w39 w.heap.size (fun k_ => k_ ≠ gb355) v380 y379 from by first | exact (Kd.N_elder' (by (with_reducible repeat (first | apply Kd.N_alloc | apply Kd.N_drewN | apply Kd.N_drew)); exact (Q_HO381 h0_)) (by first | exact Kd.N_base ho40 | exact Kd.S_base ho40 | exact Kd.R_base ho40) hb) | exact Kd.N_mono (Kd.N_elder' (by (with_reducible repeat (first | apply Kd.N_alloc | apply Kd.N_drewN | apply Kd.N_drew)); exact (Q_HO381 h0_)) (by first | exact Kd.N_base ho40 | exact Kd.S_base ho40 | exact Kd.R_base ho40) hb) (fun _ h_ => by first | trivial | exact h_ | exact h_.1))
            have z_HO384 := fun (h0_ : b 2 = true) => (show Kd.V k32 32 w39 w.heap.size (fun k_ => k_ ≠ gb355) v383 t382 from by first | exact (Kd.V_elder' (by (with_reducible repeat (first | apply Kd.V_alloc | apply Kd.V_drewN | apply Kd.V_drew)); exact (Q_HO384 h0_)) (by first | exact Kd.N_base ho40 | exact Kd.S_base ho40 | exact Kd.R_base ho40) hb) | exact Kd.V_mono (Kd.V_elder' (by (with_reducible repeat (first | apply Kd.V_alloc | apply Kd.V_drewN | apply Kd.V_drew)); exact (Q_HO384 h0_)) (by first | exact Kd.N_base ho40 | exact Kd.S_base ho40 | exact Kd.R_base ho40) hb) (fun _ h_ => by first | trivial | exact h_ | exact h_.1))
            clear HO_7
            clear HO_8
            clear BK355
            clear HB
            have HO_7 := n0_
            have HO_8 := n1_
            have HO387 := n2_
            have BK355 := n3_
            have HB := n4_
            clear n0_ n1_ n2_ n3_ n4_
            clear hb ho40
            refine hK.out _ _ ⟨v380, v383, v386, v389, v392, v395, v398, (by rw [ha.out]; exact putSel_upk 2 hb_ rfl rfl rfl), (by (with_reducible repeat (first | apply Kd.V_alloc | apply Kd.V_drewN | apply Kd.V_drew)); exact Kd.V_mono HO_7.out (fun _ hk => by first | exact ⟨hk.2, hk.1⟩ | exact hk.1 | exact hk)), (by (with_reducible repeat (first | apply Kd.V_alloc | apply Kd.V_drewN | apply Kd.V_drew)); exact Kd.V_mono HO_8.out (fun _ hk => by first | exact ⟨hk.2, hk.1⟩ | exact hk.1 | exact hk)), (by (with_reducible repeat (first | refine blk_drewN ?_ _ | refine blk_drew ?_ | refine blk_alloc ?_ _)); exact BK355.out), (by repeat (first | (with_reducible first | exact HB.out | apply below_alloc | apply pw_below_drewN | apply below_drew1 | refine below_set ?_ GE355.out) | exact HB.out)), z_HO381, z_HO384, fun _ => (by (with_reducible repeat (first | apply Kd.N_alloc | apply Kd.N_drewN | apply Kd.N_drew)); exact HO387.out), fun h0_ => absurd ((hoff 5 (by kernel_rfl)).symm.trans h0_) (by decide), fun h0_ => absurd ((hoff 6 (by kernel_rfl)).symm.trans h0_) (by decide), fun h0_ => absurd ((hoff 7 (by kernel_rfl)).symm.trans h0_) (by decide), fun h0_ => absurd ((hoff 9 (by kernel_rfl)).symm.trans h0_) (by decide)⟩
          refine steps_cons ?_ ?_
          · rintro b a w' ⟨v380, v383, v386, v389, v392, v395, v398, ha, Q_HO_7, Q_HO_8, Q_BK355, Q_HB, Q_HO381, Q_HO384, Q_HO387, Q_HO390, Q_HO393, Q_HO396, Q_HO399⟩ hb_ hon hoff
            refine ⟨_, rfl, fun K hK => ?_⟩
            have e40 : a.tmps[40]? = some (v386) := by rw [ha]; exact putSel_on (e := (4, 40, v386)) 2 rfl rfl (hon 4 (by kernel_rfl)) rfl
            replace ha := Aside0.mk ha
            have HO_7 := Aside0.mk Q_HO_7
            have HO_8 := Aside0.mk Q_HO_8
            have BK355 := Aside0.mk Q_BK355
            have HB := Aside0.mk Q_HB
            have HO381 := Aside0.mk (Q_HO381 (hon 1 (by kernel_rfl)))
            have HO384 := Aside0.mk (Q_HO384 (hon 2 (by kernel_rfl)))
            have HO387 := Aside0.mk (Q_HO387 (hon 4 (by kernel_rfl)))
            obtain ⟨Ao46, co46, eo46⟩ := Kd.N_slice HO387.out
            (first | subst eo46 | (injection eo46 with f1_ f2_ f3_; have f4_ := f1_.symm; have f5_ := f3_.symm; clear f1_ f2_ f3_; subst f4_; subst f5_))
            refine goes_ Tryd.func21 (by kernel_rfl) rfl #[.int .i64 10, .slice Ao46 y385.length co46] (by rfl) rfl rfl (by first | (simp only [List.map_toArray, List.map_cons, List.map_nil, Act.eval, Array.getD_eq_getD_getElem?, Option.getD_some, e40]; done) | (simp only [List.map_toArray, List.map_cons, List.map_nil, Act.eval, Array.getD_eq_getD_getElem?, Option.getD_some, e40]; rfl)) ?_
            with_reducible refine (foretellkeep_joined.calls kj5 10 _ _ y385 t388 _ ?side1 ?side2 A32.out).mono ?_
            (case side1 => repeat (first | exact (Kd.N_reads' HO387.out).2.2 | (with_reducible refine Kd.C_alloc ?_ _) | (with_reducible refine Kd.C_drewN ?_ _) | (with_reducible refine Kd.C_drew ?_)))
            (case side2 => exact (Kd.N_reads' HO387.out).2.1)
            rintro e w47 ⟨v389, rfl, ho0, hb⟩
            refine ⟨_, rfl, ?_⟩
            have n0_ := Aside0.mk (Kd.V_below (by (with_reducible repeat (first | apply Kd.V_alloc | apply Kd.V_drewN | apply Kd.V_drew)); exact HO_7.out) hb)
            have n1_ := Aside0.mk (Kd.V_below (by (with_reducible repeat (first | apply Kd.V_alloc | apply Kd.V_drewN | apply Kd.V_drew)); exact HO_8.out) hb)
            have n2_ := Aside0.mk (Kd.N_below (by (with_reducible repeat (first | apply Kd.N_alloc | apply Kd.N_drewN | apply Kd.N_drew)); exact HO381.out) hb)
            have n3_ := Aside0.mk (Kd.V_below (by (with_reducible repeat (first | apply Kd.V_alloc | apply Kd.V_drewN | apply Kd.V_drew)); exact HO384.out) hb)
            have n4_ := Aside0.mk (Kd.N_below (by (with_reducible repeat (first | apply Kd.N_alloc | apply Kd.N_drewN | apply Kd.N_drew)); exact HO387.out) hb)
            have n5_ := Aside0.mk (Kd.V_lower (Kd.V_mono (ok' := fun k_ => k_ ≠ gb355) (Kd.R_V (Kd.R_bound ho0)) (fun k_ hk_ => (Kd.freshB (g := gb355) (o := .cells #[.int .i64 a2_0, .int .i64 a2_1, .int .i64 a2_2] 45 (0, 0)) (by (with_reducible repeat (first | refine blk_drewN ?_ _ | refine blk_drew ?_ | refine blk_alloc ?_ _)); exact BK355.out) k_ hk_.2.1))) (below_size (by repeat (first | (with_reducible first | exact HB.out | apply below_alloc | apply pw_below_drewN | apply below_drew1 | refine below_set ?_ GE355.out) | exact HB.out))))
            have n6_ := Aside0.mk (blk_below (g := gb355) (o := .cells #[.int .i64 a2_0, .int .i64 a2_1, .int .i64 a2_2] 45 (0, 0)) (by (with_reducible repeat (first | refine blk_drewN ?_ _ | refine blk_drew ?_ | refine blk_alloc ?_ _)); exact BK355.out) hb)
            have n7_ := Aside0.mk (below_step (by repeat (first | (with_reducible first | exact HB.out | apply below_alloc | apply pw_below_drewN | apply below_drew1 | refine below_set ?_ GE355.out) | exact HB.out)) hb)
            clear HO_7
            clear HO_8
            clear HO381
            clear HO384
            clear HO387
            clear BK355
            clear HB
            have HO_7 := n0_
            have HO_8 := n1_
            have HO381 := n2_
            have HO384 := n3_
            have HO387 := n4_
            have HO390 := n5_
            have BK355 := n6_
            have HB := n7_
            clear n0_ n1_ n2_ n3_ n4_ n5_ n6_ n7_
            (try clear hb)
            (try clear hb2)
            (try clear hk)
            (try clear hi)
            (try clear ho0)
            refine hK.out _ _ ⟨v380, v383, .slice Ao46 y385.length co46, v389, v392, v395, v398, (by rw [ha.out]; exact putSel_upk 3 hb_ rfl rfl rfl), (by (with_reducible repeat (first | apply Kd.V_alloc | apply Kd.V_drewN | apply Kd.V_drew)); exact HO_7.out), (by (with_reducible repeat (first | apply Kd.V_alloc | apply Kd.V_drewN | apply Kd.V_drew)); exact HO_8.out), (by (with_reducible repeat (first | refine blk_drewN ?_ _ | refine blk_drew ?_ | refine blk_alloc ?_ _)); exact BK355.out), (by repeat (first | (with_reducible first | exact HB.out | apply below_alloc | apply pw_below_drewN | apply below_drew1 | refine below_set ?_ GE355.out) | exact HB.out)), fun _ => (by (with_reducible repeat (first | apply Kd.N_alloc | apply Kd.N_drewN | apply Kd.N_drew)); exact HO381.out), fun _ => (by (with_reducible repeat (first | apply Kd.V_alloc | apply Kd.V_drewN | apply Kd.V_drew)); exact HO384.out), fun _ => (by (with_reducible repeat (first | apply Kd.N_alloc | apply Kd.N_drewN | apply Kd.N_drew)); exact HO387.out), fun _ => (by (with_reducible repeat (first | apply Kd.V_alloc | apply Kd.V_drewN | apply Kd.V_drew)); exact HO390.out), fun h0_ => absurd ((hoff 6 (by kernel_rfl)).symm.trans h0_) (by decide), fun h0_ => absurd ((hoff 7 (by kernel_rfl)).symm.trans h0_) (by decide), fun h0_ => absurd ((hoff 9 (by kernel_rfl)).symm.trans h0_) (by decide)⟩
          refine steps_cons ?_ ?_
          · rintro b a w' ⟨v380, v383, v386, v389, v392, v395, v398, ha, Q_HO_7, Q_HO_8, Q_BK355, Q_HB, Q_HO381, Q_HO384, Q_HO387, Q_HO390, Q_HO393, Q_HO396, Q_HO399⟩ hb_ hon hoff
            refine ⟨_, rfl, fun K hK => ?_⟩
            have e38 : a.tmps[38]? = some (v383) := by rw [ha]; exact putSel_on (e := (2, 38, v383)) 1 rfl rfl (hon 2 (by kernel_rfl)) rfl
            have e41 : a.tmps[41]? = some (v389) := by rw [ha]; exact putSel_on (e := (5, 41, v389)) 3 rfl rfl (hon 5 (by kernel_rfl)) rfl
            replace ha := Aside0.mk ha
            have HO_7 := Aside0.mk Q_HO_7
            have HO_8 := Aside0.mk Q_HO_8
            have BK355 := Aside0.mk Q_BK355
            have HB := Aside0.mk Q_HB
            have HO381 := Aside0.mk (Q_HO381 (hon 1 (by kernel_rfl)))
            have HO384 := Aside0.mk (Q_HO384 (hon 2 (by kernel_rfl)))
            have HO387 := Aside0.mk (Q_HO387 (hon 4 (by kernel_rfl)))
            have HO390 := Aside0.mk (Q_HO390 (hon 5 (by kernel_rfl)))
            obtain ⟨Ao48, co48, eo48⟩ := Kd.V_slice HO384.out
            (first | subst eo48 | (injection eo48 with f1_ f2_ f3_; have f4_ := f1_.symm; have f5_ := f3_.symm; clear f1_ f2_ f3_; subst f4_; subst f5_))
            obtain ⟨Ao49, co49, eo49⟩ := Kd.V_slice HO390.out
            (first | subst eo49 | (injection eo49 with f1_ f2_ f3_; have f4_ := f1_.symm; have f5_ := f3_.symm; clear f1_ f2_ f3_; subst f4_; subst f5_))
            refine Kd.N_lit_step (Kd.slice 32 k32) _ 23 ?hg (N' := 42) ?hd (xs := ([t382, t388] : List (List (S32)))) (inner := [.slice Ao48 t382.length co48, .slice Ao49 t388.length co49]) (ok := (fun k_ => k_ ≠ gb355)) (okp := (fun k_ => k_ ≠ gb355)) ?hr ?hp (fun _ hk => hk) ((show ∀ k_, w'.heap.size ≤ k_ → (fun k_ => k_ ≠ gb355) k_ from fun k_ hk => Kd.freshB (g := gb355) (o := .cells #[.int .i64 a2_0, .int .i64 a2_1, .int .i64 a2_2] 45 (0, 0)) (by (with_reducible repeat (first | refine blk_drewN ?_ _ | refine blk_drew ?_ | refine blk_alloc ?_ _)); exact BK355.out) k_ hk) _ (Nat.le_refl _)) (Below.refl _ _) (Nat.le_refl _) (by simp) ?_; (case hd => rfl); (case hg => rfl); (case hr => first | (go_simp; done) | (go_simp; rfl)); (case hp => exact (Reps.one (show Kd.FK (Kd.slice 32 k32) _ _ t382 [.slice Ao48 t382.length co48] from (Kd.FK_slice_mk (Kd.V_reads' (Kd.V_mono (ok' := (fun k_ => k_ ≠ gb355)) (HO384.out) (fun k_ hk => by first | exact hk.2 | exact hk))).2.1 (Kd.V_F (Kd.V_mono (ok' := (fun k_ => k_ ≠ gb355)) (HO384.out) (fun k_ hk => by first | exact hk.2 | exact hk))))) (Reps.one (show Kd.FK (Kd.slice 32 k32) _ _ t388 [.slice Ao49 t388.length co49] from (Kd.FK_slice_mk (Kd.V_reads' (Kd.V_mono (ok' := (fun k_ => k_ ≠ gb355)) (HO390.out) (fun k_ hk => hk))).2.1 (Kd.V_F (Kd.V_mono (ok' := (fun k_ => k_ ≠ gb355)) (HO390.out) (fun k_ hk => hk))))) (Reps.none _ _))))
            intro v392 w50 ho51 hb hg_ hnew_
            clear hg_ hnew_
            (first | rw [← Ny391.out] at ho51 | (simp only [Int.reduceToNat] at ho51; rw [← Ny391.out] at ho51))
            have n0_ := Aside0.mk (Kd.V_elder' (by (with_reducible repeat (first | apply Kd.V_alloc | apply Kd.V_drewN | apply Kd.V_drew)); exact HO_7.out) (by first | exact Kd.N_base ho51 | exact Kd.S_base ho51 | exact Kd.R_base ho51) hb)
            have n1_ := Aside0.mk (Kd.V_elder' (by (with_reducible repeat (first | apply Kd.V_alloc | apply Kd.V_drewN | apply Kd.V_drew)); exact HO_8.out) (by first | exact Kd.N_base ho51 | exact Kd.S_base ho51 | exact Kd.R_base ho51) hb)
            have n2_ := Aside0.mk (Kd.N_elder' (by (with_reducible repeat (first | apply Kd.N_alloc | apply Kd.N_drewN | apply Kd.N_drew)); exact HO381.out) (by first | exact Kd.N_base ho51 | exact Kd.S_base ho51 | exact Kd.R_base ho51) hb)
            have n3_ := Aside0.mk (Kd.V_elder' (by (with_reducible repeat (first | apply Kd.V_alloc | apply Kd.V_drewN | apply Kd.V_drew)); exact HO384.out) (by first | exact Kd.N_base ho51 | exact Kd.S_base ho51 | exact Kd.R_base ho51) hb)
            have n4_ := Aside0.mk (Kd.N_elder' (by (with_reducible repeat (first | apply Kd.N_alloc | apply Kd.N_drewN | apply Kd.N_drew)); exact HO387.out) (by first | exact Kd.N_base ho51 | exact Kd.S_base ho51 | exact Kd.R_base ho51) hb)
            have n5_ := Aside0.mk (Kd.V_elder' (by (with_reducible repeat (first | apply Kd.V_alloc | apply Kd.V_drewN | apply Kd.V_drew)); exact HO390.out) (by first | exact Kd.N_base ho51 | exact Kd.S_base ho51 | exact Kd.R_base ho51) hb)
            have n6_ := Aside0.mk (Kd.N_lower ho51 (below_size (by repeat (first | (with_reducible first | exact HB.out | apply below_alloc | apply pw_below_drewN | apply below_drew1 | refine below_set ?_ GE355.out) | exact HB.out))))
            have n7_ := Aside0.mk (blk_below (g := gb355) (o := .cells #[.int .i64 a2_0, .int .i64 a2_1, .int .i64 a2_2] 45 (0, 0)) (by (with_reducible repeat (first | refine blk_drewN ?_ _ | refine blk_drew ?_ | refine blk_alloc ?_ _)); exact BK355.out) hb)
            have n8_ := Aside0.mk (below_step (by repeat (first | (with_reducible first | exact HB.out | apply below_alloc | apply pw_below_drewN | apply below_drew1 | refine below_set ?_ GE355.out) | exact HB.out)) hb)
            clear HO_7
            clear HO_8
            clear HO381
            clear HO384
            clear HO387
            clear HO390
            clear BK355
            clear HB
            have HO_7 := n0_
            have HO_8 := n1_
            have HO381 := n2_
            have HO384 := n3_
            have HO387 := n4_
            have HO390 := n5_
            have HO393 := n6_
            have BK355 := n7_
            have HB := n8_
            clear n0_ n1_ n2_ n3_ n4_ n5_ n6_ n7_ n8_
            clear hb ho51
            refine hK.out _ _ ⟨v380, .slice Ao48 t382.length co48, v386, .slice Ao49 t388.length co49, v392, v395, v398, (by rw [ha.out]; exact putSel_upk 4 hb_ rfl rfl rfl), (by (with_reducible repeat (first | apply Kd.V_alloc | apply Kd.V_drewN | apply Kd.V_drew)); exact Kd.V_mono HO_7.out (fun _ hk => by first | exact ⟨hk.1.1, ⟨hk.1.2.1, ⟨hk.2, hk.1.2.2⟩⟩⟩ | exact hk.1 | exact hk)), (by (with_reducible repeat (first | apply Kd.V_alloc | apply Kd.V_drewN | apply Kd.V_drew)); exact Kd.V_mono HO_8.out (fun _ hk => by first | exact ⟨hk.1.1, ⟨hk.1.2.1, ⟨hk.2, hk.1.2.2⟩⟩⟩ | exact hk.1 | exact hk)), (by (with_reducible repeat (first | refine blk_drewN ?_ _ | refine blk_drew ?_ | refine blk_alloc ?_ _)); exact BK355.out), (by repeat (first | (with_reducible first | exact HB.out | apply below_alloc | apply pw_below_drewN | apply below_drew1 | refine below_set ?_ GE355.out) | exact HB.out)), fun _ => (by (with_reducible repeat (first | apply Kd.N_alloc | apply Kd.N_drewN | apply Kd.N_drew)); exact Kd.N_mono HO381.out (fun _ hk => by first | exact ⟨hk.1.1, ⟨hk.2, hk.1.2⟩⟩ | exact hk.1 | exact hk)), fun _ => (by (with_reducible repeat (first | apply Kd.V_alloc | apply Kd.V_drewN | apply Kd.V_drew)); exact Kd.V_mono HO384.out (fun _ hk => by first | exact ⟨hk.1.1, ⟨hk.2, hk.1.2⟩⟩ | exact hk.1 | exact hk)), fun _ => (by (with_reducible repeat (first | apply Kd.N_alloc | apply Kd.N_drewN | apply Kd.N_drew)); exact Kd.N_mono HO387.out (fun _ hk => by first | exact ⟨hk.1.1, ⟨hk.2, hk.1.2⟩⟩ | exact hk.1 | exact hk)), fun _ => (by (with_reducible repeat (first | apply Kd.V_alloc | apply Kd.V_drewN | apply Kd.V_drew)); exact Kd.V_mono HO390.out (fun _ hk => by first | exact ⟨hk.2, hk.1⟩ | exact hk.1 | exact hk)), fun _ => (by (with_reducible repeat (first | apply Kd.N_alloc | apply Kd.N_drewN | apply Kd.N_drew)); exact HO393.out), fun h0_ => absurd ((hoff 7 (by kernel_rfl)).symm.trans h0_) (by decide), fun h0_ => absurd ((hoff 9 (by kernel_rfl)).symm.trans h0_) (by decide)⟩
          refine steps_cons ?_ ?_
          · rintro b a w' ⟨v380, v383, v386, v389, v392, v395, v398, ha, Q_HO_7, Q_HO_8, Q_BK355, Q_HB, Q_HO381, Q_HO384, Q_HO387, Q_HO390, Q_HO393, Q_HO396, Q_HO399⟩ hb_ hon hoff
            refine ⟨_, rfl, fun K hK => ?_⟩
            have e42 : a.tmps[42]? = some (v392) := by rw [ha]; exact putSel_on (e := (6, 42, v392)) 4 rfl rfl (hon 6 (by kernel_rfl)) rfl
            replace ha := Aside0.mk ha
            have HO_7 := Aside0.mk Q_HO_7
            have HO_8 := Aside0.mk Q_HO_8
            have BK355 := Aside0.mk Q_BK355
            have HB := Aside0.mk Q_HB
            have HO381 := Aside0.mk (Q_HO381 (hon 1 (by kernel_rfl)))
            have HO384 := Aside0.mk (Q_HO384 (hon 2 (by kernel_rfl)))
            have HO387 := Aside0.mk (Q_HO387 (hon 4 (by kernel_rfl)))
            have HO390 := Aside0.mk (Q_HO390 (hon 5 (by kernel_rfl)))
            have HO393 := Aside0.mk (Q_HO393 (hon 6 (by kernel_rfl)))
            obtain ⟨Ao52, co52, eo52⟩ := Kd.N_slice HO393.out
            (first | subst eo52 | (injection eo52 with f1_ f2_ f3_; have f4_ := f1_.symm; have f5_ := f3_.symm; clear f1_ f2_ f3_; subst f4_; subst f5_))
            refine goes_ Tryd.func21 (by kernel_rfl) rfl #[.int .i64 9, .slice Ao52 y391.length co52] (by rfl) rfl rfl (by first | (simp only [List.map_toArray, List.map_cons, List.map_nil, Act.eval, Array.getD_eq_getD_getElem?, Option.getD_some, e42]; done) | (simp only [List.map_toArray, List.map_cons, List.map_nil, Act.eval, Array.getD_eq_getD_getElem?, Option.getD_some, e42]; rfl)) ?_
            with_reducible refine (foretellkeep_joined.calls kj5 9 _ _ y391 t394 _ ?side1 ?side2 A33.out).mono ?_
            (case side1 => repeat (first | exact (Kd.N_reads' HO393.out).2.2 | (with_reducible refine Kd.C_alloc ?_ _) | (with_reducible refine Kd.C_drewN ?_ _) | (with_reducible refine Kd.C_drew ?_)))
            (case side2 => exact (Kd.N_reads' HO393.out).2.1)
            rintro e w53 ⟨v395, rfl, ho0, hb⟩
            refine ⟨_, rfl, ?_⟩
            have n0_ := Aside0.mk (Kd.V_below (by (with_reducible repeat (first | apply Kd.V_alloc | apply Kd.V_drewN | apply Kd.V_drew)); exact HO_7.out) hb)
            have n1_ := Aside0.mk (Kd.V_below (by (with_reducible repeat (first | apply Kd.V_alloc | apply Kd.V_drewN | apply Kd.V_drew)); exact HO_8.out) hb)
            have n2_ := Aside0.mk (Kd.N_below (by (with_reducible repeat (first | apply Kd.N_alloc | apply Kd.N_drewN | apply Kd.N_drew)); exact HO381.out) hb)
            have n3_ := Aside0.mk (Kd.V_below (by (with_reducible repeat (first | apply Kd.V_alloc | apply Kd.V_drewN | apply Kd.V_drew)); exact HO384.out) hb)
            have n4_ := Aside0.mk (Kd.N_below (by (with_reducible repeat (first | apply Kd.N_alloc | apply Kd.N_drewN | apply Kd.N_drew)); exact HO387.out) hb)
            have n5_ := Aside0.mk (Kd.V_below (by (with_reducible repeat (first | apply Kd.V_alloc | apply Kd.V_drewN | apply Kd.V_drew)); exact HO390.out) hb)
            have n6_ := Aside0.mk (Kd.N_below (by (with_reducible repeat (first | apply Kd.N_alloc | apply Kd.N_drewN | apply Kd.N_drew)); exact HO393.out) hb)
            have n7_ := Aside0.mk (Kd.V_lower (Kd.V_mono (ok' := fun k_ => k_ ≠ gb355) (Kd.R_V (Kd.R_bound ho0)) (fun k_ hk_ => (Kd.freshB (g := gb355) (o := .cells #[.int .i64 a2_0, .int .i64 a2_1, .int .i64 a2_2] 45 (0, 0)) (by (with_reducible repeat (first | refine blk_drewN ?_ _ | refine blk_drew ?_ | refine blk_alloc ?_ _)); exact BK355.out) k_ hk_.2.1))) (below_size (by repeat (first | (with_reducible first | exact HB.out | apply below_alloc | apply pw_below_drewN | apply below_drew1 | refine below_set ?_ GE355.out) | exact HB.out))))
            have n8_ := Aside0.mk (blk_below (g := gb355) (o := .cells #[.int .i64 a2_0, .int .i64 a2_1, .int .i64 a2_2] 45 (0, 0)) (by (with_reducible repeat (first | refine blk_drewN ?_ _ | refine blk_drew ?_ | refine blk_alloc ?_ _)); exact BK355.out) hb)
            have n9_ := Aside0.mk (below_step (by repeat (first | (with_reducible first | exact HB.out | apply below_alloc | apply pw_below_drewN | apply below_drew1 | refine below_set ?_ GE355.out) | exact HB.out)) hb)
            clear HO_7
            clear HO_8
            clear HO381
            clear HO384
            clear HO387
            clear HO390
            clear HO393
            clear BK355
            clear HB
            have HO_7 := n0_
            have HO_8 := n1_
            have HO381 := n2_
            have HO384 := n3_
            have HO387 := n4_
            have HO390 := n5_
            have HO393 := n6_
            have HO396 := n7_
            have BK355 := n8_
            have HB := n9_
            clear n0_ n1_ n2_ n3_ n4_ n5_ n6_ n7_ n8_ n9_
            (try clear hb)
            (try clear hb2)
            (try clear hk)
            (try clear hi)
            (try clear ho0)
            refine hK.out _ _ ⟨v380, v383, v386, v389, .slice Ao52 y391.length co52, v395, v398, (by rw [ha.out]; exact putSel_upk 5 hb_ rfl rfl rfl), (by (with_reducible repeat (first | apply Kd.V_alloc | apply Kd.V_drewN | apply Kd.V_drew)); exact HO_7.out), (by (with_reducible repeat (first | apply Kd.V_alloc | apply Kd.V_drewN | apply Kd.V_drew)); exact HO_8.out), (by (with_reducible repeat (first | refine blk_drewN ?_ _ | refine blk_drew ?_ | refine blk_alloc ?_ _)); exact BK355.out), (by repeat (first | (with_reducible first | exact HB.out | apply below_alloc | apply pw_below_drewN | apply below_drew1 | refine below_set ?_ GE355.out) | exact HB.out)), fun _ => (by (with_reducible repeat (first | apply Kd.N_alloc | apply Kd.N_drewN | apply Kd.N_drew)); exact HO381.out), fun _ => (by (with_reducible repeat (first | apply Kd.V_alloc | apply Kd.V_drewN | apply Kd.V_drew)); exact HO384.out), fun _ => (by (with_reducible repeat (first | apply Kd.N_alloc | apply Kd.N_drewN | apply Kd.N_drew)); exact HO387.out), fun _ => (by (with_reducible repeat (first | apply Kd.V_alloc | apply Kd.V_drewN | apply Kd.V_drew)); exact HO390.out), fun _ => (by (with_reducible repeat (first | apply Kd.N_alloc | apply Kd.N_drewN | apply Kd.N_drew)); exact HO393.out), fun _ => (by (with_reducible repeat (first | apply Kd.V_alloc | apply Kd.V_drewN | apply Kd.V_drew)); exact HO396.out), fun h0_ => absurd ((hoff 9 (by kernel_rfl)).symm.trans h0_) (by decide)⟩
          refine steps_cons ?_ ?_
          · rintro b a w' ⟨v380, v383, v386, v389, v392, v395, v398, ha, Q_HO_7, Q_HO_8, Q_BK355, Q_HB, Q_HO381, Q_HO384, Q_HO387, Q_HO390, Q_HO393, Q_HO396, Q_HO399⟩ hb_ hon hoff
            refine ⟨_, rfl, fun K hK => ?_⟩
            have e5 : a.tmps[5]? = some (.pointer (some ⟨gb355, 0, none⟩)) := by rw [ha]; exact (putSel_off rfl).trans rfl
            replace ha := Aside0.mk ha
            have HO_7 := Aside0.mk Q_HO_7
            have HO_8 := Aside0.mk Q_HO_8
            have BK355 := Aside0.mk Q_BK355
            have HB := Aside0.mk Q_HB
            have hc0_ : w'.cell? ⟨gb355, 0, none⟩ = some (.int .i64 a2_0) := (blk_cell BK355.out 0).trans rfl
            have hc1_ : w'.cell? ⟨gb355, 1, none⟩ = some (.int .i64 a2_1) := (blk_cell BK355.out 1).trans rfl
            have hc2_ : w'.cell? ⟨gb355, 2, none⟩ = some (.int .i64 a2_2) := (blk_cell BK355.out 2).trans rfl
            refine value_ (w1 := w') (v := .agg #[.int .i64 a2_0, .int .i64 a2_1, .int .i64 a2_2]) (by rfl) rfl ?_ ?_
            · go_simp
              (try simp only [i64_w])
              try rfl
            refine hK.out _ _ ⟨v380, v383, v386, v389, v392, v395, v398, (by rw [ha.out]; exact putSel_upk 6 hb_ rfl rfl rfl), Q_HO_7, Q_HO_8, Q_BK355, Q_HB, Q_HO381, Q_HO384, Q_HO387, Q_HO390, Q_HO393, Q_HO396, fun h0_ => absurd ((hoff 9 (by kernel_rfl)).symm.trans h0_) (by decide)⟩
          refine steps_cons ?_ ?_
          · rintro b a w' ⟨v380, v383, v386, v389, v392, v395, v398, ha, Q_HO_7, Q_HO_8, Q_BK355, Q_HB, Q_HO381, Q_HO384, Q_HO387, Q_HO390, Q_HO393, Q_HO396, Q_HO399⟩ hb_ hon hoff
            refine ⟨_, rfl, fun K hK => ?_⟩
            have e44 : a.tmps[44]? = some (.agg #[.int .i64 a2_0, .int .i64 a2_1, .int .i64 a2_2]) := by rw [ha]; exact putSel_on (e := (8, 44, .agg #[.int .i64 a2_0, .int .i64 a2_1, .int .i64 a2_2])) 6 rfl rfl (hon 8 (by kernel_rfl)) rfl
            replace ha := Aside0.mk ha
            have HO_7 := Aside0.mk Q_HO_7
            have HO_8 := Aside0.mk Q_HO_8
            have BK355 := Aside0.mk Q_BK355
            have HB := Aside0.mk Q_HB
            have HO381 := Aside0.mk (Q_HO381 (hon 1 (by kernel_rfl)))
            have HO384 := Aside0.mk (Q_HO384 (hon 2 (by kernel_rfl)))
            have HO387 := Aside0.mk (Q_HO387 (hon 4 (by kernel_rfl)))
            have HO390 := Aside0.mk (Q_HO390 (hon 5 (by kernel_rfl)))
            have HO393 := Aside0.mk (Q_HO393 (hon 6 (by kernel_rfl)))
            have HO396 := Aside0.mk (Q_HO396 (hon 7 (by kernel_rfl)))
            refine goes_ Tryd.func25 (by kernel_rfl) rfl #[.agg #[.int .i64 a2_0, .int .i64 a2_1, .int .i64 a2_2]] (by rfl) rfl rfl (by first | (simp only [List.map_toArray, List.map_cons, List.map_nil, Act.eval, Array.getD_eq_getD_getElem?, Option.getD_some, e44]; done) | (simp only [List.map_toArray, List.map_cons, List.map_nil, Act.eval, Array.getD_eq_getD_getElem?, Option.getD_some, e44]; rfl)) ?_
            with_reducible refine (foretellkeep_env.calls a2_0 a2_1 a2_2 t397 _ A34.out).mono ?_
            rintro e w54 ⟨v398, rfl, ho0, hb⟩
            refine ⟨_, rfl, ?_⟩
            have n0_ := Aside0.mk (Kd.V_below (by (with_reducible repeat (first | apply Kd.V_alloc | apply Kd.V_drewN | apply Kd.V_drew)); exact HO_7.out) hb)
            have n1_ := Aside0.mk (Kd.V_below (by (with_reducible repeat (first | apply Kd.V_alloc | apply Kd.V_drewN | apply Kd.V_drew)); exact HO_8.out) hb)
            have n2_ := Aside0.mk (Kd.N_below (by (with_reducible repeat (first | apply Kd.N_alloc | apply Kd.N_drewN | apply Kd.N_drew)); exact HO381.out) hb)
            have n3_ := Aside0.mk (Kd.V_below (by (with_reducible repeat (first | apply Kd.V_alloc | apply Kd.V_drewN | apply Kd.V_drew)); exact HO384.out) hb)
            have n4_ := Aside0.mk (Kd.N_below (by (with_reducible repeat (first | apply Kd.N_alloc | apply Kd.N_drewN | apply Kd.N_drew)); exact HO387.out) hb)
            have n5_ := Aside0.mk (Kd.V_below (by (with_reducible repeat (first | apply Kd.V_alloc | apply Kd.V_drewN | apply Kd.V_drew)); exact HO390.out) hb)
            have n6_ := Aside0.mk (Kd.N_below (by (with_reducible repeat (first | apply Kd.N_alloc | apply Kd.N_drewN | apply Kd.N_drew)); exact HO393.out) hb)
            have n7_ := Aside0.mk (Kd.V_below (by (with_reducible repeat (first | apply Kd.V_alloc | apply Kd.V_drewN | apply Kd.V_drew)); exact HO396.out) hb)
            have n8_ := Aside0.mk (Kd.V_lower (Kd.V_mono (ok' := fun k_ => k_ ≠ gb355) (Kd.R_V (Kd.R_bound ho0)) (fun k_ hk_ => (Kd.freshB (g := gb355) (o := .cells #[.int .i64 a2_0, .int .i64 a2_1, .int .i64 a2_2] 45 (0, 0)) (by (with_reducible repeat (first | refine blk_drewN ?_ _ | refine blk_drew ?_ | refine blk_alloc ?_ _)); exact BK355.out) k_ hk_.2.1))) (below_size (by repeat (first | (with_reducible first | exact HB.out | apply below_alloc | apply pw_below_drewN | apply below_drew1 | refine below_set ?_ GE355.out) | exact HB.out))))
            have n9_ := Aside0.mk (blk_below (g := gb355) (o := .cells #[.int .i64 a2_0, .int .i64 a2_1, .int .i64 a2_2] 45 (0, 0)) (by (with_reducible repeat (first | refine blk_drewN ?_ _ | refine blk_drew ?_ | refine blk_alloc ?_ _)); exact BK355.out) hb)
            have n10_ := Aside0.mk (below_step (by repeat (first | (with_reducible first | exact HB.out | apply below_alloc | apply pw_below_drewN | apply below_drew1 | refine below_set ?_ GE355.out) | exact HB.out)) hb)
            clear HO_7
            clear HO_8
            clear HO381
            clear HO384
            clear HO387
            clear HO390
            clear HO393
            clear HO396
            clear BK355
            clear HB
            have HO_7 := n0_
            have HO_8 := n1_
            have HO381 := n2_
            have HO384 := n3_
            have HO387 := n4_
            have HO390 := n5_
            have HO393 := n6_
            have HO396 := n7_
            have HO399 := n8_
            have BK355 := n9_
            have HB := n10_
            clear n0_ n1_ n2_ n3_ n4_ n5_ n6_ n7_ n8_ n9_ n10_
            (try clear hb)
            (try clear hb2)
            (try clear hk)
            (try clear hi)
            (try clear ho0)
            refine hK.out _ _ ⟨v380, v383, v386, v389, v392, v395, v398, (by rw [ha.out]; exact putSel_upk 7 hb_ rfl rfl rfl), (by (with_reducible repeat (first | apply Kd.V_alloc | apply Kd.V_drewN | apply Kd.V_drew)); exact HO_7.out), (by (with_reducible repeat (first | apply Kd.V_alloc | apply Kd.V_drewN | apply Kd.V_drew)); exact HO_8.out), (by (with_reducible repeat (first | refine blk_drewN ?_ _ | refine blk_drew ?_ | refine blk_alloc ?_ _)); exact BK355.out), (by repeat (first | (with_reducible first | exact HB.out | apply below_alloc | apply pw_below_drewN | apply below_drew1 | refine below_set ?_ GE355.out) | exact HB.out)), fun _ => (by (with_reducible repeat (first | apply Kd.N_alloc | apply Kd.N_drewN | apply Kd.N_drew)); exact HO381.out), fun _ => (by (with_reducible repeat (first | apply Kd.V_alloc | apply Kd.V_drewN | apply Kd.V_drew)); exact HO384.out), fun _ => (by (with_reducible repeat (first | apply Kd.N_alloc | apply Kd.N_drewN | apply Kd.N_drew)); exact HO387.out), fun _ => (by (with_reducible repeat (first | apply Kd.V_alloc | apply Kd.V_drewN | apply Kd.V_drew)); exact HO390.out), fun _ => (by (with_reducible repeat (first | apply Kd.N_alloc | apply Kd.N_drewN | apply Kd.N_drew)); exact HO393.out), fun _ => (by (with_reducible repeat (first | apply Kd.V_alloc | apply Kd.V_drewN | apply Kd.V_drew)); exact HO396.out), fun _ => (by (with_reducible repeat (first | apply Kd.V_alloc | apply Kd.V_drewN | apply Kd.V_drew)); exact HO399.out)⟩
          refine steps_cons ?_ ?_
          · rintro b a w' ⟨v380, v383, v386, v389, v392, v395, v398, ha, Q_HO_7, Q_HO_8, Q_BK355, Q_HB, Q_HO381, Q_HO384, Q_HO387, Q_HO390, Q_HO393, Q_HO396, Q_HO399⟩ hb_ hon hoff
            refine ⟨_, rfl, fun K hK => ?_⟩
            have e43 : a.tmps[43]? = some (v395) := by rw [ha]; exact putSel_on (e := (7, 43, v395)) 5 rfl rfl (hon 7 (by kernel_rfl)) rfl
            have e45 : a.tmps[45]? = some (v398) := by rw [ha]; exact putSel_on (e := (9, 45, v398)) 7 rfl rfl (hon 9 (by kernel_rfl)) rfl
            replace ha := Aside0.mk ha
            have HO_7 := Aside0.mk Q_HO_7
            have HO_8 := Aside0.mk Q_HO_8
            have BK355 := Aside0.mk Q_BK355
            have HB := Aside0.mk Q_HB
            have HO381 := Aside0.mk (Q_HO381 (hon 1 (by kernel_rfl)))
            have HO384 := Aside0.mk (Q_HO384 (hon 2 (by kernel_rfl)))
            have HO387 := Aside0.mk (Q_HO387 (hon 4 (by kernel_rfl)))
            have HO390 := Aside0.mk (Q_HO390 (hon 5 (by kernel_rfl)))
            have HO393 := Aside0.mk (Q_HO393 (hon 6 (by kernel_rfl)))
            have HO396 := Aside0.mk (Q_HO396 (hon 7 (by kernel_rfl)))
            have HO399 := Aside0.mk (Q_HO399 (hon 9 (by kernel_rfl)))
            obtain ⟨Ao55, co55, eo55⟩ := Kd.V_slice HO396.out
            (first | subst eo55 | (injection eo55 with f1_ f2_ f3_; have f4_ := f1_.symm; have f5_ := f3_.symm; clear f1_ f2_ f3_; subst f4_; subst f5_))
            obtain ⟨Ao56, co56, eo56⟩ := Kd.V_slice HO399.out
            (first | subst eo56 | (injection eo56 with f1_ f2_ f3_; have f4_ := f1_.symm; have f5_ := f3_.symm; clear f1_ f2_ f3_; subst f4_; subst f5_))
            refine goes_ Tryd.func24 (by kernel_rfl) rfl #[.slice Ao55 t394.length co55, .slice Ao56 t397.length co56] (by rfl) rfl rfl (by first | (simp only [List.map_toArray, List.map_cons, List.map_nil, Act.eval, Array.getD_eq_getD_getElem?, Option.getD_some, e43, e45]; done) | (simp only [List.map_toArray, List.map_cons, List.map_nil, Act.eval, Array.getD_eq_getD_getElem?, Option.getD_some, e43, e45]; rfl)) ?_
            with_reducible refine (expr_Eval.calls kj5 _ _ t394 _ _ t397 t400 t401 _ ?side1 ?side2 ?side3 ?side4 ?side5 A35.out).mono ?_
            (case side1 => repeat (first | exact (Kd.V_reads' HO396.out).2.2 | (with_reducible refine Kd.C_alloc ?_ _) | (with_reducible refine Kd.C_drewN ?_ _) | (with_reducible refine Kd.C_drew ?_)))
            (case side2 => exact (Kd.V_reads' HO396.out).2.1)
            (case side3 => repeat (first | exact (Kd.V_reads' HO399.out).2.2 | (with_reducible refine Kd.C_alloc ?_ _) | (with_reducible refine Kd.C_drewN ?_ _) | (with_reducible refine Kd.C_drew ?_)))
            (case side4 => exact (Kd.V_reads' HO399.out).2.1)
            (case side5 => first | exact hG_ | exact Glob.drewN hG_ _ | exact Glob.below hG_ (by repeat (first | (with_reducible first | exact HB.out | apply below_alloc | apply pw_below_drewN | apply below_drew1 | refine below_set ?_ GE355.out) | exact HB.out)))
            rintro e w57 ⟨rfl, hb⟩
            refine ⟨_, rfl, ?_⟩
            have n0_ := Aside0.mk (Kd.V_below (by (with_reducible repeat (first | apply Kd.V_alloc | apply Kd.V_drewN | apply Kd.V_drew)); exact HO_7.out) hb)
            have n1_ := Aside0.mk (Kd.V_below (by (with_reducible repeat (first | apply Kd.V_alloc | apply Kd.V_drewN | apply Kd.V_drew)); exact HO_8.out) hb)
            have n2_ := Aside0.mk (Kd.N_below (by (with_reducible repeat (first | apply Kd.N_alloc | apply Kd.N_drewN | apply Kd.N_drew)); exact HO381.out) hb)
            have n3_ := Aside0.mk (Kd.V_below (by (with_reducible repeat (first | apply Kd.V_alloc | apply Kd.V_drewN | apply Kd.V_drew)); exact HO384.out) hb)
            have n4_ := Aside0.mk (Kd.N_below (by (with_reducible repeat (first | apply Kd.N_alloc | apply Kd.N_drewN | apply Kd.N_drew)); exact HO387.out) hb)
            have n5_ := Aside0.mk (Kd.V_below (by (with_reducible repeat (first | apply Kd.V_alloc | apply Kd.V_drewN | apply Kd.V_drew)); exact HO390.out) hb)
            have n6_ := Aside0.mk (Kd.N_below (by (with_reducible repeat (first | apply Kd.N_alloc | apply Kd.N_drewN | apply Kd.N_drew)); exact HO393.out) hb)
            have n7_ := Aside0.mk (Kd.V_below (by (with_reducible repeat (first | apply Kd.V_alloc | apply Kd.V_drewN | apply Kd.V_drew)); exact HO396.out) hb)
            have n8_ := Aside0.mk (Kd.V_below (by (with_reducible repeat (first | apply Kd.V_alloc | apply Kd.V_drewN | apply Kd.V_drew)); exact HO399.out) hb)
            have n9_ := Aside0.mk (blk_below (g := gb355) (o := .cells #[.int .i64 a2_0, .int .i64 a2_1, .int .i64 a2_2] 45 (0, 0)) (by (with_reducible repeat (first | refine blk_drewN ?_ _ | refine blk_drew ?_ | refine blk_alloc ?_ _)); exact BK355.out) hb)
            have n10_ := Aside0.mk (below_step (by repeat (first | (with_reducible first | exact HB.out | apply below_alloc | apply pw_below_drewN | apply below_drew1 | refine below_set ?_ GE355.out) | exact HB.out)) hb)
            clear HO_7
            clear HO_8
            clear HO381
            clear HO384
            clear HO387
            clear HO390
            clear HO393
            clear HO396
            clear HO399
            clear BK355
            clear HB
            have HO_7 := n0_
            have HO_8 := n1_
            have HO381 := n2_
            have HO384 := n3_
            have HO387 := n4_
            have HO390 := n5_
            have HO393 := n6_
            have HO396 := n7_
            have HO399 := n8_
            have BK355 := n9_
            have HB := n10_
            clear n0_ n1_ n2_ n3_ n4_ n5_ n6_ n7_ n8_ n9_ n10_
            (try clear hb)
            (try clear hb2)
            (try clear hk)
            (try clear hi)
            refine hK.out _ _ ⟨v380, v383, v386, v389, v392, .slice Ao55 t394.length co55, .slice Ao56 t397.length co56, (by rw [ha.out]; exact putSel_upk 8 hb_ rfl rfl rfl), (by (with_reducible repeat (first | apply Kd.V_alloc | apply Kd.V_drewN | apply Kd.V_drew)); exact HO_7.out), (by (with_reducible repeat (first | apply Kd.V_alloc | apply Kd.V_drewN | apply Kd.V_drew)); exact HO_8.out), (by (with_reducible repeat (first | refine blk_drewN ?_ _ | refine blk_drew ?_ | refine blk_alloc ?_ _)); exact BK355.out), (by repeat (first | (with_reducible first | exact HB.out | apply below_alloc | apply pw_below_drewN | apply below_drew1 | refine below_set ?_ GE355.out) | exact HB.out)), fun _ => (by (with_reducible repeat (first | apply Kd.N_alloc | apply Kd.N_drewN | apply Kd.N_drew)); exact HO381.out), fun _ => (by (with_reducible repeat (first | apply Kd.V_alloc | apply Kd.V_drewN | apply Kd.V_drew)); exact HO384.out), fun _ => (by (with_reducible repeat (first | apply Kd.N_alloc | apply Kd.N_drewN | apply Kd.N_drew)); exact HO387.out), fun _ => (by (with_reducible repeat (first | apply Kd.V_alloc | apply Kd.V_drewN | apply Kd.V_drew)); exact HO390.out), fun _ => (by (with_reducible repeat (first | apply Kd.N_alloc | apply Kd.N_drewN | apply Kd.N_drew)); exact HO393.out), fun _ => (by (with_reducible repeat (first | apply Kd.V_alloc | apply Kd.V_drewN | apply Kd.V_drew)); exact HO396.out), fun _ => (by (with_reducible repeat (first | apply Kd.V_alloc | apply Kd.V_drewN | apply Kd.V_drew)); exact HO399.out)⟩
          refine steps_cons ?_ ?_
          · rintro b a w' ⟨v380, v383, v386, v389, v392, v395, v398, ha, Q_HO_7, Q_HO_8, Q_BK355, Q_HB, Q_HO381, Q_HO384, Q_HO387, Q_HO390, Q_HO393, Q_HO396, Q_HO399⟩ hb_ hon hoff
            refine ⟨_, rfl, fun K hK => ?_⟩
            have e46 : a.tmps[46]? = some (.tuple #[.int .i64 t400, .int .i64 t401]) := by rw [ha]; exact putSel_on (e := (10, 46, .tuple #[.int .i64 t400, .int .i64 t401])) 8 rfl rfl (hon 10 (by kernel_rfl)) rfl
            replace ha := Aside0.mk ha
            have HO_7 := Aside0.mk Q_HO_7
            have HO_8 := Aside0.mk Q_HO_8
            have BK355 := Aside0.mk Q_BK355
            have HB := Aside0.mk Q_HB
            have HO381 := Aside0.mk (Q_HO381 (hon 1 (by kernel_rfl)))
            have HO384 := Aside0.mk (Q_HO384 (hon 2 (by kernel_rfl)))
            have HO387 := Aside0.mk (Q_HO387 (hon 4 (by kernel_rfl)))
            have HO390 := Aside0.mk (Q_HO390 (hon 5 (by kernel_rfl)))
            have HO393 := Aside0.mk (Q_HO393 (hon 6 (by kernel_rfl)))
            have HO396 := Aside0.mk (Q_HO396 (hon 7 (by kernel_rfl)))
            have HO399 := Aside0.mk (Q_HO399 (hon 9 (by kernel_rfl)))
            refine value_ (w1 := w') (v := .tuple #[.int .i64 t400, .int .i64 t401]) (by rfl) rfl ?_ ?_
            · go_simp
              (try simp only [i64_w])
              try rfl
            refine hK.out _ _ ⟨v380, v383, v386, v389, v392, v395, v398, (by rw [ha.out]; exact putSel_upk 9 hb_ rfl rfl rfl), Q_HO_7, Q_HO_8, Q_BK355, Q_HB, Q_HO381, Q_HO384, Q_HO387, Q_HO390, Q_HO393, Q_HO396, Q_HO399⟩
          refine steps_cons ?_ ?_
          · rintro b a w' ⟨v380, v383, v386, v389, v392, v395, v398, ha, Q_HO_7, Q_HO_8, Q_BK355, Q_HB, Q_HO381, Q_HO384, Q_HO387, Q_HO390, Q_HO393, Q_HO396, Q_HO399⟩ hb_ hon hoff
            refine ⟨_, rfl, fun K hK => ?_⟩
            have e35 : a.tmps[35]? = some (.tuple #[.int .i64 t400, .int .i64 t401]) := by rw [ha]; exact putSel_on (e := (11, 35, .tuple #[.int .i64 t400, .int .i64 t401])) 9 rfl rfl (hon 11 (by kernel_rfl)) rfl
            replace ha := Aside0.mk ha
            have HO_7 := Aside0.mk Q_HO_7
            have HO_8 := Aside0.mk Q_HO_8
            have BK355 := Aside0.mk Q_BK355
            have HB := Aside0.mk Q_HB
            have HO381 := Aside0.mk (Q_HO381 (hon 1 (by kernel_rfl)))
            have HO384 := Aside0.mk (Q_HO384 (hon 2 (by kernel_rfl)))
            have HO387 := Aside0.mk (Q_HO387 (hon 4 (by kernel_rfl)))
            have HO390 := Aside0.mk (Q_HO390 (hon 5 (by kernel_rfl)))
            have HO393 := Aside0.mk (Q_HO393 (hon 6 (by kernel_rfl)))
            have HO396 := Aside0.mk (Q_HO396 (hon 7 (by kernel_rfl)))
            have HO399 := Aside0.mk (Q_HO399 (hon 9 (by kernel_rfl)))
            refine value_ (w1 := w') (v := .int .i64 t400) (by rfl) rfl ?_ ?_
            · go_simp
              (try simp only [i64_w])
              try rfl
            refine hK.out _ _ ⟨v380, v383, v386, v389, v392, v395, v398, (by rw [ha.out]; exact putSel_upk 10 hb_ rfl rfl rfl), Q_HO_7, Q_HO_8, Q_BK355, Q_HB, Q_HO381, Q_HO384, Q_HO387, Q_HO390, Q_HO393, Q_HO396, Q_HO399⟩
          refine steps_cons ?_ ?_
          · rintro b a w' ⟨v380, v383, v386, v389, v392, v395, v398, ha, Q_HO_7, Q_HO_8, Q_BK355, Q_HB, Q_HO381, Q_HO384, Q_HO387, Q_HO390, Q_HO393, Q_HO396, Q_HO399⟩ hb_ hon hoff
            refine ⟨_, rfl, fun K hK => ?_⟩
            have e35 : a.tmps[35]? = some (.tuple #[.int .i64 t400, .int .i64 t401]) := by rw [ha]; exact putSel_on (e := (11, 35, .tuple #[.int .i64 t400, .int .i64 t401])) 9 rfl rfl (hon 11 (by kernel_rfl)) rfl
            replace ha := Aside0.mk ha
            have HO_7 := Aside0.mk Q_HO_7
            have HO_8 := Aside0.mk Q_HO_8
            have BK355 := Aside0.mk Q_BK355
            have HB := Aside0.mk Q_HB
            have HO381 := Aside0.mk (Q_HO381 (hon 1 (by kernel_rfl)))
            have HO384 := Aside0.mk (Q_HO384 (hon 2 (by kernel_rfl)))
            have HO387 := Aside0.mk (Q_HO387 (hon 4 (by kernel_rfl)))
            have HO390 := Aside0.mk (Q_HO390 (hon 5 (by kernel_rfl)))
            have HO393 := Aside0.mk (Q_HO393 (hon 6 (by kernel_rfl)))
            have HO396 := Aside0.mk (Q_HO396 (hon 7 (by kernel_rfl)))
            have HO399 := Aside0.mk (Q_HO399 (hon 9 (by kernel_rfl)))
            refine value_ (w1 := w') (v := .int .i64 t401) (by rfl) rfl ?_ ?_
            · go_simp
              (try simp only [i64_w])
              try rfl
            refine hK.out _ _ ⟨v380, v383, v386, v389, v392, v395, v398, (by rw [ha.out]; exact putSel_upk 11 hb_ rfl rfl rfl), Q_HO_7, Q_HO_8, Q_BK355, Q_HB, Q_HO381, Q_HO384, Q_HO387, Q_HO390, Q_HO393, Q_HO396, Q_HO399⟩
          refine steps_cons ?_ ?_
          · rintro b a w' ⟨v380, v383, v386, v389, v392, v395, v398, ha, Q_HO_7, Q_HO_8, Q_BK355, Q_HB, Q_HO381, Q_HO384, Q_HO387, Q_HO390, Q_HO393, Q_HO396, Q_HO399⟩ hb_ hon hoff
            refine ⟨_, rfl, fun K hK => ?_⟩
            have e47 : a.tmps[47]? = some (.int .i64 t400) := by rw [ha]; exact putSel_on (e := (12, 47, .int .i64 t400)) 10 rfl rfl (hon 12 (by kernel_rfl)) rfl
            replace ha := Aside0.mk ha
            have HO_7 := Aside0.mk Q_HO_7
            have HO_8 := Aside0.mk Q_HO_8
            have BK355 := Aside0.mk Q_BK355
            have HB := Aside0.mk Q_HB
            have HO381 := Aside0.mk (Q_HO381 (hon 1 (by kernel_rfl)))
            have HO384 := Aside0.mk (Q_HO384 (hon 2 (by kernel_rfl)))
            have HO387 := Aside0.mk (Q_HO387 (hon 4 (by kernel_rfl)))
            have HO390 := Aside0.mk (Q_HO390 (hon 5 (by kernel_rfl)))
            have HO393 := Aside0.mk (Q_HO393 (hon 6 (by kernel_rfl)))
            have HO396 := Aside0.mk (Q_HO396 (hon 7 (by kernel_rfl)))
            have HO399 := Aside0.mk (Q_HO399 (hon 9 (by kernel_rfl)))
            refine value_ (w1 := w') (v := .int .i64 t400) (by rfl) rfl ?_ ?_
            · go_simp
              (try simp only [i64_w])
              try rfl
            refine hK.out _ _ ⟨v380, v383, v386, v389, v392, v395, v398, (by rw [ha.out]; exact putSel_upk 12 hb_ rfl rfl rfl), Q_HO_7, Q_HO_8, Q_BK355, Q_HB, Q_HO381, Q_HO384, Q_HO387, Q_HO390, Q_HO393, Q_HO396, Q_HO399⟩
          refine steps_cons ?_ ?_
          · rintro b a w' ⟨v380, v383, v386, v389, v392, v395, v398, ha, Q_HO_7, Q_HO_8, Q_BK355, Q_HB, Q_HO381, Q_HO384, Q_HO387, Q_HO390, Q_HO393, Q_HO396, Q_HO399⟩ hb_ hon hoff
            refine ⟨_, rfl, fun K hK => ?_⟩
            have e48 : a.tmps[48]? = some (.int .i64 t401) := by rw [ha]; exact putSel_on (e := (13, 48, .int .i64 t401)) 11 rfl rfl (hon 13 (by kernel_rfl)) rfl
            replace ha := Aside0.mk ha
            have HO_7 := Aside0.mk Q_HO_7
            have HO_8 := Aside0.mk Q_HO_8
            have BK355 := Aside0.mk Q_BK355
            have HB := Aside0.mk Q_HB
            have HO381 := Aside0.mk (Q_HO381 (hon 1 (by kernel_rfl)))
            have HO384 := Aside0.mk (Q_HO384 (hon 2 (by kernel_rfl)))
            have HO387 := Aside0.mk (Q_HO387 (hon 4 (by kernel_rfl)))
            have HO390 := Aside0.mk (Q_HO390 (hon 5 (by kernel_rfl)))
            have HO393 := Aside0.mk (Q_HO393 (hon 6 (by kernel_rfl)))
            have HO396 := Aside0.mk (Q_HO396 (hon 7 (by kernel_rfl)))
            have HO399 := Aside0.mk (Q_HO399 (hon 9 (by kernel_rfl)))
            refine value_ (w1 := w') (v := .int .i64 t401) (by rfl) rfl ?_ ?_
            · go_simp
              (try simp only [i64_w])
              try rfl
            refine hK.out _ _ ⟨v380, v383, v386, v389, v392, v395, v398, (by rw [ha.out]; exact putSel_upk 13 hb_ rfl rfl rfl), Q_HO_7, Q_HO_8, Q_BK355, Q_HB, Q_HO381, Q_HO384, Q_HO387, Q_HO390, Q_HO393, Q_HO396, Q_HO399⟩
          exact steps_nil
        rintro b a w57 hall ⟨v380, v383, v386, v389, v392, v395, v398, ha, Q_HO_7, Q_HO_8, Q_BK355, Q_HB, Q_HO381, Q_HO384, Q_HO387, Q_HO390, Q_HO393, Q_HO396, Q_HO399⟩
        clear BK355 HB HO_7 HO_8
        have hb1_ := hall 1 (by kernel_rfl)
        have hb2_ := hall 2 (by kernel_rfl)
        have hb4_ := hall 4 (by kernel_rfl)
        have hb5_ := hall 5 (by kernel_rfl)
        have hb6_ := hall 6 (by kernel_rfl)
        have hb7_ := hall 7 (by kernel_rfl)
        have hb8_ := hall 8 (by kernel_rfl)
        have hb9_ := hall 9 (by kernel_rfl)
        have hb10_ := hall 10 (by kernel_rfl)
        have hb11_ := hall 11 (by kernel_rfl)
        have hb12_ := hall 12 (by kernel_rfl)
        have hb13_ := hall 13 (by kernel_rfl)
        have hb14_ := hall 14 (by kernel_rfl)
        have hb15_ := hall 15 (by kernel_rfl)
        subst ha
        simp only [putSel, hb1_, hb2_, hb4_, hb5_, hb6_, hb7_, hb8_, hb9_, hb10_, hb11_, hb12_, hb13_, hb14_, hb15_, if_true, Act.put, List.setIfInBounds_toArray, List.set_cons_zero, List.set_cons_succ]
        have HO_7 := Aside0.mk Q_HO_7
        clear Q_HO_7
        have HO_8 := Aside0.mk Q_HO_8
        clear Q_HO_8
        have BK355 := Aside0.mk Q_BK355
        clear Q_BK355
        have HB := Aside0.mk Q_HB
        clear Q_HB
        have HO381 := Aside0.mk (Q_HO381 hb1_)
        clear Q_HO381
        have HO384 := Aside0.mk (Q_HO384 hb2_)
        clear Q_HO384
        have HO387 := Aside0.mk (Q_HO387 hb4_)
        clear Q_HO387
        have HO390 := Aside0.mk (Q_HO390 hb5_)
        clear Q_HO390
        have HO393 := Aside0.mk (Q_HO393 hb6_)
        clear Q_HO393
        have HO396 := Aside0.mk (Q_HO396 hb7_)
        clear Q_HO396
        have HO399 := Aside0.mk (Q_HO399 hb9_)
        clear Q_HO399
        clear hall hb1_ hb2_ hb4_ hb5_ hb6_ hb7_ hb8_ hb9_ hb10_ hb11_ hb12_ hb13_ hb14_ hb15_
        try go_wp2
        go_meet
        case rel => exact ⟨_, (t400), (t401), (by first | rfl | (simp; done) | (simp [*]; done)), (by first | rfl | (simp; done) | (simp [*]; done)), H', ⟨by have := HJ5.out; first | omega | exact Nat.le_refl _⟩, ⟨by (with_reducible repeat (first | apply Kd.V_alloc | apply Kd.V_drewN | apply Kd.V_drew)); exact Kd.V_mono HO_7.out (fun _ hk => by first | exact hk.2.2.2 | exact hk)⟩, ⟨by (with_reducible repeat (first | apply Kd.V_alloc | apply Kd.V_drewN | apply Kd.V_drew)); exact Kd.V_mono HO_8.out (fun _ hk => by first | exact hk.2.2.2 | exact hk)⟩, ⟨by (with_reducible repeat (first | refine blk_drewN ?_ _ | refine blk_drew ?_ | refine blk_alloc ?_ _)); exact BK355.out⟩, ⟨by repeat (first | (with_reducible first | exact HB.out | apply below_alloc | apply pw_below_drewN | apply below_drew1 | refine below_set ?_ GE355.out) | exact HB.out)⟩⟩
      case rest =>
        clear HC30
        try clear c1
        try clear c2
        try clear p2
        try clear c21
        try clear c24
        try clear c25
        obtain ⟨kq, x11_29, x12_29, rfl, rfl, HA, HJ29, HO_7, HO_8, BK355, HB⟩ := hcut
        cases kq with
        | zero => exact absurd HA.out (by simp [foretellkeep_EvalLogic.j1])
        | succ kj29 =>
          have H := HA.out
          clear HA
          simp only [foretellkeep_EvalLogic.j1] at H
          have HC58 := Aside0.mk H
          clear H
          go_upto_region 5 with (fail)
          go_cut [13, 14] (fun v13 v14 wc => ∃ (kq : Nat) (x13_57 : Int) (x14_57 : Int), v13 = .int .i64 x13_57 ∧ v14 = .int .i64 x14_57 ∧ Aside0 (foretellkeep_EvalLogic.j2 kq t356 t359 x9_5 x10_5 x11_29 x12_29 x13_57 x14_57 a2_0 a2_1 a2_2 = some r) ∧ Aside0 (kq ≤ kj29) ∧ Aside0 (Kd.V k32 32 wc w.heap.size (fun k_ => k_ ≠ gb355) v357 t356) ∧ Aside0 (Kd.V k32 32 wc w.heap.size (fun k_ => k_ ≠ gb355) v360 t359) ∧ Aside0 (wc.heap[gb355]? = some (.cells #[.int .i64 a2_0, .int .i64 a2_1, .int .i64 a2_2] 45 (0, 0))) ∧ Aside0 (Below w.heap.size w wc))
          case first =>
            have H := HC58.out
            clear HC58
            obtain ⟨y402, hy402⟩ : ∃ y_ : List (List (S32)), y_ = (([t356, t359] : List (List (S32)))) := ⟨_, rfl⟩
            replace H : ((foretellkeep_joined.f kj29 9 y402).bind fun t405 => ((foretellkeep_env.f a2_0 a2_1 a2_2).bind fun t408 => ((expr_Eval.f kj29 t405 t408).bind fun bt411 => (foretellkeep_EvalLogic.j2 kj29 t356 t359 x9_5 x10_5 x11_29 x12_29 bt411.1 bt411.2 a2_0 a2_1 a2_2)))) = some r := by first | (rw [hy402]; with_reducible exact H) | (have H2_ := (Option.bind_some _ _).symm.trans H; rw [hy402]; with_reducible exact H2_) | (have H2_ := (Option.bind_some _ _).symm.trans H; with_reducible exact H2_) | with_reducible exact H | (rw [hy402]; exact H) | exact H
            have Ny402 := Aside0.mk hy402
            clear hy402
            replace H := Option.bind_eq_some_iff.mp H
            obtain ⟨t405, A590, H⟩ := H
            replace H : ((foretellkeep_env.f a2_0 a2_1 a2_2).bind fun t408 => ((expr_Eval.f kj29 t405 t408).bind fun bt411 => (foretellkeep_EvalLogic.j2 kj29 t356 t359 x9_5 x10_5 x11_29 x12_29 bt411.1 bt411.2 a2_0 a2_1 a2_2))) = some r := H
            have A59 := Aside0.mk A590
            clear A590
            replace H := Option.bind_eq_some_iff.mp H
            obtain ⟨t408, A600, H⟩ := H
            replace H : ((expr_Eval.f kj29 t405 t408).bind fun bt411 => (foretellkeep_EvalLogic.j2 kj29 t356 t359 x9_5 x10_5 x11_29 x12_29 bt411.1 bt411.2 a2_0 a2_1 a2_2)) = some r := H
            have A60 := Aside0.mk A600
            clear A600
            replace H := Option.bind_eq_some_iff.mp H
            obtain ⟨⟨t411, t412⟩, A610, H⟩ := H
            replace H : (foretellkeep_EvalLogic.j2 kj29 t356 t359 x9_5 x10_5 x11_29 x12_29 t411 t412 a2_0 a2_1 a2_2) = some r := H
            have A61 := Aside0.mk A610
            clear A610
            have H' := Aside0.mk H
            clear H
            obtain ⟨Ao62, co62, eo62⟩ := Kd.V_slice HO_7.out
            subst eo62
            obtain ⟨Ao63, co63, eo63⟩ := Kd.V_slice HO_8.out
            subst eo63
            try go_wp2
            have n0_ := Aside0.mk (Kd.V_drew HO_7.out)
            have n1_ := Aside0.mk (Kd.V_drew HO_8.out)
            have n2_ := Aside0.mk (blk_drew BK355.out)
            have n3_ := Aside0.mk (below_drew1 HB.out)
            clear HO_7
            clear HO_8
            clear BK355
            clear HB
            have HO_7 := n0_
            have HO_8 := n1_
            have BK355 := n2_
            have HB := n3_
            clear n0_ n1_ n2_ n3_
            refine start_ (n := 12) (S := fun w' => w'.cell? ⟨gb355, 0, none⟩ = some (.int .i64 a2_0) ∧ w'.cell? ⟨gb355, 1, none⟩ = some (.int .i64 a2_1) ∧ w'.cell? ⟨gb355, 2, none⟩ = some (.int .i64 a2_2)) (ds := []) #[false, false, false, false, false, false, false, false, false, false, false, false] (by kernel_rfl) rfl rfl ⟨(blk_cell BK355.out 0).trans rfl, (blk_cell BK355.out 1).trans rfl, (blk_cell BK355.out 2).trans rfl⟩ (fun hHeld => ?_); refine with_tabW foretellkeep_EvalLogic.tab5 foretellkeep_EvalLogic.bits5 (fun HT_ HW_ => ?_)
            generalize wc.drew = w64 at HO_7 HO_8 BK355 HB hHeld ⊢
            refine pure_ (i := 0) (N := some 50) (v := ?_) (a' := ?_) #[true, false, false, false, false, false, false, false, false, false, false, false] rfl rfl (any_of HT_.out (by kernel_rfl)) (fun _ _ _ h => h) (Or.inl ⟨by rfl, ?_⟩) ?_ ?_
            rotate_left
            · intro w'
              go_simp
              with_reducible rfl
            rotate_left
            · simp only [Act.put, List.setIfInBounds_toArray, List.set_cons_zero, List.set_cons_succ, i64_w, i32_w]
              rfl
            refine pure_ (i := 1) (N := some 51) (v := ?_) (a' := ?_) #[true, true, false, false, false, false, false, false, false, false, false, false] rfl rfl (any_of HT_.out (by kernel_rfl)) (fun _ _ _ h => h) (Or.inl ⟨by rfl, ?_⟩) ?_ ?_
            rotate_left
            · intro w'
              go_simp
              with_reducible rfl
            rotate_left
            · simp only [Act.put, List.setIfInBounds_toArray, List.set_cons_zero, List.set_cons_succ, i64_w, i32_w]
              rfl
            refine take_ (i := 4) (N := some 54) (v := ?_) (a' := ?_) #[true, true, false, false, true, false, false, false, false, false, false, false] rfl rfl (take_ofW HT_.out HW_.out (by kernel_rfl)) (fun _ _ _ h => h) (Or.inl ⟨by rfl, ?_⟩) hHeld ?_ ?_
            rotate_left
            · rintro w' ⟨s0, s1, s2⟩
              go_simp
              with_reducible rfl
            rotate_left
            · simp only [Act.put, List.setIfInBounds_toArray, List.set_cons_zero, List.set_cons_succ, i64_w, i32_w]
              rfl
            refine one_ (i := 2) (N := some 52) #[true, true, true, false, true, false, false, false, false, false, false, false] rfl rfl (one_of HT_.out (by kernel_rfl)) (by decide) (fun K hK => ?_)
            refine Kd.N_lit_step (Kd.slice 32 k32) _ 23 ?hg (N' := 52) ?hd (xs := ([t356, t359] : List (List (S32)))) (inner := [.slice Ao62 t356.length co62, .slice Ao63 t359.length co63]) (ok := (fun k_ => k_ ≠ gb355)) (okp := (fun k_ => k_ ≠ gb355)) ?hr ?hp (fun _ hk => hk) ((show ∀ k_, w64.heap.size ≤ k_ → (fun k_ => k_ ≠ gb355) k_ from fun k_ hk => Kd.freshB (g := gb355) (o := .cells #[.int .i64 a2_0, .int .i64 a2_1, .int .i64 a2_2] 45 (0, 0)) (by (with_reducible repeat (first | refine blk_drewN ?_ _ | refine blk_drew ?_ | refine blk_alloc ?_ _)); exact BK355.out) k_ hk) _ (Nat.le_refl _)) (Below.refl _ _) (Nat.le_refl _) (by simp) ?_; (case hd => rfl); (case hg => rfl); (case hr => first | (go_simp; done) | (go_simp; rfl)); (case hp => exact (Reps.one (show Kd.FK (Kd.slice 32 k32) _ _ t356 [.slice Ao62 t356.length co62] from (Kd.FK_slice_mk (Kd.V_reads' (Kd.V_mono (ok' := (fun k_ => k_ ≠ gb355)) (HO_7.out) (fun k_ hk => hk))).2.1 (Kd.V_F (Kd.V_mono (ok' := (fun k_ => k_ ≠ gb355)) (HO_7.out) (fun k_ hk => hk))))) (Reps.one (show Kd.FK (Kd.slice 32 k32) _ _ t359 [.slice Ao63 t359.length co63] from (Kd.FK_slice_mk (Kd.V_reads' (Kd.V_mono (ok' := (fun k_ => k_ ≠ gb355)) (HO_8.out) (fun k_ hk => hk))).2.1 (Kd.V_F (Kd.V_mono (ok' := (fun k_ => k_ ≠ gb355)) (HO_8.out) (fun k_ hk => hk))))) (Reps.none _ _))))
            intro v403 w65 ho66 hb hg_ hnew_
            clear hg_ hnew_
            (first | rw [← Ny402.out] at ho66 | (simp only [Int.reduceToNat] at ho66; rw [← Ny402.out] at ho66))
            have n0_ := Aside0.mk (Kd.V_elder' (by (with_reducible repeat (first | apply Kd.V_alloc | apply Kd.V_drewN | apply Kd.V_drew)); exact HO_7.out) (by first | exact Kd.N_base ho66 | exact Kd.S_base ho66 | exact Kd.R_base ho66) hb)
            have n1_ := Aside0.mk (Kd.V_elder' (by (with_reducible repeat (first | apply Kd.V_alloc | apply Kd.V_drewN | apply Kd.V_drew)); exact HO_8.out) (by first | exact Kd.N_base ho66 | exact Kd.S_base ho66 | exact Kd.R_base ho66) hb)
            have n2_ := Aside0.mk (Kd.N_lower ho66 (below_size (by repeat (first | (with_reducible first | exact HB.out | apply below_alloc | apply pw_below_drewN | apply below_drew1 | refine below_set ?_ GE355.out) | exact HB.out))))
            have n3_ := Aside0.mk (blk_below (g := gb355) (o := .cells #[.int .i64 a2_0, .int .i64 a2_1, .int .i64 a2_2] 45 (0, 0)) (by (with_reducible repeat (first | refine blk_drewN ?_ _ | refine blk_drew ?_ | refine blk_alloc ?_ _)); exact BK355.out) hb)
            have n4_ := Aside0.mk (below_step (by repeat (first | (with_reducible first | exact HB.out | apply below_alloc | apply pw_below_drewN | apply below_drew1 | refine below_set ?_ GE355.out) | exact HB.out)) hb)
            clear HO_7
            clear HO_8
            clear BK355
            clear HB
            have HO_7 := n0_
            have HO_8 := n1_
            have HO404 := n2_
            have BK355 := n3_
            have HB := n4_
            clear n0_ n1_ n2_ n3_ n4_
            clear hb ho66
            obtain ⟨Ao67, co67, eo67⟩ := Kd.N_slice HO404.out
            (first | subst eo67 | (injection eo67 with f1_ f2_ f3_; have f4_ := f1_.symm; have f5_ := f3_.symm; clear f1_ f2_ f3_; subst f4_; subst f5_))
            refine hK.out _ _ ⟨(blk_cell BK355.out 0).trans rfl, (blk_cell BK355.out 1).trans rfl, (blk_cell BK355.out 2).trans rfl⟩ (fun hHeld => ?_)
            clear hK K
            refine norm_ (a' := ?_) ?_ ?_
            rotate_left
            · show Act.put _ (some 52) _ = _
              simp only [Act.put, List.setIfInBounds_toArray, List.set_cons_zero, List.set_cons_succ, i64_w, i32_w]
              rfl
            refine one_ (i := 3) (N := some 53) #[true, true, true, true, true, false, false, false, false, false, false, false] rfl rfl (one_of HT_.out (by kernel_rfl)) (by decide) (fun K hK => ?_)
            refine goes_ Tryd.func21 (by kernel_rfl) rfl #[.int .i64 9, .slice Ao67 y402.length co67] (by rfl) rfl rfl (by (try simp only [List.map_toArray, List.map_cons, List.map_nil]); first | done | rfl | (simp only [List.length_drop, List.length_take]; rfl)) ?_
            with_reducible refine (foretellkeep_joined.calls kj29 9 _ _ y402 t405 _ ?side1 ?side2 A59.out).mono ?_
            (case side1 => repeat (first | exact (Kd.N_reads' HO404.out).2.2 | (with_reducible refine Kd.C_alloc ?_ _) | (with_reducible refine Kd.C_drewN ?_ _) | (with_reducible refine Kd.C_drew ?_)))
            (case side2 => exact (Kd.N_reads' HO404.out).2.1)
            rintro e w68 ⟨v406, rfl, ho0, hb⟩
            refine ⟨_, rfl, ?_⟩
            have n0_ := Aside0.mk (Kd.V_below (by (with_reducible repeat (first | apply Kd.V_alloc | apply Kd.V_drewN | apply Kd.V_drew)); exact HO_7.out) hb)
            have n1_ := Aside0.mk (Kd.V_below (by (with_reducible repeat (first | apply Kd.V_alloc | apply Kd.V_drewN | apply Kd.V_drew)); exact HO_8.out) hb)
            have n2_ := Aside0.mk (Kd.N_below (by (with_reducible repeat (first | apply Kd.N_alloc | apply Kd.N_drewN | apply Kd.N_drew)); exact HO404.out) hb)
            have n3_ := Aside0.mk (Kd.V_lower (Kd.V_mono (ok' := fun k_ => k_ ≠ gb355) (Kd.R_V (Kd.R_bound ho0)) (fun k_ hk_ => (Kd.freshB (g := gb355) (o := .cells #[.int .i64 a2_0, .int .i64 a2_1, .int .i64 a2_2] 45 (0, 0)) (by (with_reducible repeat (first | refine blk_drewN ?_ _ | refine blk_drew ?_ | refine blk_alloc ?_ _)); exact BK355.out) k_ hk_.2.1))) (below_size (by repeat (first | (with_reducible first | exact HB.out | apply below_alloc | apply pw_below_drewN | apply below_drew1 | refine below_set ?_ GE355.out) | exact HB.out))))
            have n4_ := Aside0.mk (blk_below (g := gb355) (o := .cells #[.int .i64 a2_0, .int .i64 a2_1, .int .i64 a2_2] 45 (0, 0)) (by (with_reducible repeat (first | refine blk_drewN ?_ _ | refine blk_drew ?_ | refine blk_alloc ?_ _)); exact BK355.out) hb)
            have n5_ := Aside0.mk (below_step (by repeat (first | (with_reducible first | exact HB.out | apply below_alloc | apply pw_below_drewN | apply below_drew1 | refine below_set ?_ GE355.out) | exact HB.out)) hb)
            clear HO_7
            clear HO_8
            clear HO404
            clear BK355
            clear HB
            have HO_7 := n0_
            have HO_8 := n1_
            have HO404 := n2_
            have HO407 := n3_
            have BK355 := n4_
            have HB := n5_
            clear n0_ n1_ n2_ n3_ n4_ n5_
            (try clear hb)
            (try clear hb2)
            (try clear hk)
            (try clear hi)
            (try clear ho0)
            refine hK.out _ _ ⟨(blk_cell BK355.out 0).trans rfl, (blk_cell BK355.out 1).trans rfl, (blk_cell BK355.out 2).trans rfl⟩ (fun hHeld => ?_)
            clear hK K
            refine norm_ (a' := ?_) ?_ ?_
            rotate_left
            · show Act.put _ (some 53) _ = _
              simp only [Act.put, List.setIfInBounds_toArray, List.set_cons_zero, List.set_cons_succ, i64_w, i32_w]
              rfl
            refine one_ (i := 5) (N := some 55) #[true, true, true, true, true, true, false, false, false, false, false, false] rfl rfl (one_of HT_.out (by kernel_rfl)) (by decide) (fun K hK => ?_)
            refine goes_ Tryd.func25 (by kernel_rfl) rfl #[.agg #[.int .i64 a2_0, .int .i64 a2_1, .int .i64 a2_2]] (by rfl) rfl rfl (by (try simp only [List.map_toArray, List.map_cons, List.map_nil]); first | done | rfl | (simp only [List.length_drop, List.length_take]; rfl)) ?_
            with_reducible refine (foretellkeep_env.calls a2_0 a2_1 a2_2 t408 _ A60.out).mono ?_
            rintro e w69 ⟨v409, rfl, ho0, hb⟩
            refine ⟨_, rfl, ?_⟩
            have n0_ := Aside0.mk (Kd.V_below (by (with_reducible repeat (first | apply Kd.V_alloc | apply Kd.V_drewN | apply Kd.V_drew)); exact HO_7.out) hb)
            have n1_ := Aside0.mk (Kd.V_below (by (with_reducible repeat (first | apply Kd.V_alloc | apply Kd.V_drewN | apply Kd.V_drew)); exact HO_8.out) hb)
            have n2_ := Aside0.mk (Kd.N_below (by (with_reducible repeat (first | apply Kd.N_alloc | apply Kd.N_drewN | apply Kd.N_drew)); exact HO404.out) hb)
            have n3_ := Aside0.mk (Kd.V_below (by (with_reducible repeat (first | apply Kd.V_alloc | apply Kd.V_drewN | apply Kd.V_drew)); exact HO407.out) hb)
            have n4_ := Aside0.mk (Kd.V_lower (Kd.V_mono (ok' := fun k_ => k_ ≠ gb355) (Kd.R_V (Kd.R_bound ho0)) (fun k_ hk_ => (Kd.freshB (g := gb355) (o := .cells #[.int .i64 a2_0, .int .i64 a2_1, .int .i64 a2_2] 45 (0, 0)) (by (with_reducible repeat (first | refine blk_drewN ?_ _ | refine blk_drew ?_ | refine blk_alloc ?_ _)); exact BK355.out) k_ hk_.2.1))) (below_size (by repeat (first | (with_reducible first | exact HB.out | apply below_alloc | apply pw_below_drewN | apply below_drew1 | refine below_set ?_ GE355.out) | exact HB.out))))
            have n5_ := Aside0.mk (blk_below (g := gb355) (o := .cells #[.int .i64 a2_0, .int .i64 a2_1, .int .i64 a2_2] 45 (0, 0)) (by (with_reducible repeat (first | refine blk_drewN ?_ _ | refine blk_drew ?_ | refine blk_alloc ?_ _)); exact BK355.out) hb)
            have n6_ := Aside0.mk (below_step (by repeat (first | (with_reducible first | exact HB.out | apply below_alloc | apply pw_below_drewN | apply below_drew1 | refine below_set ?_ GE355.out) | exact HB.out)) hb)
            clear HO_7
            clear HO_8
            clear HO404
            clear HO407
            clear BK355
            clear HB
            have HO_7 := n0_
            have HO_8 := n1_
            have HO404 := n2_
            have HO407 := n3_
            have HO410 := n4_
            have BK355 := n5_
            have HB := n6_
            clear n0_ n1_ n2_ n3_ n4_ n5_ n6_
            (try clear hb)
            (try clear hb2)
            (try clear hk)
            (try clear hi)
            (try clear ho0)
            obtain ⟨Ao70, co70, eo70⟩ := Kd.V_slice HO407.out
            (first | subst eo70 | (injection eo70 with f1_ f2_ f3_; have f4_ := f1_.symm; have f5_ := f3_.symm; clear f1_ f2_ f3_; subst f4_; subst f5_))
            obtain ⟨Ao71, co71, eo71⟩ := Kd.V_slice HO410.out
            (first | subst eo71 | (injection eo71 with f1_ f2_ f3_; have f4_ := f1_.symm; have f5_ := f3_.symm; clear f1_ f2_ f3_; subst f4_; subst f5_))
            refine hK.out _ _ ⟨(blk_cell BK355.out 0).trans rfl, (blk_cell BK355.out 1).trans rfl, (blk_cell BK355.out 2).trans rfl⟩ (fun hHeld => ?_)
            clear hK K
            refine norm_ (a' := ?_) ?_ ?_
            rotate_left
            · show Act.put _ (some 55) _ = _
              simp only [Act.put, List.setIfInBounds_toArray, List.set_cons_zero, List.set_cons_succ, i64_w, i32_w]
              rfl
            refine one_ (i := 6) (N := some 56) #[true, true, true, true, true, true, true, false, false, false, false, false] rfl rfl (one_of HT_.out (by kernel_rfl)) (by decide) (fun K hK => ?_)
            refine goes_ Tryd.func24 (by kernel_rfl) rfl #[.slice Ao70 t405.length co70, .slice Ao71 t408.length co71] (by rfl) rfl rfl (by (try simp only [List.map_toArray, List.map_cons, List.map_nil]); first | done | rfl | (simp only [List.length_drop, List.length_take]; rfl)) ?_
            with_reducible refine (expr_Eval.calls kj29 _ _ t405 _ _ t408 t411 t412 _ ?side1 ?side2 ?side3 ?side4 ?side5 A61.out).mono ?_
            (case side1 => repeat (first | exact (Kd.V_reads' HO407.out).2.2 | (with_reducible refine Kd.C_alloc ?_ _) | (with_reducible refine Kd.C_drewN ?_ _) | (with_reducible refine Kd.C_drew ?_)))
            (case side2 => exact (Kd.V_reads' HO407.out).2.1)
            (case side3 => repeat (first | exact (Kd.V_reads' HO410.out).2.2 | (with_reducible refine Kd.C_alloc ?_ _) | (with_reducible refine Kd.C_drewN ?_ _) | (with_reducible refine Kd.C_drew ?_)))
            (case side4 => exact (Kd.V_reads' HO410.out).2.1)
            (case side5 => first | exact hG_ | exact Glob.drewN hG_ _ | exact Glob.below hG_ (by repeat (first | (with_reducible first | exact HB.out | apply below_alloc | apply pw_below_drewN | apply below_drew1 | refine below_set ?_ GE355.out) | exact HB.out)))
            rintro e w72 ⟨rfl, hb⟩
            refine ⟨_, rfl, ?_⟩
            have n0_ := Aside0.mk (Kd.V_below (by (with_reducible repeat (first | apply Kd.V_alloc | apply Kd.V_drewN | apply Kd.V_drew)); exact HO_7.out) hb)
            have n1_ := Aside0.mk (Kd.V_below (by (with_reducible repeat (first | apply Kd.V_alloc | apply Kd.V_drewN | apply Kd.V_drew)); exact HO_8.out) hb)
            have n2_ := Aside0.mk (Kd.N_below (by (with_reducible repeat (first | apply Kd.N_alloc | apply Kd.N_drewN | apply Kd.N_drew)); exact HO404.out) hb)
            have n3_ := Aside0.mk (Kd.V_below (by (with_reducible repeat (first | apply Kd.V_alloc | apply Kd.V_drewN | apply Kd.V_drew)); exact HO407.out) hb)
            have n4_ := Aside0.mk (Kd.V_below (by (with_reducible repeat (first | apply Kd.V_alloc | apply Kd.V_drewN | apply Kd.V_drew)); exact HO410.out) hb)
            have n5_ := Aside0.mk (blk_below (g := gb355) (o := .cells #[.int .i64 a2_0, .int .i64 a2_1, .int .i64 a2_2] 45 (0, 0)) (by (with_reducible repeat (first | refine blk_drewN ?_ _ | refine blk_drew ?_ | refine blk_alloc ?_ _)); exact BK355.out) hb)
            have n6_ := Aside0.mk (below_step (by repeat (first | (with_reducible first | exact HB.out | apply below_alloc | apply pw_below_drewN | apply below_drew1 | refine below_set ?_ GE355.out) | exact HB.out)) hb)
            clear HO_7
            clear HO_8
            clear HO404
            clear HO407
            clear HO410
            clear BK355
            clear HB
            have HO_7 := n0_
            have HO_8 := n1_
            have HO404 := n2_
            have HO407 := n3_
            have HO410 := n4_
            have BK355 := n5_
            have HB := n6_
            clear n0_ n1_ n2_ n3_ n4_ n5_ n6_
            (try clear hb)
            (try clear hb2)
            (try clear hk)
            (try clear hi)
            refine hK.out _ _ ⟨(blk_cell BK355.out 0).trans rfl, (blk_cell BK355.out 1).trans rfl, (blk_cell BK355.out 2).trans rfl⟩ (fun hHeld => ?_)
            clear hK K
            refine norm_ (a' := ?_) ?_ ?_
            rotate_left
            · show Act.put _ (some 56) _ = _
              simp only [Act.put, List.setIfInBounds_toArray, List.set_cons_zero, List.set_cons_succ, i64_w, i32_w]
              rfl
            refine pure_ (i := 7) (N := some 49) (v := ?_) (a' := ?_) #[true, true, true, true, true, true, true, true, false, false, false, false] rfl rfl (any_of HT_.out (by kernel_rfl)) (fun _ _ _ h => h) (Or.inl ⟨by rfl, ?_⟩) ?_ ?_
            rotate_left
            · intro w'
              go_simp
              with_reducible rfl
            rotate_left
            · simp only [Act.put, List.setIfInBounds_toArray, List.set_cons_zero, List.set_cons_succ, i64_w, i32_w]
              rfl
            refine pure_ (i := 8) (N := some 57) (v := ?_) (a' := ?_) #[true, true, true, true, true, true, true, true, true, false, false, false] rfl rfl (any_of HT_.out (by kernel_rfl)) (fun _ _ _ h => h) (Or.inl ⟨by rfl, ?_⟩) ?_ ?_
            rotate_left
            · intro w'
              go_simp
              with_reducible rfl
            rotate_left
            · simp only [Act.put, List.setIfInBounds_toArray, List.set_cons_zero, List.set_cons_succ, i64_w, i32_w]
              rfl
            refine pure_ (i := 9) (N := some 58) (v := ?_) (a' := ?_) #[true, true, true, true, true, true, true, true, true, true, false, false] rfl rfl (any_of HT_.out (by kernel_rfl)) (fun _ _ _ h => h) (Or.inl ⟨by rfl, ?_⟩) ?_ ?_
            rotate_left
            · intro w'
              go_simp
              with_reducible rfl
            rotate_left
            · simp only [Act.put, List.setIfInBounds_toArray, List.set_cons_zero, List.set_cons_succ, i64_w, i32_w]
              rfl
            refine pure_ (i := 10) (N := some 13) (v := ?_) (a' := ?_) #[true, true, true, true, true, true, true, true, true, true, true, false] rfl rfl (any_of HT_.out (by kernel_rfl)) (fun _ _ _ h => h) (Or.inl ⟨by rfl, ?_⟩) ?_ ?_
            rotate_left
            · intro w'
              go_simp
              with_reducible rfl
            rotate_left
            · simp only [Act.put, List.setIfInBounds_toArray, List.set_cons_zero, List.set_cons_succ, i64_w, i32_w]
              rfl
            refine pure_ (i := 11) (N := some 14) (v := ?_) (a' := ?_) #[true, true, true, true, true, true, true, true, true, true, true, true] rfl rfl (any_of HT_.out (by kernel_rfl)) (fun _ _ _ h => h) (Or.inl ⟨by rfl, ?_⟩) ?_ ?_
            rotate_left
            · intro w'
              go_simp
              with_reducible rfl
            rotate_left
            · simp only [Act.put, List.setIfInBounds_toArray, List.set_cons_zero, List.set_cons_succ, i64_w, i32_w]
              rfl
            refine done_ (done_of HT_.out (by kernel_rfl)) ?_
            try go_wp2
            go_meet
            case rel => exact ⟨_, (t411), (t412), (by first | rfl | (simp; done) | (simp [*]; done)), (by first | rfl | (simp; done) | (simp [*]; done)), H', ⟨by have := HJ5.out; have := HJ29.out; first | omega | exact Nat.le_refl _⟩, ⟨by (with_reducible repeat (first | apply Kd.V_alloc | apply Kd.V_drewN | apply Kd.V_drew)); exact Kd.V_mono HO_7.out (fun _ hk => by first | exact hk.1 | exact hk)⟩, ⟨by (with_reducible repeat (first | apply Kd.V_alloc | apply Kd.V_drewN | apply Kd.V_drew)); exact Kd.V_mono HO_8.out (fun _ hk => by first | exact hk.1 | exact hk)⟩, ⟨by (with_reducible repeat (first | refine blk_drewN ?_ _ | refine blk_drew ?_ | refine blk_alloc ?_ _)); exact BK355.out⟩, ⟨by repeat (first | (with_reducible first | exact HB.out | apply below_alloc | apply pw_below_drewN | apply below_drew1 | refine below_set ?_ GE355.out) | exact HB.out)⟩⟩
          case rest =>
            clear HC58
            try clear c1
            try clear c2
            try clear p2
            try clear c21
            try clear c24
            try clear c25
            try clear p2
            obtain ⟨kq, x13_57, x14_57, rfl, rfl, HA, HJ57, HO_7, HO_8, BK355, HB⟩ := hcut
            cases kq with
            | zero => exact absurd HA.out (by simp [foretellkeep_EvalLogic.j2])
            | succ kj57 =>
              have H := HA.out
              clear HA
              simp only [foretellkeep_EvalLogic.j2] at H
              have HC73 := Aside0.mk H
              clear H
              go_upto_region 6 with (fail)
              go_cut [15, 16] (fun v15 v16 wc => ∃ (kq : Nat) (x15_72 : Int) (x16_72 : Int), v15 = .int .i64 x15_72 ∧ v16 = .int .i64 x16_72 ∧ Aside0 (foretellkeep_EvalLogic.j3 kq t356 x9_5 x10_5 x11_29 x12_29 x13_57 x14_57 x15_72 x16_72 a2_0 a2_1 a2_2 = some r) ∧ Aside0 (kq ≤ kj57) ∧ Aside0 (Kd.V k32 32 wc w.heap.size (fun k_ => k_ ≠ gb355) v357 t356) ∧ Aside0 (wc.heap[gb355]? = some (.cells #[.int .i64 a2_0, .int .i64 a2_1, .int .i64 a2_2] 45 (0, 0))) ∧ Aside0 (Below w.heap.size w wc))
              case first =>
                have H := HC73.out
                clear HC73
                obtain ⟨y413, hy413⟩ : ∃ y_ : List (List (S32)), y_ = (([t356] : List (List (S32)))) := ⟨_, rfl⟩
                replace H : ((foretellkeep_joined.f kj57 10 y413).bind fun t416 => ((foretellkeep_joined.f kj57 10 (([t359] : List (List (S32))))).bind fun t422 => ((foretellkeep_joined.f kj57 8 (([t416, t422] : List (List (S32))))).bind fun t428 => ((foretellkeep_joined.f kj57 10 (([t428] : List (List (S32))))).bind fun t434 => ((foretellkeep_env.f a2_0 a2_1 a2_2).bind fun t437 => ((expr_Eval.f kj57 t434 t437).bind fun bt440 => (foretellkeep_EvalLogic.j3 kj57 t356 x9_5 x10_5 x11_29 x12_29 x13_57 x14_57 bt440.1 bt440.2 a2_0 a2_1 a2_2))))))) = some r := by first | (rw [hy413]; with_reducible exact H) | (have H2_ := (Option.bind_some _ _).symm.trans H; rw [hy413]; with_reducible exact H2_) | (have H2_ := (Option.bind_some _ _).symm.trans H; with_reducible exact H2_) | with_reducible exact H | (rw [hy413]; exact H) | exact H
                have Ny413 := Aside0.mk hy413
                clear hy413
                replace H := Option.bind_eq_some_iff.mp H
                obtain ⟨t416, A740, H⟩ := H
                replace H : ((foretellkeep_joined.f kj57 10 (([t359] : List (List (S32))))).bind fun t422 => ((foretellkeep_joined.f kj57 8 (([t416, t422] : List (List (S32))))).bind fun t428 => ((foretellkeep_joined.f kj57 10 (([t428] : List (List (S32))))).bind fun t434 => ((foretellkeep_env.f a2_0 a2_1 a2_2).bind fun t437 => ((expr_Eval.f kj57 t434 t437).bind fun bt440 => (foretellkeep_EvalLogic.j3 kj57 t356 x9_5 x10_5 x11_29 x12_29 x13_57 x14_57 bt440.1 bt440.2 a2_0 a2_1 a2_2)))))) = some r := H
                have A74 := Aside0.mk A740
                clear A740
                obtain ⟨y419, hy419⟩ : ∃ y_ : List (List (S32)), y_ = (([t359] : List (List (S32)))) := ⟨_, rfl⟩
                replace H : ((foretellkeep_joined.f kj57 10 y419).bind fun t422 => ((foretellkeep_joined.f kj57 8 (([t416, t422] : List (List (S32))))).bind fun t428 => ((foretellkeep_joined.f kj57 10 (([t428] : List (List (S32))))).bind fun t434 => ((foretellkeep_env.f a2_0 a2_1 a2_2).bind fun t437 => ((expr_Eval.f kj57 t434 t437).bind fun bt440 => (foretellkeep_EvalLogic.j3 kj57 t356 x9_5 x10_5 x11_29 x12_29 x13_57 x14_57 bt440.1 bt440.2 a2_0 a2_1 a2_2)))))) = some r := by first | (rw [hy419]; with_reducible exact H) | (have H2_ := (Option.bind_some _ _).symm.trans H; rw [hy419]; with_reducible exact H2_) | (have H2_ := (Option.bind_some _ _).symm.trans H; with_reducible exact H2_) | with_reducible exact H | (rw [hy419]; exact H) | exact H
                have Ny419 := Aside0.mk hy419
                clear hy419
                replace H := Option.bind_eq_some_iff.mp H
                obtain ⟨t422, A750, H⟩ := H
                replace H : ((foretellkeep_joined.f kj57 8 (([t416, t422] : List (List (S32))))).bind fun t428 => ((foretellkeep_joined.f kj57 10 (([t428] : List (List (S32))))).bind fun t434 => ((foretellkeep_env.f a2_0 a2_1 a2_2).bind fun t437 => ((expr_Eval.f kj57 t434 t437).bind fun bt440 => (foretellkeep_EvalLogic.j3 kj57 t356 x9_5 x10_5 x11_29 x12_29 x13_57 x14_57 bt440.1 bt440.2 a2_0 a2_1 a2_2))))) = some r := H
                have A75 := Aside0.mk A750
                clear A750
                obtain ⟨y425, hy425⟩ : ∃ y_ : List (List (S32)), y_ = (([t416, t422] : List (List (S32)))) := ⟨_, rfl⟩
                replace H : ((foretellkeep_joined.f kj57 8 y425).bind fun t428 => ((foretellkeep_joined.f kj57 10 (([t428] : List (List (S32))))).bind fun t434 => ((foretellkeep_env.f a2_0 a2_1 a2_2).bind fun t437 => ((expr_Eval.f kj57 t434 t437).bind fun bt440 => (foretellkeep_EvalLogic.j3 kj57 t356 x9_5 x10_5 x11_29 x12_29 x13_57 x14_57 bt440.1 bt440.2 a2_0 a2_1 a2_2))))) = some r := by first | (rw [hy425]; with_reducible exact H) | (have H2_ := (Option.bind_some _ _).symm.trans H; rw [hy425]; with_reducible exact H2_) | (have H2_ := (Option.bind_some _ _).symm.trans H; with_reducible exact H2_) | with_reducible exact H | (rw [hy425]; exact H) | exact H
                have Ny425 := Aside0.mk hy425
                clear hy425
                replace H := Option.bind_eq_some_iff.mp H
                obtain ⟨t428, A760, H⟩ := H
                replace H : ((foretellkeep_joined.f kj57 10 (([t428] : List (List (S32))))).bind fun t434 => ((foretellkeep_env.f a2_0 a2_1 a2_2).bind fun t437 => ((expr_Eval.f kj57 t434 t437).bind fun bt440 => (foretellkeep_EvalLogic.j3 kj57 t356 x9_5 x10_5 x11_29 x12_29 x13_57 x14_57 bt440.1 bt440.2 a2_0 a2_1 a2_2)))) = some r := H
                have A76 := Aside0.mk A760
                clear A760
                obtain ⟨y431, hy431⟩ : ∃ y_ : List (List (S32)), y_ = (([t428] : List (List (S32)))) := ⟨_, rfl⟩
                replace H : ((foretellkeep_joined.f kj57 10 y431).bind fun t434 => ((foretellkeep_env.f a2_0 a2_1 a2_2).bind fun t437 => ((expr_Eval.f kj57 t434 t437).bind fun bt440 => (foretellkeep_EvalLogic.j3 kj57 t356 x9_5 x10_5 x11_29 x12_29 x13_57 x14_57 bt440.1 bt440.2 a2_0 a2_1 a2_2)))) = some r := by first | (rw [hy431]; with_reducible exact H) | (have H2_ := (Option.bind_some _ _).symm.trans H; rw [hy431]; with_reducible exact H2_) | (have H2_ := (Option.bind_some _ _).symm.trans H; with_reducible exact H2_) | with_reducible exact H | (rw [hy431]; exact H) | exact H
                have Ny431 := Aside0.mk hy431
                clear hy431
                replace H := Option.bind_eq_some_iff.mp H
                obtain ⟨t434, A770, H⟩ := H
                replace H : ((foretellkeep_env.f a2_0 a2_1 a2_2).bind fun t437 => ((expr_Eval.f kj57 t434 t437).bind fun bt440 => (foretellkeep_EvalLogic.j3 kj57 t356 x9_5 x10_5 x11_29 x12_29 x13_57 x14_57 bt440.1 bt440.2 a2_0 a2_1 a2_2))) = some r := H
                have A77 := Aside0.mk A770
                clear A770
                replace H := Option.bind_eq_some_iff.mp H
                obtain ⟨t437, A780, H⟩ := H
                replace H : ((expr_Eval.f kj57 t434 t437).bind fun bt440 => (foretellkeep_EvalLogic.j3 kj57 t356 x9_5 x10_5 x11_29 x12_29 x13_57 x14_57 bt440.1 bt440.2 a2_0 a2_1 a2_2)) = some r := H
                have A78 := Aside0.mk A780
                clear A780
                replace H := Option.bind_eq_some_iff.mp H
                obtain ⟨⟨t440, t441⟩, A790, H⟩ := H
                replace H : (foretellkeep_EvalLogic.j3 kj57 t356 x9_5 x10_5 x11_29 x12_29 x13_57 x14_57 t440 t441 a2_0 a2_1 a2_2) = some r := H
                have A79 := Aside0.mk A790
                clear A790
                have H' := Aside0.mk H
                clear H
                obtain ⟨Ao80, co80, eo80⟩ := Kd.V_slice HO_7.out
                subst eo80
                obtain ⟨Ao81, co81, eo81⟩ := Kd.V_slice HO_8.out
                subst eo81
                try go_wp2
                have n0_ := Aside0.mk (Kd.V_drew HO_7.out)
                have n1_ := Aside0.mk (Kd.V_drew HO_8.out)
                have n2_ := Aside0.mk (blk_drew BK355.out)
                have n3_ := Aside0.mk (below_drew1 HB.out)
                clear HO_7
                clear HO_8
                clear BK355
                clear HB
                have HO_7 := n0_
                have HO_8 := n1_
                have BK355 := n2_
                have HB := n3_
                clear n0_ n1_ n2_ n3_
                refine start_ (n := 18) (S := fun w' => True) (ds := []) #[false, false, false, false, false, false, false, false, false, false, false, false, false, false, false, false, false, false] (by kernel_rfl) rfl rfl trivial (fun hHeld => ?_); refine with_tabW foretellkeep_EvalLogic.tab6 foretellkeep_EvalLogic.bits6 (fun HT_ HW_ => ?_)
                generalize wc.drew = w82 at HO_7 HO_8 BK355 HB hHeld ⊢
                refine pure_ (i := 0) (N := some 60) (v := ?_) (a' := ?_) #[true, false, false, false, false, false, false, false, false, false, false, false, false, false, false, false, false, false] rfl rfl (any_of HT_.out (by kernel_rfl)) (fun _ _ _ h => h) (Or.inl ⟨by rfl, ?_⟩) ?_ ?_
                rotate_left
                · intro w'
                  go_simp
                  with_reducible rfl
                rotate_left
                · simp only [Act.put, List.setIfInBounds_toArray, List.set_cons_zero, List.set_cons_succ, i64_w, i32_w]
                  rfl
                refine pure_ (i := 3) (N := some 63) (v := ?_) (a' := ?_) #[true, false, false, true, false, false, false, false, false, false, false, false, false, false, false, false, false, false] rfl rfl (any_of HT_.out (by kernel_rfl)) (fun _ _ _ h => h) (Or.inl ⟨by rfl, ?_⟩) ?_ ?_
                rotate_left
                · intro w'
                  go_simp
                  with_reducible rfl
                rotate_left
                · simp only [Act.put, List.setIfInBounds_toArray, List.set_cons_zero, List.set_cons_succ, i64_w, i32_w]
                  rfl
                refine inv_at [1, 2, 4, 5, 6, 7, 8, 9, 10, 11, 12, 13, 14, 15, 16, 17] (fun a0_ b a w' => ∃ (v414 : Value) (v417 : Value) (v420 : Value) (v423 : Value) (v426 : Value) (v429 : Value) (v432 : Value) (v435 : Value) (v438 : Value), a = putSel a0_ b [(1, 61, v414), (2, 62, v417), (4, 64, v420), (5, 65, v423), (6, 66, v426), (7, 67, v429), (8, 68, v432), (9, 69, v435), (10, 70, .agg #[.int .i64 a2_0, .int .i64 a2_1, .int .i64 a2_2]), (11, 71, v438), (12, 72, .tuple #[.int .i64 t440, .int .i64 t441]), (13, 59, .tuple #[.int .i64 t440, .int .i64 t441]), (14, 73, .int .i64 t440), (15, 74, .int .i64 t441), (16, 15, .int .i64 t440), (17, 16, .int .i64 t441)] ∧ (Kd.V k32 32 w' w.heap.size (fun k_ => k_ ≠ gb355) (.slice Ao80 t356.length co80) t356) ∧ (Kd.V k32 32 w' w.heap.size (fun k_ => k_ ≠ gb355) (.slice Ao81 t359.length co81) t359) ∧ (w'.heap[gb355]? = some (.cells #[.int .i64 a2_0, .int .i64 a2_1, .int .i64 a2_2] 45 (0, 0))) ∧ (Below w.heap.size w w') ∧ (b 1 = true → Kd.N (Kd.slice 32 k32) 23 w' w.heap.size (fun k_ => k_ ≠ gb355) v414 y413) ∧ (b 2 = true → Kd.V k32 32 w' w.heap.size (fun k_ => k_ ≠ gb355) v417 t416) ∧ (b 4 = true → Kd.N (Kd.slice 32 k32) 23 w' w.heap.size (fun k_ => k_ ≠ gb355) v420 y419) ∧ (b 5 = true → Kd.V k32 32 w' w.heap.size (fun k_ => k_ ≠ gb355) v423 t422) ∧ (b 6 = true → Kd.N (Kd.slice 32 k32) 23 w' w.heap.size (fun k_ => k_ ≠ gb355) v426 y425) ∧ (b 7 = true → Kd.V k32 32 w' w.heap.size (fun k_ => k_ ≠ gb355) v429 t428) ∧ (b 8 = true → Kd.N (Kd.slice 32 k32) 23 w' w.heap.size (fun k_ => k_ ≠ gb355) v432 y431) ∧ (b 9 = true → Kd.V k32 32 w' w.heap.size (fun k_ => k_ ≠ gb355) v435 t434) ∧ (b 11 = true → Kd.V (Kd.int .i64) 3 w' w.heap.size (fun k_ => k_ ≠ gb355) v438 t437)) HT_.out HW_.out (by kernel_rfl) (by kernel_rfl) ?_ ?_ ?_
                · exact ⟨.bool false, .bool false, .bool false, .bool false, .bool false, .bool false, .bool false, .bool false, .bool false, by simp only [putSel, Bool.false_eq_true, if_false], HO_7.out, HO_8.out, BK355.out, HB.out, fun h_ => absurd h_ (by decide), fun h_ => absurd h_ (by decide), fun h_ => absurd h_ (by decide), fun h_ => absurd h_ (by decide), fun h_ => absurd h_ (by decide), fun h_ => absurd h_ (by decide), fun h_ => absurd h_ (by decide), fun h_ => absurd h_ (by decide), fun h_ => absurd h_ (by decide)⟩
                · skip
                  clear BK355 HB HO_7 HO_8
                  refine steps_cons ?_ ?_
                  · rintro b a w' ⟨v414, v417, v420, v423, v426, v429, v432, v435, v438, ha, Q_HO_7, Q_HO_8, Q_BK355, Q_HB, Q_HO415, Q_HO418, Q_HO421, Q_HO424, Q_HO427, Q_HO430, Q_HO433, Q_HO436, Q_HO439⟩ hb_ hon hoff
                    refine ⟨_, rfl, fun K hK => ?_⟩
                    have e60 : a.tmps[60]? = some (.slice Ao80 t356.length co80) := by rw [ha]; exact (putSel_off rfl).trans rfl
                    replace ha := Aside0.mk ha
                    have HO_7 := Aside0.mk Q_HO_7
                    have HO_8 := Aside0.mk Q_HO_8
                    have BK355 := Aside0.mk Q_BK355
                    have HB := Aside0.mk Q_HB
                    refine Kd.N_lit_step (Kd.slice 32 k32) _ 23 ?hg (N' := 61) ?hd (xs := ([t356] : List (List (S32)))) (inner := [.slice Ao80 t356.length co80]) (ok := (fun k_ => k_ ≠ gb355)) (okp := (fun k_ => k_ ≠ gb355)) ?hr ?hp (fun _ hk => hk) ((show ∀ k_, w'.heap.size ≤ k_ → (fun k_ => k_ ≠ gb355) k_ from fun k_ hk => Kd.freshB (g := gb355) (o := .cells #[.int .i64 a2_0, .int .i64 a2_1, .int .i64 a2_2] 45 (0, 0)) (by (with_reducible repeat (first | refine blk_drewN ?_ _ | refine blk_drew ?_ | refine blk_alloc ?_ _)); exact BK355.out) k_ hk) _ (Nat.le_refl _)) (Below.refl _ _) (Nat.le_refl _) (by simp) ?_; (case hd => rfl); (case hg => rfl); (case hr => first | (go_simp; done) | (go_simp; rfl)); (case hp => exact (Reps.one (show Kd.FK (Kd.slice 32 k32) _ _ t356 [.slice Ao80 t356.length co80] from (Kd.FK_slice_mk (Kd.V_reads' (Kd.V_mono (ok' := (fun k_ => k_ ≠ gb355)) (HO_7.out) (fun k_ hk => hk))).2.1 (Kd.V_F (Kd.V_mono (ok' := (fun k_ => k_ ≠ gb355)) (HO_7.out) (fun k_ hk => hk))))) (Reps.none _ _)))
                    intro v414 w83 ho84 hb hg_ hnew_
                    clear hg_ hnew_
                    (first | rw [← Ny413.out] at ho84 | (simp only [Int.reduceToNat] at ho84; rw [← Ny413.out] at ho84))
                    have n0_ := Aside0.mk (Kd.V_elder' (by (with_reducible repeat (first | apply Kd.V_alloc | apply Kd.V_drewN | apply Kd.V_drew)); exact HO_7.out) (by first | exact Kd.N_base ho84 | exact Kd.S_base ho84 | exact Kd.R_base ho84) hb)
                    have n1_ := Aside0.mk (Kd.V_elder' (by (with_reducible repeat (first | apply Kd.V_alloc | apply Kd.V_drewN | apply Kd.V_drew)); exact HO_8.out) (by first | exact Kd.N_base ho84 | exact Kd.S_base ho84 | exact Kd.R_base ho84) hb)
                    have n2_ := Aside0.mk (Kd.N_lower ho84 (below_size (by repeat (first | (with_reducible first | exact HB.out | apply below_alloc | apply pw_below_drewN | apply below_drew1 | refine below_set ?_ GE355.out) | exact HB.out))))
                    have n3_ := Aside0.mk (blk_below (g := gb355) (o := .cells #[.int .i64 a2_0, .int .i64 a2_1, .int .i64 a2_2] 45 (0, 0)) (by (with_reducible repeat (first | refine blk_drewN ?_ _ | refine blk_drew ?_ | refine blk_alloc ?_ _)); exact BK355.out) hb)
                    have n4_ := Aside0.mk (below_step (by repeat (first | (with_reducible first | exact HB.out | apply below_alloc | apply pw_below_drewN | apply below_drew1 | refine below_set ?_ GE355.out) | exact HB.out)) hb)
                    have z_HO421 := fun (h0_ : b 4 = true) => (show Kd.N (Kd.slice 32 k32) 23 w83 w.heap.size (fun k_ => k_ ≠ gb355) v420 y419 from by first | exact (Kd.N_elder' (by (with_reducible repeat (first | apply Kd.N_alloc | apply Kd.N_drewN | apply Kd.N_drew)); exact (Q_HO421 h0_)) (by first | exact Kd.N_base ho84 | exact Kd.S_base ho84 | exact Kd.R_base ho84) hb) | exact Kd.N_mono (Kd.N_elder' (by (with_reducible repeat (first | apply Kd.N_alloc | apply Kd.N_drewN | apply Kd.N_drew)); exact (Q_HO421 h0_)) (by first | exact Kd.N_base ho84 | exact Kd.S_base ho84 | exact Kd.R_base ho84) hb) (fun _ h_ => by first | trivial | exact h_ | exact h_.1))
                    clear HO_7
                    clear HO_8
                    clear BK355
                    clear HB
                    have HO_7 := n0_
                    have HO_8 := n1_
                    have HO415 := n2_
                    have BK355 := n3_
                    have HB := n4_
                    clear n0_ n1_ n2_ n3_ n4_
                    clear hb ho84
                    refine hK.out _ _ ⟨v414, v417, v420, v423, v426, v429, v432, v435, v438, (by rw [ha.out]; exact putSel_upk 0 hb_ rfl rfl rfl), (by (with_reducible repeat (first | apply Kd.V_alloc | apply Kd.V_drewN | apply Kd.V_drew)); exact Kd.V_mono HO_7.out (fun _ hk => by first | exact ⟨hk.2, hk.1⟩ | exact hk.1 | exact hk)), (by (with_reducible repeat (first | apply Kd.V_alloc | apply Kd.V_drewN | apply Kd.V_drew)); exact Kd.V_mono HO_8.out (fun _ hk => by first | exact ⟨hk.2, hk.1⟩ | exact hk.1 | exact hk)), (by (with_reducible repeat (first | refine blk_drewN ?_ _ | refine blk_drew ?_ | refine blk_alloc ?_ _)); exact BK355.out), (by repeat (first | (with_reducible first | exact HB.out | apply below_alloc | apply pw_below_drewN | apply below_drew1 | refine below_set ?_ GE355.out) | exact HB.out)), fun _ => (by (with_reducible repeat (first | apply Kd.N_alloc | apply Kd.N_drewN | apply Kd.N_drew)); exact HO415.out), fun h0_ => absurd ((hoff 2 (by kernel_rfl)).symm.trans h0_) (by decide), z_HO421, fun h0_ => absurd ((hoff 5 (by kernel_rfl)).symm.trans h0_) (by decide), fun h0_ => absurd ((hoff 6 (by kernel_rfl)).symm.trans h0_) (by decide), fun h0_ => absurd ((hoff 7 (by kernel_rfl)).symm.trans h0_) (by decide), fun h0_ => absurd ((hoff 8 (by kernel_rfl)).symm.trans h0_) (by decide), fun h0_ => absurd ((hoff 9 (by kernel_rfl)).symm.trans h0_) (by decide), fun h0_ => absurd ((hoff 11 (by kernel_rfl)).symm.trans h0_) (by decide)⟩
                  refine steps_cons ?_ ?_
                  · rintro b a w' ⟨v414, v417, v420, v423, v426, v429, v432, v435, v438, ha, Q_HO_7, Q_HO_8, Q_BK355, Q_HB, Q_HO415, Q_HO418, Q_HO421, Q_HO424, Q_HO427, Q_HO430, Q_HO433, Q_HO436, Q_HO439⟩ hb_ hon hoff
                    refine ⟨_, rfl, fun K hK => ?_⟩
                    have e61 : a.tmps[61]? = some (v414) := by rw [ha]; exact putSel_on (e := (1, 61, v414)) 0 rfl rfl (hon 1 (by kernel_rfl)) rfl
                    replace ha := Aside0.mk ha
                    have HO_7 := Aside0.mk Q_HO_7
                    have HO_8 := Aside0.mk Q_HO_8
                    have BK355 := Aside0.mk Q_BK355
                    have HB := Aside0.mk Q_HB
                    have HO415 := Aside0.mk (Q_HO415 (hon 1 (by kernel_rfl)))
                    obtain ⟨Ao86, co86, eo86⟩ := Kd.N_slice HO415.out
                    (first | subst eo86 | (injection eo86 with f1_ f2_ f3_; have f4_ := f1_.symm; have f5_ := f3_.symm; clear f1_ f2_ f3_; subst f4_; subst f5_))
                    refine goes_ Tryd.func21 (by kernel_rfl) rfl #[.int .i64 10, .slice Ao86 y413.length co86] (by rfl) rfl rfl (by first | (simp only [List.map_toArray, List.map_cons, List.map_nil, Act.eval, Array.getD_eq_getD_getElem?, Option.getD_some, e61]; done) | (simp only [List.map_toArray, List.map_cons, List.map_nil, Act.eval, Array.getD_eq_getD_getElem?, Option.getD_some, e61]; rfl)) ?_
                    with_reducible refine (foretellkeep_joined.calls kj57 10 _ _ y413 t416 _ ?side1 ?side2 A74.out).mono ?_
                    (case side1 => repeat (first | exact (Kd.N_reads' HO415.out).2.2 | (with_reducible refine Kd.C_alloc ?_ _) | (with_reducible refine Kd.C_drewN ?_ _) | (with_reducible refine Kd.C_drew ?_)))
                    (case side2 => exact (Kd.N_reads' HO415.out).2.1)
                    rintro e w87 ⟨v417, rfl, ho0, hb⟩
                    refine ⟨_, rfl, ?_⟩
                    have n0_ := Aside0.mk (Kd.V_below (by (with_reducible repeat (first | apply Kd.V_alloc | apply Kd.V_drewN | apply Kd.V_drew)); exact HO_7.out) hb)
                    have n1_ := Aside0.mk (Kd.V_below (by (with_reducible repeat (first | apply Kd.V_alloc | apply Kd.V_drewN | apply Kd.V_drew)); exact HO_8.out) hb)
                    have n2_ := Aside0.mk (Kd.N_below (by (with_reducible repeat (first | apply Kd.N_alloc | apply Kd.N_drewN | apply Kd.N_drew)); exact HO415.out) hb)
                    have n3_ := Aside0.mk (Kd.V_lower (Kd.V_mono (ok' := fun k_ => k_ ≠ gb355) (Kd.R_V (Kd.R_bound ho0)) (fun k_ hk_ => (Kd.freshB (g := gb355) (o := .cells #[.int .i64 a2_0, .int .i64 a2_1, .int .i64 a2_2] 45 (0, 0)) (by (with_reducible repeat (first | refine blk_drewN ?_ _ | refine blk_drew ?_ | refine blk_alloc ?_ _)); exact BK355.out) k_ hk_.2.1))) (below_size (by repeat (first | (with_reducible first | exact HB.out | apply below_alloc | apply pw_below_drewN | apply below_drew1 | refine below_set ?_ GE355.out) | exact HB.out))))
                    have n4_ := Aside0.mk (blk_below (g := gb355) (o := .cells #[.int .i64 a2_0, .int .i64 a2_1, .int .i64 a2_2] 45 (0, 0)) (by (with_reducible repeat (first | refine blk_drewN ?_ _ | refine blk_drew ?_ | refine blk_alloc ?_ _)); exact BK355.out) hb)
                    have n5_ := Aside0.mk (below_step (by repeat (first | (with_reducible first | exact HB.out | apply below_alloc | apply pw_below_drewN | apply below_drew1 | refine below_set ?_ GE355.out) | exact HB.out)) hb)
                    have z_HO421 := fun (h0_ : b 4 = true) => (show Kd.N (Kd.slice 32 k32) 23 w87 w.heap.size (fun k_ => k_ ≠ gb355) v420 y419 from by first | exact (Kd.N_below (by (with_reducible repeat (first | apply Kd.N_alloc | apply Kd.N_drewN | apply Kd.N_drew)); exact (Q_HO421 h0_)) hb) | exact Kd.N_mono (Kd.N_below (by (with_reducible repeat (first | apply Kd.N_alloc | apply Kd.N_drewN | apply Kd.N_drew)); exact (Q_HO421 h0_)) hb) (fun _ h_ => by first | trivial | exact h_ | exact h_.1))
                    clear HO_7
                    clear HO_8
                    clear HO415
                    clear BK355
                    clear HB
                    have HO_7 := n0_
                    have HO_8 := n1_
                    have HO415 := n2_
                    have HO418 := n3_
                    have BK355 := n4_
                    have HB := n5_
                    clear n0_ n1_ n2_ n3_ n4_ n5_
                    (try clear hb)
                    (try clear hb2)
                    (try clear hk)
                    (try clear hi)
                    (try clear ho0)
                    refine hK.out _ _ ⟨.slice Ao86 y413.length co86, v417, v420, v423, v426, v429, v432, v435, v438, (by rw [ha.out]; exact putSel_upk 1 hb_ rfl rfl rfl), (by (with_reducible repeat (first | apply Kd.V_alloc | apply Kd.V_drewN | apply Kd.V_drew)); exact HO_7.out), (by (with_reducible repeat (first | apply Kd.V_alloc | apply Kd.V_drewN | apply Kd.V_drew)); exact HO_8.out), (by (with_reducible repeat (first | refine blk_drewN ?_ _ | refine blk_drew ?_ | refine blk_alloc ?_ _)); exact BK355.out), (by repeat (first | (with_reducible first | exact HB.out | apply below_alloc | apply pw_below_drewN | apply below_drew1 | refine below_set ?_ GE355.out) | exact HB.out)), fun _ => (by (with_reducible repeat (first | apply Kd.N_alloc | apply Kd.N_drewN | apply Kd.N_drew)); exact HO415.out), fun _ => (by (with_reducible repeat (first | apply Kd.V_alloc | apply Kd.V_drewN | apply Kd.V_drew)); exact HO418.out), z_HO421, fun h0_ => absurd ((hoff 5 (by kernel_rfl)).symm.trans h0_) (by decide), fun h0_ => absurd ((hoff 6 (by kernel_rfl)).symm.trans h0_) (by decide), fun h0_ => absurd ((hoff 7 (by kernel_rfl)).symm.trans h0_) (by decide), fun h0_ => absurd ((hoff 8 (by kernel_rfl)).symm.trans h0_) (by decide), fun h0_ => absurd ((hoff 9 (by kernel_rfl)).symm.trans h0_) (by decide), fun h0_ => absurd ((hoff 11 (by kernel_rfl)).symm.trans h0_) (by decide)⟩
                  refine steps_cons ?_ ?_
                  · rintro b a w' ⟨v414, v417, v420, v423, v426, v429, v432, v435, v438, ha, Q_HO_7, Q_HO_8, Q_BK355, Q_HB, Q_HO415, Q_HO418, Q_HO421, Q_HO424, Q_HO427, Q_HO430, Q_HO433, Q_HO436, Q_HO439⟩ hb_ hon hoff
                    refine ⟨_, rfl, fun K hK => ?_⟩
                    have e63 : a.tmps[63]? = some (.slice Ao81 t359.length co81) := by rw [ha]; exact (putSel_off rfl).trans rfl
                    replace ha := Aside0.mk ha
                    have HO_7 := Aside0.mk Q_HO_7
                    have HO_8 := Aside0.mk Q_HO_8
                    have BK355 := Aside0.mk Q_BK355
                    have HB := Aside0.mk Q_HB
                    refine Kd.N_lit_step (Kd.slice 32 k32) _ 23 ?hg (N' := 64) ?hd (xs := ([t359] : List (List (S32)))) (inner := [.slice Ao81 t359.length co81]) (ok := (fun k_ => k_ ≠ gb355)) (okp := (fun k_ => k_ ≠ gb355)) ?hr ?hp (fun _ hk => hk) ((show ∀ k_, w'.heap.size ≤ k_ → (fun k_ => k_ ≠ gb355) k_ from fun k_ hk => Kd.freshB (g := gb355) (o := .cells #[.int .i64 a2_0, .int .i64 a2_1, .int .i64 a2_2] 45 (0, 0)) (by (with_reducible repeat (first | refine blk_drewN ?_ _ | refine blk_drew ?_ | refine blk_alloc ?_ _)); exact BK355.out) k_ hk) _ (Nat.le_refl _)) (Below.refl _ _) (Nat.le_refl _) (by simp) ?_; (case hd => rfl); (case hg => rfl); (case hr => first | (go_simp; done) | (go_simp; rfl)); (case hp => exact (Reps.one (show Kd.FK (Kd.slice 32 k32) _ _ t359 [.slice Ao81 t359.length co81] from (Kd.FK_slice_mk (Kd.V_reads' (Kd.V_mono (ok' := (fun k_ => k_ ≠ gb355)) (HO_8.out) (fun k_ hk => hk))).2.1 (Kd.V_F (Kd.V_mono (ok' := (fun k_ => k_ ≠ gb355)) (HO_8.out) (fun k_ hk => hk))))) (Reps.none _ _)))
                    intro v420 w83 ho84 hb hg_ hnew_
                    clear hg_ hnew_
                    (first | rw [← Ny419.out] at ho84 | (simp only [Int.reduceToNat] at ho84; rw [← Ny419.out] at ho84))
                    have n0_ := Aside0.mk (Kd.V_elder' (by (with_reducible repeat (first | apply Kd.V_alloc | apply Kd.V_drewN | apply Kd.V_drew)); exact HO_7.out) (by first | exact Kd.N_base ho84 | exact Kd.S_base ho84 | exact Kd.R_base ho84) hb)
                    have n1_ := Aside0.mk (Kd.V_elder' (by (with_reducible repeat (first | apply Kd.V_alloc | apply Kd.V_drewN | apply Kd.V_drew)); exact HO_8.out) (by first | exact Kd.N_base ho84 | exact Kd.S_base ho84 | exact Kd.R_base ho84) hb)
                    have n2_ := Aside0.mk (Kd.N_lower ho84 (below_size (by repeat (first | (with_reducible first | exact HB.out | apply below_alloc | apply pw_below_drewN | apply below_drew1 | refine below_set ?_ GE355.out) | exact HB.out))))
                    have n3_ := Aside0.mk (blk_below (g := gb355) (o := .cells #[.int .i64 a2_0, .int .i64 a2_1, .int .i64 a2_2] 45 (0, 0)) (by (with_reducible repeat (first | refine blk_drewN ?_ _ | refine blk_drew ?_ | refine blk_alloc ?_ _)); exact BK355.out) hb)
                    have n4_ := Aside0.mk (below_step (by repeat (first | (with_reducible first | exact HB.out | apply below_alloc | apply pw_below_drewN | apply below_drew1 | refine below_set ?_ GE355.out) | exact HB.out)) hb)
                    have z_HO415 := fun (h0_ : b 1 = true) => (show Kd.N (Kd.slice 32 k32) 23 w83 w.heap.size (fun k_ => k_ ≠ gb355) v414 y413 from by first | exact (Kd.N_elder' (by (with_reducible repeat (first | apply Kd.N_alloc | apply Kd.N_drewN | apply Kd.N_drew)); exact (Q_HO415 h0_)) (by first | exact Kd.N_base ho84 | exact Kd.S_base ho84 | exact Kd.R_base ho84) hb) | exact Kd.N_mono (Kd.N_elder' (by (with_reducible repeat (first | apply Kd.N_alloc | apply Kd.N_drewN | apply Kd.N_drew)); exact (Q_HO415 h0_)) (by first | exact Kd.N_base ho84 | exact Kd.S_base ho84 | exact Kd.R_base ho84) hb) (fun _ h_ => by first | trivial | exact h_ | exact h_.1))
                    have z_HO418 := fun (h0_ : b 2 = true) => (show Kd.V k32 32 w83 w.heap.size (fun k_ => k_ ≠ gb355) v417 t416 from by first | exact (Kd.V_elder' (by (with_reducible repeat (first | apply Kd.V_alloc | apply Kd.V_drewN | apply Kd.V_drew)); exact (Q_HO418 h0_)) (by first | exact Kd.N_base ho84 | exact Kd.S_base ho84 | exact Kd.R_base ho84) hb) | exact Kd.V_mono (Kd.V_elder' (by (with_reducible repeat (first | apply Kd.V_alloc | apply Kd.V_drewN | apply Kd.V_drew)); exact (Q_HO418 h0_)) (by first | exact Kd.N_base ho84 | exact Kd.S_base ho84 | exact Kd.R_base ho84) hb) (fun _ h_ => by first | trivial | exact h_ | exact h_.1))
                    clear HO_7
                    clear HO_8
                    clear BK355
                    clear HB
                    have HO_7 := n0_
                    have HO_8 := n1_
                    have HO421 := n2_
                    have BK355 := n3_
                    have HB := n4_
                    clear n0_ n1_ n2_ n3_ n4_
                    clear hb ho84
                    refine hK.out _ _ ⟨v414, v417, v420, v423, v426, v429, v432, v435, v438, (by rw [ha.out]; exact putSel_upk 2 hb_ rfl rfl rfl), (by (with_reducible repeat (first | apply Kd.V_alloc | apply Kd.V_drewN | apply Kd.V_drew)); exact Kd.V_mono HO_7.out (fun _ hk => by first | exact ⟨hk.2, hk.1⟩ | exact hk.1 | exact hk)), (by (with_reducible repeat (first | apply Kd.V_alloc | apply Kd.V_drewN | apply Kd.V_drew)); exact Kd.V_mono HO_8.out (fun _ hk => by first | exact ⟨hk.2, hk.1⟩ | exact hk.1 | exact hk)), (by (with_reducible repeat (first | refine blk_drewN ?_ _ | refine blk_drew ?_ | refine blk_alloc ?_ _)); exact BK355.out), (by repeat (first | (with_reducible first | exact HB.out | apply below_alloc | apply pw_below_drewN | apply below_drew1 | refine below_set ?_ GE355.out) | exact HB.out)), z_HO415, z_HO418, fun _ => (by (with_reducible repeat (first | apply Kd.N_alloc | apply Kd.N_drewN | apply Kd.N_drew)); exact HO421.out), fun h0_ => absurd ((hoff 5 (by kernel_rfl)).symm.trans h0_) (by decide), fun h0_ => absurd ((hoff 6 (by kernel_rfl)).symm.trans h0_) (by decide), fun h0_ => absurd ((hoff 7 (by kernel_rfl)).symm.trans h0_) (by decide), fun h0_ => absurd ((hoff 8 (by kernel_rfl)).symm.trans h0_) (by decide), fun h0_ => absurd ((hoff 9 (by kernel_rfl)).symm.trans h0_) (by decide), fun h0_ => absurd ((hoff 11 (by kernel_rfl)).symm.trans h0_) (by decide)⟩
                  refine steps_cons ?_ ?_
                  · rintro b a w' ⟨v414, v417, v420, v423, v426, v429, v432, v435, v438, ha, Q_HO_7, Q_HO_8, Q_BK355, Q_HB, Q_HO415, Q_HO418, Q_HO421, Q_HO424, Q_HO427, Q_HO430, Q_HO433, Q_HO436, Q_HO439⟩ hb_ hon hoff
                    refine ⟨_, rfl, fun K hK => ?_⟩
                    have e64 : a.tmps[64]? = some (v420) := by rw [ha]; exact putSel_on (e := (4, 64, v420)) 2 rfl rfl (hon 4 (by kernel_rfl)) rfl
                    replace ha := Aside0.mk ha
                    have HO_7 := Aside0.mk Q_HO_7
                    have HO_8 := Aside0.mk Q_HO_8
                    have BK355 := Aside0.mk Q_BK355
                    have HB := Aside0.mk Q_HB
                    have HO415 := Aside0.mk (Q_HO415 (hon 1 (by kernel_rfl)))
                    have HO418 := Aside0.mk (Q_HO418 (hon 2 (by kernel_rfl)))
                    have HO421 := Aside0.mk (Q_HO421 (hon 4 (by kernel_rfl)))
                    obtain ⟨Ao90, co90, eo90⟩ := Kd.N_slice HO421.out
                    (first | subst eo90 | (injection eo90 with f1_ f2_ f3_; have f4_ := f1_.symm; have f5_ := f3_.symm; clear f1_ f2_ f3_; subst f4_; subst f5_))
                    refine goes_ Tryd.func21 (by kernel_rfl) rfl #[.int .i64 10, .slice Ao90 y419.length co90] (by rfl) rfl rfl (by first | (simp only [List.map_toArray, List.map_cons, List.map_nil, Act.eval, Array.getD_eq_getD_getElem?, Option.getD_some, e64]; done) | (simp only [List.map_toArray, List.map_cons, List.map_nil, Act.eval, Array.getD_eq_getD_getElem?, Option.getD_some, e64]; rfl)) ?_
                    with_reducible refine (foretellkeep_joined.calls kj57 10 _ _ y419 t422 _ ?side1 ?side2 A75.out).mono ?_
                    (case side1 => repeat (first | exact (Kd.N_reads' HO421.out).2.2 | (with_reducible refine Kd.C_alloc ?_ _) | (with_reducible refine Kd.C_drewN ?_ _) | (with_reducible refine Kd.C_drew ?_)))
                    (case side2 => exact (Kd.N_reads' HO421.out).2.1)
                    rintro e w91 ⟨v423, rfl, ho0, hb⟩
                    refine ⟨_, rfl, ?_⟩
                    have n0_ := Aside0.mk (Kd.V_below (by (with_reducible repeat (first | apply Kd.V_alloc | apply Kd.V_drewN | apply Kd.V_drew)); exact HO_7.out) hb)
                    have n1_ := Aside0.mk (Kd.V_below (by (with_reducible repeat (first | apply Kd.V_alloc | apply Kd.V_drewN | apply Kd.V_drew)); exact HO_8.out) hb)
                    have n2_ := Aside0.mk (Kd.N_below (by (with_reducible repeat (first | apply Kd.N_alloc | apply Kd.N_drewN | apply Kd.N_drew)); exact HO415.out) hb)
                    have n3_ := Aside0.mk (Kd.V_below (by (with_reducible repeat (first | apply Kd.V_alloc | apply Kd.V_drewN | apply Kd.V_drew)); exact HO418.out) hb)
                    have n4_ := Aside0.mk (Kd.N_below (by (with_reducible repeat (first | apply Kd.N_alloc | apply Kd.N_drewN | apply Kd.N_drew)); exact HO421.out) hb)
                    have n5_ := Aside0.mk (Kd.V_lower (Kd.V_mono (ok' := fun k_ => k_ ≠ gb355) (Kd.R_V (Kd.R_bound ho0)) (fun k_ hk_ => (Kd.freshB (g := gb355) (o := .cells #[.int .i64 a2_0, .int .i64 a2_1, .int .i64 a2_2] 45 (0, 0)) (by (with_reducible repeat (first | refine blk_drewN ?_ _ | refine blk_drew ?_ | refine blk_alloc ?_ _)); exact BK355.out) k_ hk_.2.1))) (below_size (by repeat (first | (with_reducible first | exact HB.out | apply below_alloc | apply pw_below_drewN | apply below_drew1 | refine below_set ?_ GE355.out) | exact HB.out))))
                    have n6_ := Aside0.mk (blk_below (g := gb355) (o := .cells #[.int .i64 a2_0, .int .i64 a2_1, .int .i64 a2_2] 45 (0, 0)) (by (with_reducible repeat (first | refine blk_drewN ?_ _ | refine blk_drew ?_ | refine blk_alloc ?_ _)); exact BK355.out) hb)
                    have n7_ := Aside0.mk (below_step (by repeat (first | (with_reducible first | exact HB.out | apply below_alloc | apply pw_below_drewN | apply below_drew1 | refine below_set ?_ GE355.out) | exact HB.out)) hb)
                    clear HO_7
                    clear HO_8
                    clear HO415
                    clear HO418
                    clear HO421
                    clear BK355
                    clear HB
                    have HO_7 := n0_
                    have HO_8 := n1_
                    have HO415 := n2_
                    have HO418 := n3_
                    have HO421 := n4_
                    have HO424 := n5_
                    have BK355 := n6_
                    have HB := n7_
                    clear n0_ n1_ n2_ n3_ n4_ n5_ n6_ n7_
                    (try clear hb)
                    (try clear hb2)
                    (try clear hk)
                    (try clear hi)
                    (try clear ho0)
                    refine hK.out _ _ ⟨v414, v417, .slice Ao90 y419.length co90, v423, v426, v429, v432, v435, v438, (by rw [ha.out]; exact putSel_upk 3 hb_ rfl rfl rfl), (by (with_reducible repeat (first | apply Kd.V_alloc | apply Kd.V_drewN | apply Kd.V_drew)); exact HO_7.out), (by (with_reducible repeat (first | apply Kd.V_alloc | apply Kd.V_drewN | apply Kd.V_drew)); exact HO_8.out), (by (with_reducible repeat (first | refine blk_drewN ?_ _ | refine blk_drew ?_ | refine blk_alloc ?_ _)); exact BK355.out), (by repeat (first | (with_reducible first | exact HB.out | apply below_alloc | apply pw_below_drewN | apply below_drew1 | refine below_set ?_ GE355.out) | exact HB.out)), fun _ => (by (with_reducible repeat (first | apply Kd.N_alloc | apply Kd.N_drewN | apply Kd.N_drew)); exact HO415.out), fun _ => (by (with_reducible repeat (first | apply Kd.V_alloc | apply Kd.V_drewN | apply Kd.V_drew)); exact HO418.out), fun _ => (by (with_reducible repeat (first | apply Kd.N_alloc | apply Kd.N_drewN | apply Kd.N_drew)); exact HO421.out), fun _ => (by (with_reducible repeat (first | apply Kd.V_alloc | apply Kd.V_drewN | apply Kd.V_drew)); exact HO424.out), fun h0_ => absurd ((hoff 6 (by kernel_rfl)).symm.trans h0_) (by decide), fun h0_ => absurd ((hoff 7 (by kernel_rfl)).symm.trans h0_) (by decide), fun h0_ => absurd ((hoff 8 (by kernel_rfl)).symm.trans h0_) (by decide), fun h0_ => absurd ((hoff 9 (by kernel_rfl)).symm.trans h0_) (by decide), fun h0_ => absurd ((hoff 11 (by kernel_rfl)).symm.trans h0_) (by decide)⟩
                  refine steps_cons ?_ ?_
                  · rintro b a w' ⟨v414, v417, v420, v423, v426, v429, v432, v435, v438, ha, Q_HO_7, Q_HO_8, Q_BK355, Q_HB, Q_HO415, Q_HO418, Q_HO421, Q_HO424, Q_HO427, Q_HO430, Q_HO433, Q_HO436, Q_HO439⟩ hb_ hon hoff
                    refine ⟨_, rfl, fun K hK => ?_⟩
                    have e62 : a.tmps[62]? = some (v417) := by rw [ha]; exact putSel_on (e := (2, 62, v417)) 1 rfl rfl (hon 2 (by kernel_rfl)) rfl
                    have e65 : a.tmps[65]? = some (v423) := by rw [ha]; exact putSel_on (e := (5, 65, v423)) 3 rfl rfl (hon 5 (by kernel_rfl)) rfl
                    replace ha := Aside0.mk ha
                    have HO_7 := Aside0.mk Q_HO_7
                    have HO_8 := Aside0.mk Q_HO_8
                    have BK355 := Aside0.mk Q_BK355
                    have HB := Aside0.mk Q_HB
                    have HO415 := Aside0.mk (Q_HO415 (hon 1 (by kernel_rfl)))
                    have HO418 := Aside0.mk (Q_HO418 (hon 2 (by kernel_rfl)))
                    have HO421 := Aside0.mk (Q_HO421 (hon 4 (by kernel_rfl)))
                    have HO424 := Aside0.mk (Q_HO424 (hon 5 (by kernel_rfl)))
                    obtain ⟨Ao92, co92, eo92⟩ := Kd.V_slice HO418.out
                    (first | subst eo92 | (injection eo92 with f1_ f2_ f3_; have f4_ := f1_.symm; have f5_ := f3_.symm; clear f1_ f2_ f3_; subst f4_; subst f5_))
                    obtain ⟨Ao93, co93, eo93⟩ := Kd.V_slice HO424.out
                    (first | subst eo93 | (injection eo93 with f1_ f2_ f3_; have f4_ := f1_.symm; have f5_ := f3_.symm; clear f1_ f2_ f3_; subst f4_; subst f5_))
                    refine Kd.N_lit_step (Kd.slice 32 k32) _ 23 ?hg (N' := 66) ?hd (xs := ([t416, t422] : List (List (S32)))) (inner := [.slice Ao92 t416.length co92, .slice Ao93 t422.length co93]) (ok := (fun k_ => k_ ≠ gb355)) (okp := (fun k_ => k_ ≠ gb355)) ?hr ?hp (fun _ hk => hk) ((show ∀ k_, w'.heap.size ≤ k_ → (fun k_ => k_ ≠ gb355) k_ from fun k_ hk => Kd.freshB (g := gb355) (o := .cells #[.int .i64 a2_0, .int .i64 a2_1, .int .i64 a2_2] 45 (0, 0)) (by (with_reducible repeat (first | refine blk_drewN ?_ _ | refine blk_drew ?_ | refine blk_alloc ?_ _)); exact BK355.out) k_ hk) _ (Nat.le_refl _)) (Below.refl _ _) (Nat.le_refl _) (by simp) ?_; (case hd => rfl); (case hg => rfl); (case hr => first | (go_simp; done) | (go_simp; rfl)); (case hp => exact (Reps.one (show Kd.FK (Kd.slice 32 k32) _ _ t416 [.slice Ao92 t416.length co92] from (Kd.FK_slice_mk (Kd.V_reads' (Kd.V_mono (ok' := (fun k_ => k_ ≠ gb355)) (HO418.out) (fun k_ hk => by first | exact hk.2 | exact hk))).2.1 (Kd.V_F (Kd.V_mono (ok' := (fun k_ => k_ ≠ gb355)) (HO418.out) (fun k_ hk => by first | exact hk.2 | exact hk))))) (Reps.one (show Kd.FK (Kd.slice 32 k32) _ _ t422 [.slice Ao93 t422.length co93] from (Kd.FK_slice_mk (Kd.V_reads' (Kd.V_mono (ok' := (fun k_ => k_ ≠ gb355)) (HO424.out) (fun k_ hk => hk))).2.1 (Kd.V_F (Kd.V_mono (ok' := (fun k_ => k_ ≠ gb355)) (HO424.out) (fun k_ hk => hk))))) (Reps.none _ _))))
                    intro v426 w94 ho95 hb hg_ hnew_
                    clear hg_ hnew_
                    (first | rw [← Ny425.out] at ho95 | (simp only [Int.reduceToNat] at ho95; rw [← Ny425.out] at ho95))
                    have n0_ := Aside0.mk (Kd.V_elder' (by (with_reducible repeat (first | apply Kd.V_alloc | apply Kd.V_drewN | apply Kd.V_drew)); exact HO_7.out) (by first | exact Kd.N_base ho95 | exact Kd.S_base ho95 | exact Kd.R_base ho95) hb)
                    have n1_ := Aside0.mk (Kd.V_elder' (by (with_reducible repeat (first | apply Kd.V_alloc | apply Kd.V_drewN | apply Kd.V_drew)); exact HO_8.out) (by first | exact Kd.N_base ho95 | exact Kd.S_base ho95 | exact Kd.R_base ho95) hb)
                    have n2_ := Aside0.mk (Kd.N_elder' (by (with_reducible repeat (first | apply Kd.N_alloc | apply Kd.N_drewN | apply Kd.N_drew)); exact HO415.out) (by first | exact Kd.N_base ho95 | exact Kd.S_base ho95 | exact Kd.R_base ho95) hb)
                    have n3_ := Aside0.mk (Kd.V_elder' (by (with_reducible repeat (first | apply Kd.V_alloc | apply Kd.V_drewN | apply Kd.V_drew)); exact HO418.out) (by first | exact Kd.N_base ho95 | exact Kd.S_base ho95 | exact Kd.R_base ho95) hb)
                    have n4_ := Aside0.mk (Kd.N_elder' (by (with_reducible repeat (first | apply Kd.N_alloc | apply Kd.N_drewN | apply Kd.N_drew)); exact HO421.out) (by first | exact Kd.N_base ho95 | exact Kd.S_base ho95 | exact Kd.R_base ho95) hb)
                    have n5_ := Aside0.mk (Kd.V_elder' (by (with_reducible repeat (first | apply Kd.V_alloc | apply Kd.V_drewN | apply Kd.V_drew)); exact HO424.out) (by first | exact Kd.N_base ho95 | exact Kd.S_base ho95 | exact Kd.R_base ho95) hb)
                    have n6_ := Aside0.mk (Kd.N_lower ho95 (below_size (by repeat (first | (with_reducible first | exact HB.out | apply below_alloc | apply pw_below_drewN | apply below_drew1 | refine below_set ?_ GE355.out) | exact HB.out))))
                    have n7_ := Aside0.mk (blk_below (g := gb355) (o := .cells #[.int .i64 a2_0, .int .i64 a2_1, .int .i64 a2_2] 45 (0, 0)) (by (with_reducible repeat (first | refine blk_drewN ?_ _ | refine blk_drew ?_ | refine blk_alloc ?_ _)); exact BK355.out) hb)
                    have n8_ := Aside0.mk (below_step (by repeat (first | (with_reducible first | exact HB.out | apply below_alloc | apply pw_below_drewN | apply below_drew1 | refine below_set ?_ GE355.out) | exact HB.out)) hb)
                    clear HO_7
                    clear HO_8
                    clear HO415
                    clear HO418
                    clear HO421
                    clear HO424
                    clear BK355
                    clear HB
                    have HO_7 := n0_
                    have HO_8 := n1_
                    have HO415 := n2_
                    have HO418 := n3_
                    have HO421 := n4_
                    have HO424 := n5_
                    have HO427 := n6_
                    have BK355 := n7_
                    have HB := n8_
                    clear n0_ n1_ n2_ n3_ n4_ n5_ n6_ n7_ n8_
                    clear hb ho95
                    refine hK.out _ _ ⟨v414, .slice Ao92 t416.length co92, v420, .slice Ao93 t422.length co93, v426, v429, v432, v435, v438, (by rw [ha.out]; exact putSel_upk 4 hb_ rfl rfl rfl), (by (with_reducible repeat (first | apply Kd.V_alloc | apply Kd.V_drewN | apply Kd.V_drew)); exact Kd.V_mono HO_7.out (fun _ hk => by first | exact ⟨hk.1.1, ⟨hk.1.2.1, ⟨hk.2, hk.1.2.2⟩⟩⟩ | exact hk.1 | exact hk)), (by (with_reducible repeat (first | apply Kd.V_alloc | apply Kd.V_drewN | apply Kd.V_drew)); exact Kd.V_mono HO_8.out (fun _ hk => by first | exact ⟨hk.1.1, ⟨hk.1.2.1, ⟨hk.2, hk.1.2.2⟩⟩⟩ | exact hk.1 | exact hk)), (by (with_reducible repeat (first | refine blk_drewN ?_ _ | refine blk_drew ?_ | refine blk_alloc ?_ _)); exact BK355.out), (by repeat (first | (with_reducible first | exact HB.out | apply below_alloc | apply pw_below_drewN | apply below_drew1 | refine below_set ?_ GE355.out) | exact HB.out)), fun _ => (by (with_reducible repeat (first | apply Kd.N_alloc | apply Kd.N_drewN | apply Kd.N_drew)); exact Kd.N_mono HO415.out (fun _ hk => by first | exact ⟨hk.1.1, ⟨hk.2, hk.1.2⟩⟩ | exact hk.1 | exact hk)), fun _ => (by (with_reducible repeat (first | apply Kd.V_alloc | apply Kd.V_drewN | apply Kd.V_drew)); exact Kd.V_mono HO418.out (fun _ hk => by first | exact ⟨hk.1.1, ⟨hk.2, hk.1.2⟩⟩ | exact hk.1 | exact hk)), fun _ => (by (with_reducible repeat (first | apply Kd.N_alloc | apply Kd.N_drewN | apply Kd.N_drew)); exact Kd.N_mono HO421.out (fun _ hk => by first | exact ⟨hk.1.1, ⟨hk.2, hk.1.2⟩⟩ | exact hk.1 | exact hk)), fun _ => (by (with_reducible repeat (first | apply Kd.V_alloc | apply Kd.V_drewN | apply Kd.V_drew)); exact Kd.V_mono HO424.out (fun _ hk => by first | exact ⟨hk.2, hk.1⟩ | exact hk.1 | exact hk)), fun _ => (by (with_reducible repeat (first | apply Kd.N_alloc | apply Kd.N_drewN | apply Kd.N_drew)); exact HO427.out), fun h0_ => absurd ((hoff 7 (by kernel_rfl)).symm.trans h0_) (by decide), fun h0_ => absurd ((hoff 8 (by kernel_rfl)).symm.trans h0_) (by decide), fun h0_ => absurd ((hoff 9 (by kernel_rfl)).symm.trans h0_) (by decide), fun h0_ => absurd ((hoff 11 (by kernel_rfl)).symm.trans h0_) (by decide)⟩
                  refine steps_cons ?_ ?_
                  · rintro b a w' ⟨v414, v417, v420, v423, v426, v429, v432, v435, v438, ha, Q_HO_7, Q_HO_8, Q_BK355, Q_HB, Q_HO415, Q_HO418, Q_HO421, Q_HO424, Q_HO427, Q_HO430, Q_HO433, Q_HO436, Q_HO439⟩ hb_ hon hoff
                    refine ⟨_, rfl, fun K hK => ?_⟩
                    have e66 : a.tmps[66]? = some (v426) := by rw [ha]; exact putSel_on (e := (6, 66, v426)) 4 rfl rfl (hon 6 (by kernel_rfl)) rfl
                    replace ha := Aside0.mk ha
                    have HO_7 := Aside0.mk Q_HO_7
                    have HO_8 := Aside0.mk Q_HO_8
                    have BK355 := Aside0.mk Q_BK355
                    have HB := Aside0.mk Q_HB
                    have HO415 := Aside0.mk (Q_HO415 (hon 1 (by kernel_rfl)))
                    have HO418 := Aside0.mk (Q_HO418 (hon 2 (by kernel_rfl)))
                    have HO421 := Aside0.mk (Q_HO421 (hon 4 (by kernel_rfl)))
                    have HO424 := Aside0.mk (Q_HO424 (hon 5 (by kernel_rfl)))
                    have HO427 := Aside0.mk (Q_HO427 (hon 6 (by kernel_rfl)))
                    obtain ⟨Ao96, co96, eo96⟩ := Kd.N_slice HO427.out
                    (first | subst eo96 | (injection eo96 with f1_ f2_ f3_; have f4_ := f1_.symm; have f5_ := f3_.symm; clear f1_ f2_ f3_; subst f4_; subst f5_))
                    refine goes_ Tryd.func21 (by kernel_rfl) rfl #[.int .i64 8, .slice Ao96 y425.length co96] (by rfl) rfl rfl (by first | (simp only [List.map_toArray, List.map_cons, List.map_nil, Act.eval, Array.getD_eq_getD_getElem?, Option.getD_some, e66]; done) | (simp only [List.map_toArray, List.map_cons, List.map_nil, Act.eval, Array.getD_eq_getD_getElem?, Option.getD_some, e66]; rfl)) ?_
                    with_reducible refine (foretellkeep_joined.calls kj57 8 _ _ y425 t428 _ ?side1 ?side2 A76.out).mono ?_
                    (case side1 => repeat (first | exact (Kd.N_reads' HO427.out).2.2 | (with_reducible refine Kd.C_alloc ?_ _) | (with_reducible refine Kd.C_drewN ?_ _) | (with_reducible refine Kd.C_drew ?_)))
                    (case side2 => exact (Kd.N_reads' HO427.out).2.1)
                    rintro e w97 ⟨v429, rfl, ho0, hb⟩
                    refine ⟨_, rfl, ?_⟩
                    have n0_ := Aside0.mk (Kd.V_below (by (with_reducible repeat (first | apply Kd.V_alloc | apply Kd.V_drewN | apply Kd.V_drew)); exact HO_7.out) hb)
                    have n1_ := Aside0.mk (Kd.V_below (by (with_reducible repeat (first | apply Kd.V_alloc | apply Kd.V_drewN | apply Kd.V_drew)); exact HO_8.out) hb)
                    have n2_ := Aside0.mk (Kd.N_below (by (with_reducible repeat (first | apply Kd.N_alloc | apply Kd.N_drewN | apply Kd.N_drew)); exact HO415.out) hb)
                    have n3_ := Aside0.mk (Kd.V_below (by (with_reducible repeat (first | apply Kd.V_alloc | apply Kd.V_drewN | apply Kd.V_drew)); exact HO418.out) hb)
                    have n4_ := Aside0.mk (Kd.N_below (by (with_reducible repeat (first | apply Kd.N_alloc | apply Kd.N_drewN | apply Kd.N_drew)); exact HO421.out) hb)
                    have n5_ := Aside0.mk (Kd.V_below (by (with_reducible repeat (first | apply Kd.V_alloc | apply Kd.V_drewN | apply Kd.V_drew)); exact HO424.out) hb)
                    have n6_ := Aside0.mk (Kd.N_below (by (with_reducible repeat (first | apply Kd.N_alloc | apply Kd.N_drewN | apply Kd.N_drew)); exact HO427.out) hb)
                    have n7_ := Aside0.mk (Kd.V_lower (Kd.V_mono (ok' := fun k_ => k_ ≠ gb355) (Kd.R_V (Kd.R_bound ho0)) (fun k_ hk_ => (Kd.freshB (g := gb355) (o := .cells #[.int .i64 a2_0, .int .i64 a2_1, .int .i64 a2_2] 45 (0, 0)) (by (with_reducible repeat (first | refine blk_drewN ?_ _ | refine blk_drew ?_ | refine blk_alloc ?_ _)); exact BK355.out) k_ hk_.2.1))) (below_size (by repeat (first | (with_reducible first | exact HB.out | apply below_alloc | apply pw_below_drewN | apply below_drew1 | refine below_set ?_ GE355.out) | exact HB.out))))
                    have n8_ := Aside0.mk (blk_below (g := gb355) (o := .cells #[.int .i64 a2_0, .int .i64 a2_1, .int .i64 a2_2] 45 (0, 0)) (by (with_reducible repeat (first | refine blk_drewN ?_ _ | refine blk_drew ?_ | refine blk_alloc ?_ _)); exact BK355.out) hb)
                    have n9_ := Aside0.mk (below_step (by repeat (first | (with_reducible first | exact HB.out | apply below_alloc | apply pw_below_drewN | apply below_drew1 | refine below_set ?_ GE355.out) | exact HB.out)) hb)
                    clear HO_7
                    clear HO_8
                    clear HO415
                    clear HO418
                    clear HO421
                    clear HO424
                    clear HO427
                    clear BK355
                    clear HB
                    have HO_7 := n0_
                    have HO_8 := n1_
                    have HO415 := n2_
                    have HO418 := n3_
                    have HO421 := n4_
                    have HO424 := n5_
                    have HO427 := n6_
                    have HO430 := n7_
                    have BK355 := n8_
                    have HB := n9_
                    clear n0_ n1_ n2_ n3_ n4_ n5_ n6_ n7_ n8_ n9_
                    (try clear hb)
                    (try clear hb2)
                    (try clear hk)
                    (try clear hi)
                    (try clear ho0)
                    refine hK.out _ _ ⟨v414, v417, v420, v423, .slice Ao96 y425.length co96, v429, v432, v435, v438, (by rw [ha.out]; exact putSel_upk 5 hb_ rfl rfl rfl), (by (with_reducible repeat (first | apply Kd.V_alloc | apply Kd.V_drewN | apply Kd.V_drew)); exact HO_7.out), (by (with_reducible repeat (first | apply Kd.V_alloc | apply Kd.V_drewN | apply Kd.V_drew)); exact HO_8.out), (by (with_reducible repeat (first | refine blk_drewN ?_ _ | refine blk_drew ?_ | refine blk_alloc ?_ _)); exact BK355.out), (by repeat (first | (with_reducible first | exact HB.out | apply below_alloc | apply pw_below_drewN | apply below_drew1 | refine below_set ?_ GE355.out) | exact HB.out)), fun _ => (by (with_reducible repeat (first | apply Kd.N_alloc | apply Kd.N_drewN | apply Kd.N_drew)); exact HO415.out), fun _ => (by (with_reducible repeat (first | apply Kd.V_alloc | apply Kd.V_drewN | apply Kd.V_drew)); exact HO418.out), fun _ => (by (with_reducible repeat (first | apply Kd.N_alloc | apply Kd.N_drewN | apply Kd.N_drew)); exact HO421.out), fun _ => (by (with_reducible repeat (first | apply Kd.V_alloc | apply Kd.V_drewN | apply Kd.V_drew)); exact HO424.out), fun _ => (by (with_reducible repeat (first | apply Kd.N_alloc | apply Kd.N_drewN | apply Kd.N_drew)); exact HO427.out), fun _ => (by (with_reducible repeat (first | apply Kd.V_alloc | apply Kd.V_drewN | apply Kd.V_drew)); exact HO430.out), fun h0_ => absurd ((hoff 8 (by kernel_rfl)).symm.trans h0_) (by decide), fun h0_ => absurd ((hoff 9 (by kernel_rfl)).symm.trans h0_) (by decide), fun h0_ => absurd ((hoff 11 (by kernel_rfl)).symm.trans h0_) (by decide)⟩
                  refine steps_cons ?_ ?_
                  · rintro b a w' ⟨v414, v417, v420, v423, v426, v429, v432, v435, v438, ha, Q_HO_7, Q_HO_8, Q_BK355, Q_HB, Q_HO415, Q_HO418, Q_HO421, Q_HO424, Q_HO427, Q_HO430, Q_HO433, Q_HO436, Q_HO439⟩ hb_ hon hoff
                    refine ⟨_, rfl, fun K hK => ?_⟩
                    have e67 : a.tmps[67]? = some (v429) := by rw [ha]; exact putSel_on (e := (7, 67, v429)) 5 rfl rfl (hon 7 (by kernel_rfl)) rfl
                    replace ha := Aside0.mk ha
                    have HO_7 := Aside0.mk Q_HO_7
                    have HO_8 := Aside0.mk Q_HO_8
                    have BK355 := Aside0.mk Q_BK355
                    have HB := Aside0.mk Q_HB
                    have HO415 := Aside0.mk (Q_HO415 (hon 1 (by kernel_rfl)))
                    have HO418 := Aside0.mk (Q_HO418 (hon 2 (by kernel_rfl)))
                    have HO421 := Aside0.mk (Q_HO421 (hon 4 (by kernel_rfl)))
                    have HO424 := Aside0.mk (Q_HO424 (hon 5 (by kernel_rfl)))
                    have HO427 := Aside0.mk (Q_HO427 (hon 6 (by kernel_rfl)))
                    have HO430 := Aside0.mk (Q_HO430 (hon 7 (by kernel_rfl)))
                    obtain ⟨Ao98, co98, eo98⟩ := Kd.V_slice HO430.out
                    (first | subst eo98 | (injection eo98 with f1_ f2_ f3_; have f4_ := f1_.symm; have f5_ := f3_.symm; clear f1_ f2_ f3_; subst f4_; subst f5_))
                    refine Kd.N_lit_step (Kd.slice 32 k32) _ 23 ?hg (N' := 68) ?hd (xs := ([t428] : List (List (S32)))) (inner := [.slice Ao98 t428.length co98]) (ok := (fun k_ => k_ ≠ gb355)) (okp := (fun k_ => k_ ≠ gb355)) ?hr ?hp (fun _ hk => hk) ((show ∀ k_, w'.heap.size ≤ k_ → (fun k_ => k_ ≠ gb355) k_ from fun k_ hk => Kd.freshB (g := gb355) (o := .cells #[.int .i64 a2_0, .int .i64 a2_1, .int .i64 a2_2] 45 (0, 0)) (by (with_reducible repeat (first | refine blk_drewN ?_ _ | refine blk_drew ?_ | refine blk_alloc ?_ _)); exact BK355.out) k_ hk) _ (Nat.le_refl _)) (Below.refl _ _) (Nat.le_refl _) (by simp) ?_; (case hd => rfl); (case hg => rfl); (case hr => first | (go_simp; done) | (go_simp; rfl)); (case hp => exact (Reps.one (show Kd.FK (Kd.slice 32 k32) _ _ t428 [.slice Ao98 t428.length co98] from (Kd.FK_slice_mk (Kd.V_reads' (Kd.V_mono (ok' := (fun k_ => k_ ≠ gb355)) (HO430.out) (fun k_ hk => hk))).2.1 (Kd.V_F (Kd.V_mono (ok' := (fun k_ => k_ ≠ gb355)) (HO430.out) (fun k_ hk => hk))))) (Reps.none _ _)))
                    intro v432 w99 ho100 hb hg_ hnew_
                    clear hg_ hnew_
                    (first | rw [← Ny431.out] at ho100 | (simp only [Int.reduceToNat] at ho100; rw [← Ny431.out] at ho100))
                    have n0_ := Aside0.mk (Kd.V_elder' (by (with_reducible repeat (first | apply Kd.V_alloc | apply Kd.V_drewN | apply Kd.V_drew)); exact HO_7.out) (by first | exact Kd.N_base ho100 | exact Kd.S_base ho100 | exact Kd.R_base ho100) hb)
                    have n1_ := Aside0.mk (Kd.V_elder' (by (with_reducible repeat (first | apply Kd.V_alloc | apply Kd.V_drewN | apply Kd.V_drew)); exact HO_8.out) (by first | exact Kd.N_base ho100 | exact Kd.S_base ho100 | exact Kd.R_base ho100) hb)
                    have n2_ := Aside0.mk (Kd.N_elder' (by (with_reducible repeat (first | apply Kd.N_alloc | apply Kd.N_drewN | apply Kd.N_drew)); exact HO415.out) (by first | exact Kd.N_base ho100 | exact Kd.S_base ho100 | exact Kd.R_base ho100) hb)
                    have n3_ := Aside0.mk (Kd.V_elder' (by (with_reducible repeat (first | apply Kd.V_alloc | apply Kd.V_drewN | apply Kd.V_drew)); exact HO418.out) (by first | exact Kd.N_base ho100 | exact Kd.S_base ho100 | exact Kd.R_base ho100) hb)
                    have n4_ := Aside0.mk (Kd.N_elder' (by (with_reducible repeat (first | apply Kd.N_alloc | apply Kd.N_drewN | apply Kd.N_drew)); exact HO421.out) (by first | exact Kd.N_base ho100 | exact Kd.S_base ho100 | exact Kd.R_base ho100) hb)
                    have n5_ := Aside0.mk (Kd.V_elder' (by (with_reducible repeat (first | apply Kd.V_alloc | apply Kd.V_drewN | apply Kd.V_drew)); exact HO424.out) (by first | exact Kd.N_base ho100 | exact Kd.S_base ho100 | exact Kd.R_base ho100) hb)
                    have n6_ := Aside0.mk (Kd.N_elder' (by (with_reducible repeat (first | apply Kd.N_alloc | apply Kd.N_drewN | apply Kd.N_drew)); exact HO427.out) (by first | exact Kd.N_base ho100 | exact Kd.S_base ho100 | exact Kd.R_base ho100) hb)
                    have n7_ := Aside0.mk (Kd.V_elder' (by (with_reducible repeat (first | apply Kd.V_alloc | apply Kd.V_drewN | apply Kd.V_drew)); exact HO430.out) (by first | exact Kd.N_base ho100 | exact Kd.S_base ho100 | exact Kd.R_base ho100) hb)
                    have n8_ := Aside0.mk (Kd.N_lower ho100 (below_size (by repeat (first | (with_reducible first | exact HB.out | apply below_alloc | apply pw_below_drewN | apply below_drew1 | refine below_set ?_ GE355.out) | exact HB.out))))
                    have n9_ := Aside0.mk (blk_below (g := gb355) (o := .cells #[.int .i64 a2_0, .int .i64 a2_1, .int .i64 a2_2] 45 (0, 0)) (by (with_reducible repeat (first | refine blk_drewN ?_ _ | refine blk_drew ?_ | refine blk_alloc ?_ _)); exact BK355.out) hb)
                    have n10_ := Aside0.mk (below_step (by repeat (first | (with_reducible first | exact HB.out | apply below_alloc | apply pw_below_drewN | apply below_drew1 | refine below_set ?_ GE355.out) | exact HB.out)) hb)
                    clear HO_7
                    clear HO_8
                    clear HO415
                    clear HO418
                    clear HO421
                    clear HO424
                    clear HO427
                    clear HO430
                    clear BK355
                    clear HB
                    have HO_7 := n0_
                    have HO_8 := n1_
                    have HO415 := n2_
                    have HO418 := n3_
                    have HO421 := n4_
                    have HO424 := n5_
                    have HO427 := n6_
                    have HO430 := n7_
                    have HO433 := n8_
                    have BK355 := n9_
                    have HB := n10_
                    clear n0_ n1_ n2_ n3_ n4_ n5_ n6_ n7_ n8_ n9_ n10_
                    clear hb ho100
                    refine hK.out _ _ ⟨v414, v417, v420, v423, v426, .slice Ao98 t428.length co98, v432, v435, v438, (by rw [ha.out]; exact putSel_upk 6 hb_ rfl rfl rfl), (by (with_reducible repeat (first | apply Kd.V_alloc | apply Kd.V_drewN | apply Kd.V_drew)); exact Kd.V_mono HO_7.out (fun _ hk => by first | exact ⟨hk.1.1, ⟨hk.1.2.1, ⟨hk.1.2.2.1, ⟨hk.2, hk.1.2.2.2⟩⟩⟩⟩ | exact hk.1 | exact hk)), (by (with_reducible repeat (first | apply Kd.V_alloc | apply Kd.V_drewN | apply Kd.V_drew)); exact Kd.V_mono HO_8.out (fun _ hk => by first | exact ⟨hk.1.1, ⟨hk.1.2.1, ⟨hk.1.2.2.1, ⟨hk.2, hk.1.2.2.2⟩⟩⟩⟩ | exact hk.1 | exact hk)), (by (with_reducible repeat (first | refine blk_drewN ?_ _ | refine blk_drew ?_ | refine blk_alloc ?_ _)); exact BK355.out), (by repeat (first | (with_reducible first | exact HB.out | apply below_alloc | apply pw_below_drewN | apply below_drew1 | refine below_set ?_ GE355.out) | exact HB.out)), fun _ => (by (with_reducible repeat (first | apply Kd.N_alloc | apply Kd.N_drewN | apply Kd.N_drew)); exact Kd.N_mono HO415.out (fun _ hk => by first | exact ⟨hk.1.1, ⟨hk.1.2.1, ⟨hk.2, hk.1.2.2⟩⟩⟩ | exact hk.1 | exact hk)), fun _ => (by (with_reducible repeat (first | apply Kd.V_alloc | apply Kd.V_drewN | apply Kd.V_drew)); exact Kd.V_mono HO418.out (fun _ hk => by first | exact ⟨hk.1.1, ⟨hk.1.2.1, ⟨hk.2, hk.1.2.2⟩⟩⟩ | exact hk.1 | exact hk)), fun _ => (by (with_reducible repeat (first | apply Kd.N_alloc | apply Kd.N_drewN | apply Kd.N_drew)); exact Kd.N_mono HO421.out (fun _ hk => by first | exact ⟨hk.1.1, ⟨hk.1.2.1, ⟨hk.2, hk.1.2.2⟩⟩⟩ | exact hk.1 | exact hk)), fun _ => (by (with_reducible repeat (first | apply Kd.V_alloc | apply Kd.V_drewN | apply Kd.V_drew)); exact Kd.V_mono HO424.out (fun _ hk => by first | exact ⟨hk.1.1, ⟨hk.2, hk.1.2⟩⟩ | exact hk.1 | exact hk)), fun _ => (by (with_reducible repeat (first | apply Kd.N_alloc | apply Kd.N_drewN | apply Kd.N_drew)); exact Kd.N_mono HO427.out (fun _ hk => by first | exact ⟨hk.2, hk.1⟩ | exact hk.1 | exact hk)), fun _ => (by (with_reducible repeat (first | apply Kd.V_alloc | apply Kd.V_drewN | apply Kd.V_drew)); exact Kd.V_mono HO430.out (fun _ hk => by first | exact ⟨hk.2, hk.1⟩ | exact hk.1 | exact hk)), fun _ => (by (with_reducible repeat (first | apply Kd.N_alloc | apply Kd.N_drewN | apply Kd.N_drew)); exact HO433.out), fun h0_ => absurd ((hoff 9 (by kernel_rfl)).symm.trans h0_) (by decide), fun h0_ => absurd ((hoff 11 (by kernel_rfl)).symm.trans h0_) (by decide)⟩
                  refine steps_cons ?_ ?_
                  · rintro b a w' ⟨v414, v417, v420, v423, v426, v429, v432, v435, v438, ha, Q_HO_7, Q_HO_8, Q_BK355, Q_HB, Q_HO415, Q_HO418, Q_HO421, Q_HO424, Q_HO427, Q_HO430, Q_HO433, Q_HO436, Q_HO439⟩ hb_ hon hoff
                    refine ⟨_, rfl, fun K hK => ?_⟩
                    have e68 : a.tmps[68]? = some (v432) := by rw [ha]; exact putSel_on (e := (8, 68, v432)) 6 rfl rfl (hon 8 (by kernel_rfl)) rfl
                    replace ha := Aside0.mk ha
                    have HO_7 := Aside0.mk Q_HO_7
                    have HO_8 := Aside0.mk Q_HO_8
                    have BK355 := Aside0.mk Q_BK355
                    have HB := Aside0.mk Q_HB
                    have HO415 := Aside0.mk (Q_HO415 (hon 1 (by kernel_rfl)))
                    have HO418 := Aside0.mk (Q_HO418 (hon 2 (by kernel_rfl)))
                    have HO421 := Aside0.mk (Q_HO421 (hon 4 (by kernel_rfl)))
                    have HO424 := Aside0.mk (Q_HO424 (hon 5 (by kernel_rfl)))
                    have HO427 := Aside0.mk (Q_HO427 (hon 6 (by kernel_rfl)))
                    have HO430 := Aside0.mk (Q_HO430 (hon 7 (by kernel_rfl)))
                    have HO433 := Aside0.mk (Q_HO433 (hon 8 (by kernel_rfl)))
                    obtain ⟨Ao101, co101, eo101⟩ := Kd.N_slice HO433.out
                    (first | subst eo101 | (injection eo101 with f1_ f2_ f3_; have f4_ := f1_.symm; have f5_ := f3_.symm; clear f1_ f2_ f3_; subst f4_; subst f5_))
                    refine goes_ Tryd.func21 (by kernel_rfl) rfl #[.int .i64 10, .slice Ao101 y431.length co101] (by rfl) rfl rfl (by first | (simp only [List.map_toArray, List.map_cons, List.map_nil, Act.eval, Array.getD_eq_getD_getElem?, Option.getD_some, e68]; done) | (simp only [List.map_toArray, List.map_cons, List.map_nil, Act.eval, Array.getD_eq_getD_getElem?, Option.getD_some, e68]; rfl)) ?_
                    with_reducible refine (foretellkeep_joined.calls kj57 10 _ _ y431 t434 _ ?side1 ?side2 A77.out).mono ?_
                    (case side1 => repeat (first | exact (Kd.N_reads' HO433.out).2.2 | (with_reducible refine Kd.C_alloc ?_ _) | (with_reducible refine Kd.C_drewN ?_ _) | (with_reducible refine Kd.C_drew ?_)))
                    (case side2 => exact (Kd.N_reads' HO433.out).2.1)
                    rintro e w102 ⟨v435, rfl, ho0, hb⟩
                    refine ⟨_, rfl, ?_⟩
                    have n0_ := Aside0.mk (Kd.V_below (by (with_reducible repeat (first | apply Kd.V_alloc | apply Kd.V_drewN | apply Kd.V_drew)); exact HO_7.out) hb)
                    have n1_ := Aside0.mk (Kd.V_below (by (with_reducible repeat (first | apply Kd.V_alloc | apply Kd.V_drewN | apply Kd.V_drew)); exact HO_8.out) hb)
                    have n2_ := Aside0.mk (Kd.N_below (by (with_reducible repeat (first | apply Kd.N_alloc | apply Kd.N_drewN | apply Kd.N_drew)); exact HO415.out) hb)
                    have n3_ := Aside0.mk (Kd.V_below (by (with_reducible repeat (first | apply Kd.V_alloc | apply Kd.V_drewN | apply Kd.V_drew)); exact HO418.out) hb)
                    have n4_ := Aside0.mk (Kd.N_below (by (with_reducible repeat (first | apply Kd.N_alloc | apply Kd.N_drewN | apply Kd.N_drew)); exact HO421.out) hb)
                    have n5_ := Aside0.mk (Kd.V_below (by (with_reducible repeat (first | apply Kd.V_alloc | apply Kd.V_drewN | apply Kd.V_drew)); exact HO424.out) hb)
                    have n6_ := Aside0.mk (Kd.N_below (by (with_reducible repeat (first | apply Kd.N_alloc | apply Kd.N_drewN | apply Kd.N_drew)); exact HO427.out) hb)
                    have n7_ := Aside0.mk (Kd.V_below (by (with_reducible repeat (first | apply Kd.V_alloc | apply Kd.V_drewN | apply Kd.V_drew)); exact HO430.out) hb)
                    have n8_ := Aside0.mk (Kd.N_below (by (with_reducible repeat (first | apply Kd.N_alloc | apply Kd.N_drewN | apply Kd.N_drew)); exact HO433.out) hb)
                    have n9_ := Aside0.mk (Kd.V_lower (Kd.V_mono (ok' := fun k_ => k_ ≠ gb355) (Kd.R_V (Kd.R_bound ho0)) (fun k_ hk_ => (Kd.freshB (g := gb355) (o := .cells #[.int .i64 a2_0, .int .i64 a2_1, .int .i64 a2_2] 45 (0, 0)) (by (with_reducible repeat (first | refine blk_drewN ?_ _ | refine blk_drew ?_ | refine blk_alloc ?_ _)); exact BK355.out) k_ hk_.2.1))) (below_size (by repeat (first | (with_reducible first | exact HB.out | apply below_alloc | apply pw_below_drewN | apply below_drew1 | refine below_set ?_ GE355.out) | exact HB.out))))
                    have n10_ := Aside0.mk (blk_below (g := gb355) (o := .cells #[.int .i64 a2_0, .int .i64 a2_1, .int .i64 a2_2] 45 (0, 0)) (by (with_reducible repeat (first | refine blk_drewN ?_ _ | refine blk_drew ?_ | refine blk_alloc ?_ _)); exact BK355.out) hb)
                    have n11_ := Aside0.mk (below_step (by repeat (first | (with_reducible first | exact HB.out | apply below_alloc | apply pw_below_drewN | apply below_drew1 | refine below_set ?_ GE355.out) | exact HB.out)) hb)
                    clear HO_7
                    clear HO_8
                    clear HO415
                    clear HO418
                    clear HO421
                    clear HO424
                    clear HO427
                    clear HO430
                    clear HO433
                    clear BK355
                    clear HB
                    have HO_7 := n0_
                    have HO_8 := n1_
                    have HO415 := n2_
                    have HO418 := n3_
                    have HO421 := n4_
                    have HO424 := n5_
                    have HO427 := n6_
                    have HO430 := n7_
                    have HO433 := n8_
                    have HO436 := n9_
                    have BK355 := n10_
                    have HB := n11_
                    clear n0_ n1_ n2_ n3_ n4_ n5_ n6_ n7_ n8_ n9_ n10_ n11_
                    (try clear hb)
                    (try clear hb2)
                    (try clear hk)
                    (try clear hi)
                    (try clear ho0)
                    refine hK.out _ _ ⟨v414, v417, v420, v423, v426, v429, .slice Ao101 y431.length co101, v435, v438, (by rw [ha.out]; exact putSel_upk 7 hb_ rfl rfl rfl), (by (with_reducible repeat (first | apply Kd.V_alloc | apply Kd.V_drewN | apply Kd.V_drew)); exact HO_7.out), (by (with_reducible repeat (first | apply Kd.V_alloc | apply Kd.V_drewN | apply Kd.V_drew)); exact HO_8.out), (by (with_reducible repeat (first | refine blk_drewN ?_ _ | refine blk_drew ?_ | refine blk_alloc ?_ _)); exact BK355.out), (by repeat (first | (with_reducible first | exact HB.out | apply below_alloc | apply pw_below_drewN | apply below_drew1 | refine below_set ?_ GE355.out) | exact HB.out)), fun _ => (by (with_reducible repeat (first | apply Kd.N_alloc | apply Kd.N_drewN | apply Kd.N_drew)); exact HO415.out), fun _ => (by (with_reducible repeat (first | apply Kd.V_alloc | apply Kd.V_drewN | apply Kd.V_drew)); exact HO418.out), fun _ => (by (with_reducible repeat (first | apply Kd.N_alloc | apply Kd.N_drewN | apply Kd.N_drew)); exact HO421.out), fun _ => (by (with_reducible repeat (first | apply Kd.V_alloc | apply Kd.V_drewN | apply Kd.V_drew)); exact HO424.out), fun _ => (by (with_reducible repeat (first | apply Kd.N_alloc | apply Kd.N_drewN | apply Kd.N_drew)); exact HO427.out), fun _ => (by (with_reducible repeat (first | apply Kd.V_alloc | apply Kd.V_drewN | apply Kd.V_drew)); exact HO430.out), fun _ => (by (with_reducible repeat (first | apply Kd.N_alloc | apply Kd.N_drewN | apply Kd.N_drew)); exact HO433.out), fun _ => (by (with_reducible repeat (first | apply Kd.V_alloc | apply Kd.V_drewN | apply Kd.V_drew)); exact HO436.out), fun h0_ => absurd ((hoff 11 (by kernel_rfl)).symm.trans h0_) (by decide)⟩
                  refine steps_cons ?_ ?_
                  · rintro b a w' ⟨v414, v417, v420, v423, v426, v429, v432, v435, v438, ha, Q_HO_7, Q_HO_8, Q_BK355, Q_HB, Q_HO415, Q_HO418, Q_HO421, Q_HO424, Q_HO427, Q_HO430, Q_HO433, Q_HO436, Q_HO439⟩ hb_ hon hoff
                    refine ⟨_, rfl, fun K hK => ?_⟩
                    have e5 : a.tmps[5]? = some (.pointer (some ⟨gb355, 0, none⟩)) := by rw [ha]; exact (putSel_off rfl).trans rfl
                    replace ha := Aside0.mk ha
                    have HO_7 := Aside0.mk Q_HO_7
                    have HO_8 := Aside0.mk Q_HO_8
                    have BK355 := Aside0.mk Q_BK355
                    have HB := Aside0.mk Q_HB
                    have hc0_ : w'.cell? ⟨gb355, 0, none⟩ = some (.int .i64 a2_0) := (blk_cell BK355.out 0).trans rfl
                    have hc1_ : w'.cell? ⟨gb355, 1, none⟩ = some (.int .i64 a2_1) := (blk_cell BK355.out 1).trans rfl
                    have hc2_ : w'.cell? ⟨gb355, 2, none⟩ = some (.int .i64 a2_2) := (blk_cell BK355.out 2).trans rfl
                    refine value_ (w1 := w') (v := .agg #[.int .i64 a2_0, .int .i64 a2_1, .int .i64 a2_2]) (by rfl) rfl ?_ ?_
                    · go_simp
                      (try simp only [i64_w])
                      try rfl
                    refine hK.out _ _ ⟨v414, v417, v420, v423, v426, v429, v432, v435, v438, (by rw [ha.out]; exact putSel_upk 8 hb_ rfl rfl rfl), Q_HO_7, Q_HO_8, Q_BK355, Q_HB, Q_HO415, Q_HO418, Q_HO421, Q_HO424, Q_HO427, Q_HO430, Q_HO433, Q_HO436, fun h0_ => absurd ((hoff 11 (by kernel_rfl)).symm.trans h0_) (by decide)⟩
                  refine steps_cons ?_ ?_
                  · rintro b a w' ⟨v414, v417, v420, v423, v426, v429, v432, v435, v438, ha, Q_HO_7, Q_HO_8, Q_BK355, Q_HB, Q_HO415, Q_HO418, Q_HO421, Q_HO424, Q_HO427, Q_HO430, Q_HO433, Q_HO436, Q_HO439⟩ hb_ hon hoff
                    refine ⟨_, rfl, fun K hK => ?_⟩
                    have e70 : a.tmps[70]? = some (.agg #[.int .i64 a2_0, .int .i64 a2_1, .int .i64 a2_2]) := by rw [ha]; exact putSel_on (e := (10, 70, .agg #[.int .i64 a2_0, .int .i64 a2_1, .int .i64 a2_2])) 8 rfl rfl (hon 10 (by kernel_rfl)) rfl
                    replace ha := Aside0.mk ha
                    have HO_7 := Aside0.mk Q_HO_7
                    have HO_8 := Aside0.mk Q_HO_8
                    have BK355 := Aside0.mk Q_BK355
                    have HB := Aside0.mk Q_HB
                    have HO415 := Aside0.mk (Q_HO415 (hon 1 (by kernel_rfl)))
                    have HO418 := Aside0.mk (Q_HO418 (hon 2 (by kernel_rfl)))
                    have HO421 := Aside0.mk (Q_HO421 (hon 4 (by kernel_rfl)))
                    have HO424 := Aside0.mk (Q_HO424 (hon 5 (by kernel_rfl)))
                    have HO427 := Aside0.mk (Q_HO427 (hon 6 (by kernel_rfl)))
                    have HO430 := Aside0.mk (Q_HO430 (hon 7 (by kernel_rfl)))
                    have HO433 := Aside0.mk (Q_HO433 (hon 8 (by kernel_rfl)))
                    have HO436 := Aside0.mk (Q_HO436 (hon 9 (by kernel_rfl)))
                    refine goes_ Tryd.func25 (by kernel_rfl) rfl #[.agg #[.int .i64 a2_0, .int .i64 a2_1, .int .i64 a2_2]] (by rfl) rfl rfl (by first | (simp only [List.map_toArray, List.map_cons, List.map_nil, Act.eval, Array.getD_eq_getD_getElem?, Option.getD_some, e70]; done) | (simp only [List.map_toArray, List.map_cons, List.map_nil, Act.eval, Array.getD_eq_getD_getElem?, Option.getD_some, e70]; rfl)) ?_
                    with_reducible refine (foretellkeep_env.calls a2_0 a2_1 a2_2 t437 _ A78.out).mono ?_
                    rintro e w103 ⟨v438, rfl, ho0, hb⟩
                    refine ⟨_, rfl, ?_⟩
                    have n0_ := Aside0.mk (Kd.V_below (by (with_reducible repeat (first | apply Kd.V_alloc | apply Kd.V_drewN | apply Kd.V_drew)); exact HO_7.out) hb)
                    have n1_ := Aside0.mk (Kd.V_below (by (with_reducible repeat (first | apply Kd.V_alloc | apply Kd.V_drewN | apply Kd.V_drew)); exact HO_8.out) hb)
                    have n2_ := Aside0.mk (Kd.N_below (by (with_reducible repeat (first | apply Kd.N_alloc | apply Kd.N_drewN | apply Kd.N_drew)); exact HO415.out) hb)
                    have n3_ := Aside0.mk (Kd.V_below (by (with_reducible repeat (first | apply Kd.V_alloc | apply Kd.V_drewN | apply Kd.V_drew)); exact HO418.out) hb)
                    have n4_ := Aside0.mk (Kd.N_below (by (with_reducible repeat (first | apply Kd.N_alloc | apply Kd.N_drewN | apply Kd.N_drew)); exact HO421.out) hb)
                    have n5_ := Aside0.mk (Kd.V_below (by (with_reducible repeat (first | apply Kd.V_alloc | apply Kd.V_drewN | apply Kd.V_drew)); exact HO424.out) hb)
                    have n6_ := Aside0.mk (Kd.N_below (by (with_reducible repeat (first | apply Kd.N_alloc | apply Kd.N_drewN | apply Kd.N_drew)); exact HO427.out) hb)
                    have n7_ := Aside0.mk (Kd.V_below (by (with_reducible repeat (first | apply Kd.V_alloc | apply Kd.V_drewN | apply Kd.V_drew)); exact HO430.out) hb)
                    have n8_ := Aside0.mk (Kd.N_below (by (with_reducible repeat (first | apply Kd.N_alloc | apply Kd.N_drewN | apply Kd.N_drew)); exact HO433.out) hb)
                    have n9_ := Aside0.mk (Kd.V_below (by (with_reducible repeat (first | apply Kd.V_alloc | apply Kd.V_drewN | apply Kd.V_drew)); exact HO436.out) hb)
                    have n10_ := Aside0.mk (Kd.V_lower (Kd.V_mono (ok' := fun k_ => k_ ≠ gb355) (Kd.R_V (Kd.R_bound ho0)) (fun k_ hk_ => (Kd.freshB (g := gb355) (o := .cells #[.int .i64 a2_0, .int .i64 a2_1, .int .i64 a2_2] 45 (0, 0)) (by (with_reducible repeat (first | refine blk_drewN ?_ _ | refine blk_drew ?_ | refine blk_alloc ?_ _)); exact BK355.out) k_ hk_.2.1))) (below_size (by repeat (first | (with_reducible first | exact HB.out | apply below_alloc | apply pw_below_drewN | apply below_drew1 | refine below_set ?_ GE355.out) | exact HB.out))))
                    have n11_ := Aside0.mk (blk_below (g := gb355) (o := .cells #[.int .i64 a2_0, .int .i64 a2_1, .int .i64 a2_2] 45 (0, 0)) (by (with_reducible repeat (first | refine blk_drewN ?_ _ | refine blk_drew ?_ | refine blk_alloc ?_ _)); exact BK355.out) hb)
                    have n12_ := Aside0.mk (below_step (by repeat (first | (with_reducible first | exact HB.out | apply below_alloc | apply pw_below_drewN | apply below_drew1 | refine below_set ?_ GE355.out) | exact HB.out)) hb)
                    clear HO_7
                    clear HO_8
                    clear HO415
                    clear HO418
                    clear HO421
                    clear HO424
                    clear HO427
                    clear HO430
                    clear HO433
                    clear HO436
                    clear BK355
                    clear HB
                    have HO_7 := n0_
                    have HO_8 := n1_
                    have HO415 := n2_
                    have HO418 := n3_
                    have HO421 := n4_
                    have HO424 := n5_
                    have HO427 := n6_
                    have HO430 := n7_
                    have HO433 := n8_
                    have HO436 := n9_
                    have HO439 := n10_
                    have BK355 := n11_
                    have HB := n12_
                    clear n0_ n1_ n2_ n3_ n4_ n5_ n6_ n7_ n8_ n9_ n10_ n11_ n12_
                    (try clear hb)
                    (try clear hb2)
                    (try clear hk)
                    (try clear hi)
                    (try clear ho0)
                    refine hK.out _ _ ⟨v414, v417, v420, v423, v426, v429, v432, v435, v438, (by rw [ha.out]; exact putSel_upk 9 hb_ rfl rfl rfl), (by (with_reducible repeat (first | apply Kd.V_alloc | apply Kd.V_drewN | apply Kd.V_drew)); exact HO_7.out), (by (with_reducible repeat (first | apply Kd.V_alloc | apply Kd.V_drewN | apply Kd.V_drew)); exact HO_8.out), (by (with_reducible repeat (first | refine blk_drewN ?_ _ | refine blk_drew ?_ | refine blk_alloc ?_ _)); exact BK355.out), (by repeat (first | (with_reducible first | exact HB.out | apply below_alloc | apply pw_below_drewN | apply below_drew1 | refine below_set ?_ GE355.out) | exact HB.out)), fun _ => (by (with_reducible repeat (first | apply Kd.N_alloc | apply Kd.N_drewN | apply Kd.N_drew)); exact HO415.out), fun _ => (by (with_reducible repeat (first | apply Kd.V_alloc | apply Kd.V_drewN | apply Kd.V_drew)); exact HO418.out), fun _ => (by (with_reducible repeat (first | apply Kd.N_alloc | apply Kd.N_drewN | apply Kd.N_drew)); exact HO421.out), fun _ => (by (with_reducible repeat (first | apply Kd.V_alloc | apply Kd.V_drewN | apply Kd.V_drew)); exact HO424.out), fun _ => (by (with_reducible repeat (first | apply Kd.N_alloc | apply Kd.N_drewN | apply Kd.N_drew)); exact HO427.out), fun _ => (by (with_reducible repeat (first | apply Kd.V_alloc | apply Kd.V_drewN | apply Kd.V_drew)); exact HO430.out), fun _ => (by (with_reducible repeat (first | apply Kd.N_alloc | apply Kd.N_drewN | apply Kd.N_drew)); exact HO433.out), fun _ => (by (with_reducible repeat (first | apply Kd.V_alloc | apply Kd.V_drewN | apply Kd.V_drew)); exact HO436.out), fun _ => (by (with_reducible repeat (first | apply Kd.V_alloc | apply Kd.V_drewN | apply Kd.V_drew)); exact HO439.out)⟩
                  refine steps_cons ?_ ?_
                  · rintro b a w' ⟨v414, v417, v420, v423, v426, v429, v432, v435, v438, ha, Q_HO_7, Q_HO_8, Q_BK355, Q_HB, Q_HO415, Q_HO418, Q_HO421, Q_HO424, Q_HO427, Q_HO430, Q_HO433, Q_HO436, Q_HO439⟩ hb_ hon hoff
                    refine ⟨_, rfl, fun K hK => ?_⟩
                    have e69 : a.tmps[69]? = some (v435) := by rw [ha]; exact putSel_on (e := (9, 69, v435)) 7 rfl rfl (hon 9 (by kernel_rfl)) rfl
                    have e71 : a.tmps[71]? = some (v438) := by rw [ha]; exact putSel_on (e := (11, 71, v438)) 9 rfl rfl (hon 11 (by kernel_rfl)) rfl
                    replace ha := Aside0.mk ha
                    have HO_7 := Aside0.mk Q_HO_7
                    have HO_8 := Aside0.mk Q_HO_8
                    have BK355 := Aside0.mk Q_BK355
                    have HB := Aside0.mk Q_HB
                    have HO415 := Aside0.mk (Q_HO415 (hon 1 (by kernel_rfl)))
                    have HO418 := Aside0.mk (Q_HO418 (hon 2 (by kernel_rfl)))
                    have HO421 := Aside0.mk (Q_HO421 (hon 4 (by kernel_rfl)))
                    have HO424 := Aside0.mk (Q_HO424 (hon 5 (by kernel_rfl)))
                    have HO427 := Aside0.mk (Q_HO427 (hon 6 (by kernel_rfl)))
                    have HO430 := Aside0.mk (Q_HO430 (hon 7 (by kernel_rfl)))
                    have HO433 := Aside0.mk (Q_HO433 (hon 8 (by kernel_rfl)))
                    have HO436 := Aside0.mk (Q_HO436 (hon 9 (by kernel_rfl)))
                    have HO439 := Aside0.mk (Q_HO439 (hon 11 (by kernel_rfl)))
                    obtain ⟨Ao104, co104, eo104⟩ := Kd.V_slice HO436.out
                    (first | subst eo104 | (injection eo104 with f1_ f2_ f3_; have f4_ := f1_.symm; have f5_ := f3_.symm; clear f1_ f2_ f3_; subst f4_; subst f5_))
                    obtain ⟨Ao105, co105, eo105⟩ := Kd.V_slice HO439.out
                    (first | subst eo105 | (injection eo105 with f1_ f2_ f3_; have f4_ := f1_.symm; have f5_ := f3_.symm; clear f1_ f2_ f3_; subst f4_; subst f5_))
                    refine goes_ Tryd.func24 (by kernel_rfl) rfl #[.slice Ao104 t434.length co104, .slice Ao105 t437.length co105] (by rfl) rfl rfl (by first | (simp only [List.map_toArray, List.map_cons, List.map_nil, Act.eval, Array.getD_eq_getD_getElem?, Option.getD_some, e69, e71]; done) | (simp only [List.map_toArray, List.map_cons, List.map_nil, Act.eval, Array.getD_eq_getD_getElem?, Option.getD_some, e69, e71]; rfl)) ?_
                    with_reducible refine (expr_Eval.calls kj57 _ _ t434 _ _ t437 t440 t441 _ ?side1 ?side2 ?side3 ?side4 ?side5 A79.out).mono ?_
                    (case side1 => repeat (first | exact (Kd.V_reads' HO436.out).2.2 | (with_reducible refine Kd.C_alloc ?_ _) | (with_reducible refine Kd.C_drewN ?_ _) | (with_reducible refine Kd.C_drew ?_)))
                    (case side2 => exact (Kd.V_reads' HO436.out).2.1)
                    (case side3 => repeat (first | exact (Kd.V_reads' HO439.out).2.2 | (with_reducible refine Kd.C_alloc ?_ _) | (with_reducible refine Kd.C_drewN ?_ _) | (with_reducible refine Kd.C_drew ?_)))
                    (case side4 => exact (Kd.V_reads' HO439.out).2.1)
                    (case side5 => first | exact hG_ | exact Glob.drewN hG_ _ | exact Glob.below hG_ (by repeat (first | (with_reducible first | exact HB.out | apply below_alloc | apply pw_below_drewN | apply below_drew1 | refine below_set ?_ GE355.out) | exact HB.out)))
                    rintro e w106 ⟨rfl, hb⟩
                    refine ⟨_, rfl, ?_⟩
                    have n0_ := Aside0.mk (Kd.V_below (by (with_reducible repeat (first | apply Kd.V_alloc | apply Kd.V_drewN | apply Kd.V_drew)); exact HO_7.out) hb)
                    have n1_ := Aside0.mk (Kd.V_below (by (with_reducible repeat (first | apply Kd.V_alloc | apply Kd.V_drewN | apply Kd.V_drew)); exact HO_8.out) hb)
                    have n2_ := Aside0.mk (Kd.N_below (by (with_reducible repeat (first | apply Kd.N_alloc | apply Kd.N_drewN | apply Kd.N_drew)); exact HO415.out) hb)
                    have n3_ := Aside0.mk (Kd.V_below (by (with_reducible repeat (first | apply Kd.V_alloc | apply Kd.V_drewN | apply Kd.V_drew)); exact HO418.out) hb)
                    have n4_ := Aside0.mk (Kd.N_below (by (with_reducible repeat (first | apply Kd.N_alloc | apply Kd.N_drewN | apply Kd.N_drew)); exact HO421.out) hb)
                    have n5_ := Aside0.mk (Kd.V_below (by (with_reducible repeat (first | apply Kd.V_alloc | apply Kd.V_drewN | apply Kd.V_drew)); exact HO424.out) hb)
                    have n6_ := Aside0.mk (Kd.N_below (by (with_reducible repeat (first | apply Kd.N_alloc | apply Kd.N_drewN | apply Kd.N_drew)); exact HO427.out) hb)
                    have n7_ := Aside0.mk (Kd.V_below (by (with_reducible repeat (first | apply Kd.V_alloc | apply Kd.V_drewN | apply Kd.V_drew)); exact HO430.out) hb)
                    have n8_ := Aside0.mk (Kd.N_below (by (with_reducible repeat (first | apply Kd.N_alloc | apply Kd.N_drewN | apply Kd.N_drew)); exact HO433.out) hb)
                    have n9_ := Aside0.mk (Kd.V_below (by (with_reducible repeat (first | apply Kd.V_alloc | apply Kd.V_drewN | apply Kd.V_drew)); exact HO436.out) hb)
                    have n10_ := Aside0.mk (Kd.V_below (by (with_reducible repeat (first | apply Kd.V_alloc | apply Kd.V_drewN | apply Kd.V_drew)); exact HO439.out) hb)
                    have n11_ := Aside0.mk (blk_below (g := gb355) (o := .cells #[.int .i64 a2_0, .int .i64 a2_1, .int .i64 a2_2] 45 (0, 0)) (by (with_reducible repeat (first | refine blk_drewN ?_ _ | refine blk_drew ?_ | refine blk_alloc ?_ _)); exact BK355.out) hb)
                    have n12_ := Aside0.mk (below_step (by repeat (first | (with_reducible first | exact HB.out | apply below_alloc | apply pw_below_drewN | apply below_drew1 | refine below_set ?_ GE355.out) | exact HB.out)) hb)
                    clear HO_7
                    clear HO_8
                    clear HO415
                    clear HO418
                    clear HO421
                    clear HO424
                    clear HO427
                    clear HO430
                    clear HO433
                    clear HO436
                    clear HO439
                    clear BK355
                    clear HB
                    have HO_7 := n0_
                    have HO_8 := n1_
                    have HO415 := n2_
                    have HO418 := n3_
                    have HO421 := n4_
                    have HO424 := n5_
                    have HO427 := n6_
                    have HO430 := n7_
                    have HO433 := n8_
                    have HO436 := n9_
                    have HO439 := n10_
                    have BK355 := n11_
                    have HB := n12_
                    clear n0_ n1_ n2_ n3_ n4_ n5_ n6_ n7_ n8_ n9_ n10_ n11_ n12_
                    (try clear hb)
                    (try clear hb2)
                    (try clear hk)
                    (try clear hi)
                    refine hK.out _ _ ⟨v414, v417, v420, v423, v426, v429, v432, .slice Ao104 t434.length co104, .slice Ao105 t437.length co105, (by rw [ha.out]; exact putSel_upk 10 hb_ rfl rfl rfl), (by (with_reducible repeat (first | apply Kd.V_alloc | apply Kd.V_drewN | apply Kd.V_drew)); exact HO_7.out), (by (with_reducible repeat (first | apply Kd.V_alloc | apply Kd.V_drewN | apply Kd.V_drew)); exact HO_8.out), (by (with_reducible repeat (first | refine blk_drewN ?_ _ | refine blk_drew ?_ | refine blk_alloc ?_ _)); exact BK355.out), (by repeat (first | (with_reducible first | exact HB.out | apply below_alloc | apply pw_below_drewN | apply below_drew1 | refine below_set ?_ GE355.out) | exact HB.out)), fun _ => (by (with_reducible repeat (first | apply Kd.N_alloc | apply Kd.N_drewN | apply Kd.N_drew)); exact HO415.out), fun _ => (by (with_reducible repeat (first | apply Kd.V_alloc | apply Kd.V_drewN | apply Kd.V_drew)); exact HO418.out), fun _ => (by (with_reducible repeat (first | apply Kd.N_alloc | apply Kd.N_drewN | apply Kd.N_drew)); exact HO421.out), fun _ => (by (with_reducible repeat (first | apply Kd.V_alloc | apply Kd.V_drewN | apply Kd.V_drew)); exact HO424.out), fun _ => (by (with_reducible repeat (first | apply Kd.N_alloc | apply Kd.N_drewN | apply Kd.N_drew)); exact HO427.out), fun _ => (by (with_reducible repeat (first | apply Kd.V_alloc | apply Kd.V_drewN | apply Kd.V_drew)); exact HO430.out), fun _ => (by (with_reducible repeat (first | apply Kd.N_alloc | apply Kd.N_drewN | apply Kd.N_drew)); exact HO433.out), fun _ => (by (with_reducible repeat (first | apply Kd.V_alloc | apply Kd.V_drewN | apply Kd.V_drew)); exact HO436.out), fun _ => (by (with_reducible repeat (first | apply Kd.V_alloc | apply Kd.V_drewN | apply Kd.V_drew)); exact HO439.out)⟩
                  refine steps_cons ?_ ?_
                  · rintro b a w' ⟨v414, v417, v420, v423, v426, v429, v432, v435, v438, ha, Q_HO_7, Q_HO_8, Q_BK355, Q_HB, Q_HO415, Q_HO418, Q_HO421, Q_HO424, Q_HO427, Q_HO430, Q_HO433, Q_HO436, Q_HO439⟩ hb_ hon hoff
                    refine ⟨_, rfl, fun K hK => ?_⟩
                    have e72 : a.tmps[72]? = some (.tuple #[.int .i64 t440, .int .i64 t441]) := by rw [ha]; exact putSel_on (e := (12, 72, .tuple #[.int .i64 t440, .int .i64 t441])) 10 rfl rfl (hon 12 (by kernel_rfl)) rfl
                    replace ha := Aside0.mk ha
                    have HO_7 := Aside0.mk Q_HO_7
                    have HO_8 := Aside0.mk Q_HO_8
                    have BK355 := Aside0.mk Q_BK355
                    have HB := Aside0.mk Q_HB
                    have HO415 := Aside0.mk (Q_HO415 (hon 1 (by kernel_rfl)))
                    have HO418 := Aside0.mk (Q_HO418 (hon 2 (by kernel_rfl)))
                    have HO421 := Aside0.mk (Q_HO421 (hon 4 (by kernel_rfl)))
                    have HO424 := Aside0.mk (Q_HO424 (hon 5 (by kernel_rfl)))
                    have HO427 := Aside0.mk (Q_HO427 (hon 6 (by kernel_rfl)))
                    have HO430 := Aside0.mk (Q_HO430 (hon 7 (by kernel_rfl)))
                    have HO433 := Aside0.mk (Q_HO433 (hon 8 (by kernel_rfl)))
                    have HO436 := Aside0.mk (Q_HO436 (hon 9 (by kernel_rfl)))
                    have HO439 := Aside0.mk (Q_HO439 (hon 11 (by kernel_rfl)))
                    refine value_ (w1 := w') (v := .tuple #[.int .i64 t440, .int .i64 t441]) (by rfl) rfl ?_ ?_
                    · go_simp
                      (try simp only [i64_w])
                      try rfl
                    refine hK.out _ _ ⟨v414, v417, v420, v423, v426, v429, v432, v435, v438, (by rw [ha.out]; exact putSel_upk 11 hb_ rfl rfl rfl), Q_HO_7, Q_HO_8, Q_BK355, Q_HB, Q_HO415, Q_HO418, Q_HO421, Q_HO424, Q_HO427, Q_HO430, Q_HO433, Q_HO436, Q_HO439⟩
                  refine steps_cons ?_ ?_
                  · rintro b a w' ⟨v414, v417, v420, v423, v426, v429, v432, v435, v438, ha, Q_HO_7, Q_HO_8, Q_BK355, Q_HB, Q_HO415, Q_HO418, Q_HO421, Q_HO424, Q_HO427, Q_HO430, Q_HO433, Q_HO436, Q_HO439⟩ hb_ hon hoff
                    refine ⟨_, rfl, fun K hK => ?_⟩
                    have e59 : a.tmps[59]? = some (.tuple #[.int .i64 t440, .int .i64 t441]) := by rw [ha]; exact putSel_on (e := (13, 59, .tuple #[.int .i64 t440, .int .i64 t441])) 11 rfl rfl (hon 13 (by kernel_rfl)) rfl
                    replace ha := Aside0.mk ha
                    have HO_7 := Aside0.mk Q_HO_7
                    have HO_8 := Aside0.mk Q_HO_8
                    have BK355 := Aside0.mk Q_BK355
                    have HB := Aside0.mk Q_HB
                    have HO415 := Aside0.mk (Q_HO415 (hon 1 (by kernel_rfl)))
                    have HO418 := Aside0.mk (Q_HO418 (hon 2 (by kernel_rfl)))
                    have HO421 := Aside0.mk (Q_HO421 (hon 4 (by kernel_rfl)))
                    have HO424 := Aside0.mk (Q_HO424 (hon 5 (by kernel_rfl)))
                    have HO427 := Aside0.mk (Q_HO427 (hon 6 (by kernel_rfl)))
                    have HO430 := Aside0.mk (Q_HO430 (hon 7 (by kernel_rfl)))
                    have HO433 := Aside0.mk (Q_HO433 (hon 8 (by kernel_rfl)))
                    have HO436 := Aside0.mk (Q_HO436 (hon 9 (by kernel_rfl)))
                    have HO439 := Aside0.mk (Q_HO439 (hon 11 (by kernel_rfl)))
                    refine value_ (w1 := w') (v := .int .i64 t440) (by rfl) rfl ?_ ?_
                    · go_simp
                      (try simp only [i64_w])
                      try rfl
                    refine hK.out _ _ ⟨v414, v417, v420, v423, v426, v429, v432, v435, v438, (by rw [ha.out]; exact putSel_upk 12 hb_ rfl rfl rfl), Q_HO_7, Q_HO_8, Q_BK355, Q_HB, Q_HO415, Q_HO418, Q_HO421, Q_HO424, Q_HO427, Q_HO430, Q_HO433, Q_HO436, Q_HO439⟩
                  refine steps_cons ?_ ?_
                  · rintro b a w' ⟨v414, v417, v420, v423, v426, v429, v432, v435, v438, ha, Q_HO_7, Q_HO_8, Q_BK355, Q_HB, Q_HO415, Q_HO418, Q_HO421, Q_HO424, Q_HO427, Q_HO430, Q_HO433, Q_HO436, Q_HO439⟩ hb_ hon hoff
                    refine ⟨_, rfl, fun K hK => ?_⟩
                    have e59 : a.tmps[59]? = some (.tuple #[.int .i64 t440, .int .i64 t441]) := by rw [ha]; exact putSel_on (e := (13, 59, .tuple #[.int .i64 t440, .int .i64 t441])) 11 rfl rfl (hon 13 (by kernel_rfl)) rfl
                    replace ha := Aside0.mk ha
                    have HO_7 := Aside0.mk Q_HO_7
                    have HO_8 := Aside0.mk Q_HO_8
                    have BK355 := Aside0.mk Q_BK355
                    have HB := Aside0.mk Q_HB
                    have HO415 := Aside0.mk (Q_HO415 (hon 1 (by kernel_rfl)))
                    have HO418 := Aside0.mk (Q_HO418 (hon 2 (by kernel_rfl)))
                    have HO421 := Aside0.mk (Q_HO421 (hon 4 (by kernel_rfl)))
                    have HO424 := Aside0.mk (Q_HO424 (hon 5 (by kernel_rfl)))
                    have HO427 := Aside0.mk (Q_HO427 (hon 6 (by kernel_rfl)))
                    have HO430 := Aside0.mk (Q_HO430 (hon 7 (by kernel_rfl)))
                    have HO433 := Aside0.mk (Q_HO433 (hon 8 (by kernel_rfl)))
                    have HO436 := Aside0.mk (Q_HO436 (hon 9 (by kernel_rfl)))
                    have HO439 := Aside0.mk (Q_HO439 (hon 11 (by kernel_rfl)))
                    refine value_ (w1 := w') (v := .int .i64 t441) (by rfl) rfl ?_ ?_
                    · go_simp
                      (try simp only [i64_w])
                      try rfl
                    refine hK.out _ _ ⟨v414, v417, v420, v423, v426, v429, v432, v435, v438, (by rw [ha.out]; exact putSel_upk 13 hb_ rfl rfl rfl), Q_HO_7, Q_HO_8, Q_BK355, Q_HB, Q_HO415, Q_HO418, Q_HO421, Q_HO424, Q_HO427, Q_HO430, Q_HO433, Q_HO436, Q_HO439⟩
                  refine steps_cons ?_ ?_
                  · rintro b a w' ⟨v414, v417, v420, v423, v426, v429, v432, v435, v438, ha, Q_HO_7, Q_HO_8, Q_BK355, Q_HB, Q_HO415, Q_HO418, Q_HO421, Q_HO424, Q_HO427, Q_HO430, Q_HO433, Q_HO436, Q_HO439⟩ hb_ hon hoff
                    refine ⟨_, rfl, fun K hK => ?_⟩
                    have e73 : a.tmps[73]? = some (.int .i64 t440) := by rw [ha]; exact putSel_on (e := (14, 73, .int .i64 t440)) 12 rfl rfl (hon 14 (by kernel_rfl)) rfl
                    replace ha := Aside0.mk ha
                    have HO_7 := Aside0.mk Q_HO_7
                    have HO_8 := Aside0.mk Q_HO_8
                    have BK355 := Aside0.mk Q_BK355
                    have HB := Aside0.mk Q_HB
                    have HO415 := Aside0.mk (Q_HO415 (hon 1 (by kernel_rfl)))
                    have HO418 := Aside0.mk (Q_HO418 (hon 2 (by kernel_rfl)))
                    have HO421 := Aside0.mk (Q_HO421 (hon 4 (by kernel_rfl)))
                    have HO424 := Aside0.mk (Q_HO424 (hon 5 (by kernel_rfl)))
                    have HO427 := Aside0.mk (Q_HO427 (hon 6 (by kernel_rfl)))
                    have HO430 := Aside0.mk (Q_HO430 (hon 7 (by kernel_rfl)))
                    have HO433 := Aside0.mk (Q_HO433 (hon 8 (by kernel_rfl)))
                    have HO436 := Aside0.mk (Q_HO436 (hon 9 (by kernel_rfl)))
                    have HO439 := Aside0.mk (Q_HO439 (hon 11 (by kernel_rfl)))
                    refine value_ (w1 := w') (v := .int .i64 t440) (by rfl) rfl ?_ ?_
                    · go_simp
                      (try simp only [i64_w])
                      try rfl
                    refine hK.out _ _ ⟨v414, v417, v420, v423, v426, v429, v432, v435, v438, (by rw [ha.out]; exact putSel_upk 14 hb_ rfl rfl rfl), Q_HO_7, Q_HO_8, Q_BK355, Q_HB, Q_HO415, Q_HO418, Q_HO421, Q_HO424, Q_HO427, Q_HO430, Q_HO433, Q_HO436, Q_HO439⟩
                  refine steps_cons ?_ ?_
                  · rintro b a w' ⟨v414, v417, v420, v423, v426, v429, v432, v435, v438, ha, Q_HO_7, Q_HO_8, Q_BK355, Q_HB, Q_HO415, Q_HO418, Q_HO421, Q_HO424, Q_HO427, Q_HO430, Q_HO433, Q_HO436, Q_HO439⟩ hb_ hon hoff
                    refine ⟨_, rfl, fun K hK => ?_⟩
                    have e74 : a.tmps[74]? = some (.int .i64 t441) := by rw [ha]; exact putSel_on (e := (15, 74, .int .i64 t441)) 13 rfl rfl (hon 15 (by kernel_rfl)) rfl
                    replace ha := Aside0.mk ha
                    have HO_7 := Aside0.mk Q_HO_7
                    have HO_8 := Aside0.mk Q_HO_8
                    have BK355 := Aside0.mk Q_BK355
                    have HB := Aside0.mk Q_HB
                    have HO415 := Aside0.mk (Q_HO415 (hon 1 (by kernel_rfl)))
                    have HO418 := Aside0.mk (Q_HO418 (hon 2 (by kernel_rfl)))
                    have HO421 := Aside0.mk (Q_HO421 (hon 4 (by kernel_rfl)))
                    have HO424 := Aside0.mk (Q_HO424 (hon 5 (by kernel_rfl)))
                    have HO427 := Aside0.mk (Q_HO427 (hon 6 (by kernel_rfl)))
                    have HO430 := Aside0.mk (Q_HO430 (hon 7 (by kernel_rfl)))
                    have HO433 := Aside0.mk (Q_HO433 (hon 8 (by kernel_rfl)))
                    have HO436 := Aside0.mk (Q_HO436 (hon 9 (by kernel_rfl)))
                    have HO439 := Aside0.mk (Q_HO439 (hon 11 (by kernel_rfl)))
                    refine value_ (w1 := w') (v := .int .i64 t441) (by rfl) rfl ?_ ?_
                    · go_simp
                      (try simp only [i64_w])
                      try rfl
                    refine hK.out _ _ ⟨v414, v417, v420, v423, v426, v429, v432, v435, v438, (by rw [ha.out]; exact putSel_upk 15 hb_ rfl rfl rfl), Q_HO_7, Q_HO_8, Q_BK355, Q_HB, Q_HO415, Q_HO418, Q_HO421, Q_HO424, Q_HO427, Q_HO430, Q_HO433, Q_HO436, Q_HO439⟩
                  exact steps_nil
                rintro b a w106 hall ⟨v414, v417, v420, v423, v426, v429, v432, v435, v438, ha, Q_HO_7, Q_HO_8, Q_BK355, Q_HB, Q_HO415, Q_HO418, Q_HO421, Q_HO424, Q_HO427, Q_HO430, Q_HO433, Q_HO436, Q_HO439⟩
                clear BK355 HB HO_7 HO_8
                have hb1_ := hall 1 (by kernel_rfl)
                have hb2_ := hall 2 (by kernel_rfl)
                have hb4_ := hall 4 (by kernel_rfl)
                have hb5_ := hall 5 (by kernel_rfl)
                have hb6_ := hall 6 (by kernel_rfl)
                have hb7_ := hall 7 (by kernel_rfl)
                have hb8_ := hall 8 (by kernel_rfl)
                have hb9_ := hall 9 (by kernel_rfl)
                have hb10_ := hall 10 (by kernel_rfl)
                have hb11_ := hall 11 (by kernel_rfl)
                have hb12_ := hall 12 (by kernel_rfl)
                have hb13_ := hall 13 (by kernel_rfl)
                have hb14_ := hall 14 (by kernel_rfl)
                have hb15_ := hall 15 (by kernel_rfl)
                have hb16_ := hall 16 (by kernel_rfl)
                have hb17_ := hall 17 (by kernel_rfl)
                subst ha
                simp only [putSel, hb1_, hb2_, hb4_, hb5_, hb6_, hb7_, hb8_, hb9_, hb10_, hb11_, hb12_, hb13_, hb14_, hb15_, hb16_, hb17_, if_true, Act.put, List.setIfInBounds_toArray, List.set_cons_zero, List.set_cons_succ]
                have HO_7 := Aside0.mk Q_HO_7
                clear Q_HO_7
                have HO_8 := Aside0.mk Q_HO_8
                clear Q_HO_8
                have BK355 := Aside0.mk Q_BK355
                clear Q_BK355
                have HB := Aside0.mk Q_HB
                clear Q_HB
                have HO415 := Aside0.mk (Q_HO415 hb1_)
                clear Q_HO415
                have HO418 := Aside0.mk (Q_HO418 hb2_)
                clear Q_HO418
                have HO421 := Aside0.mk (Q_HO421 hb4_)
                clear Q_HO421
                have HO424 := Aside0.mk (Q_HO424 hb5_)
                clear Q_HO424
                have HO427 := Aside0.mk (Q_HO427 hb6_)
                clear Q_HO427
                have HO430 := Aside0.mk (Q_HO430 hb7_)
                clear Q_HO430
                have HO433 := Aside0.mk (Q_HO433 hb8_)
                clear Q_HO433
                have HO436 := Aside0.mk (Q_HO436 hb9_)
                clear Q_HO436
                have HO439 := Aside0.mk (Q_HO439 hb11_)
                clear Q_HO439
                clear hall hb1_ hb2_ hb4_ hb5_ hb6_ hb7_ hb8_ hb9_ hb10_ hb11_ hb12_ hb13_ hb14_ hb15_ hb16_ hb17_
                try go_wp2
                go_meet
                case rel => exact ⟨_, (t440), (t441), (by first | rfl | (simp; done) | (simp [*]; done)), (by first | rfl | (simp; done) | (simp [*]; done)), H', ⟨by have := HJ5.out; have := HJ29.out; have := HJ57.out; first | omega | exact Nat.le_refl _⟩, ⟨by (with_reducible repeat (first | apply Kd.V_alloc | apply Kd.V_drewN | apply Kd.V_drew)); exact Kd.V_mono HO_7.out (fun _ hk => by first | exact hk.2.2.2.2 | exact hk)⟩, ⟨by (with_reducible repeat (first | refine blk_drewN ?_ _ | refine blk_drew ?_ | refine blk_alloc ?_ _)); exact BK355.out⟩, ⟨by repeat (first | (with_reducible first | exact HB.out | apply below_alloc | apply pw_below_drewN | apply below_drew1 | refine below_set ?_ GE355.out) | exact HB.out)⟩⟩
              case rest =>
                clear HC73
                try clear c1
                try clear c2
                try clear p2
                try clear c21
                try clear c24
                try clear c25
                obtain ⟨kq, x15_72, x16_72, rfl, rfl, HA, HJ72, HO_7, BK355, HB⟩ := hcut
                cases kq with
                | zero => exact absurd HA.out (by simp [foretellkeep_EvalLogic.j3])
                | succ kj72 =>
                  have H := HA.out
                  clear HA
                  simp only [foretellkeep_EvalLogic.j3] at H
                  have HC107 := Aside0.mk H
                  clear H
                  go_upto_region 7 with (fail)
                  go_cut [17, 18] (fun v17 v18 wc => ∃ (kq : Nat) (x17_106 : Int) (x18_106 : Int), v17 = .int .i64 x17_106 ∧ v18 = .int .i64 x18_106 ∧ Aside0 (foretellkeep_EvalLogic.j4 kq x9_5 x10_5 x11_29 x12_29 x13_57 x14_57 x15_72 x16_72 x17_106 x18_106 = some r) ∧ Aside0 (kq ≤ kj72) ∧ Aside0 (wc.heap[gb355]? = some (.cells #[.int .i64 a2_0, .int .i64 a2_1, .int .i64 a2_2] 45 (0, 0))) ∧ Aside0 (Below w.heap.size w wc))
                  case first =>
                    have H := HC107.out
                    clear HC107
                    obtain ⟨y442, hy442⟩ : ∃ y_ : List (List (S32)), y_ = (([t356] : List (List (S32)))) := ⟨_, rfl⟩
                    replace H : ((foretellkeep_joined.f kj72 10 y442).bind fun t445 => ((foretellkeep_joined.f kj72 9 (([t356, t445] : List (List (S32))))).bind fun t451 => ((foretellkeep_env.f a2_0 a2_1 a2_2).bind fun t454 => ((expr_Eval.f kj72 t451 t454).bind fun bt457 => (foretellkeep_EvalLogic.j4 kj72 x9_5 x10_5 x11_29 x12_29 x13_57 x14_57 x15_72 x16_72 bt457.1 bt457.2))))) = some r := by first | (rw [hy442]; with_reducible exact H) | (have H2_ := (Option.bind_some _ _).symm.trans H; rw [hy442]; with_reducible exact H2_) | (have H2_ := (Option.bind_some _ _).symm.trans H; with_reducible exact H2_) | with_reducible exact H | (rw [hy442]; exact H) | exact H
                    have Ny442 := Aside0.mk hy442
                    clear hy442
                    replace H := Option.bind_eq_some_iff.mp H
                    obtain ⟨t445, A1080, H⟩ := H
                    replace H : ((foretellkeep_joined.f kj72 9 (([t356, t445] : List (List (S32))))).bind fun t451 => ((foretellkeep_env.f a2_0 a2_1 a2_2).bind fun t454 => ((expr_Eval.f kj72 t451 t454).bind fun bt457 => (foretellkeep_EvalLogic.j4 kj72 x9_5 x10_5 x11_29 x12_29 x13_57 x14_57 x15_72 x16_72 bt457.1 bt457.2)))) = some r := H
                    have A108 := Aside0.mk A1080
                    clear A1080
                    obtain ⟨y448, hy448⟩ : ∃ y_ : List (List (S32)), y_ = (([t356, t445] : List (List (S32)))) := ⟨_, rfl⟩
                    replace H : ((foretellkeep_joined.f kj72 9 y448).bind fun t451 => ((foretellkeep_env.f a2_0 a2_1 a2_2).bind fun t454 => ((expr_Eval.f kj72 t451 t454).bind fun bt457 => (foretellkeep_EvalLogic.j4 kj72 x9_5 x10_5 x11_29 x12_29 x13_57 x14_57 x15_72 x16_72 bt457.1 bt457.2)))) = some r := by first | (rw [hy448]; with_reducible exact H) | (have H2_ := (Option.bind_some _ _).symm.trans H; rw [hy448]; with_reducible exact H2_) | (have H2_ := (Option.bind_some _ _).symm.trans H; with_reducible exact H2_) | with_reducible exact H | (rw [hy448]; exact H) | exact H
                    have Ny448 := Aside0.mk hy448
                    clear hy448
                    replace H := Option.bind_eq_some_iff.mp H
                    obtain ⟨t451, A1090, H⟩ := H
                    replace H : ((foretellkeep_env.f a2_0 a2_1 a2_2).bind fun t454 => ((expr_Eval.f kj72 t451 t454).bind fun bt457 => (foretellkeep_EvalLogic.j4 kj72 x9_5 x10_5 x11_29 x12_29 x13_57 x14_57 x15_72 x16_72 bt457.1 bt457.2))) = some r := H
                    have A109 := Aside0.mk A1090
                    clear A1090
                    replace H := Option.bind_eq_some_iff.mp H
                    obtain ⟨t454, A1100, H⟩ := H
                    replace H : ((expr_Eval.f kj72 t451 t454).bind fun bt457 => (foretellkeep_EvalLogic.j4 kj72 x9_5 x10_5 x11_29 x12_29 x13_57 x14_57 x15_72 x16_72 bt457.1 bt457.2)) = some r := H
                    have A110 := Aside0.mk A1100
                    clear A1100
                    replace H := Option.bind_eq_some_iff.mp H
                    obtain ⟨⟨t457, t458⟩, A1110, H⟩ := H
                    replace H : (foretellkeep_EvalLogic.j4 kj72 x9_5 x10_5 x11_29 x12_29 x13_57 x14_57 x15_72 x16_72 t457 t458) = some r := H
                    have A111 := Aside0.mk A1110
                    clear A1110
                    have H' := Aside0.mk H
                    clear H
                    obtain ⟨Ao112, co112, eo112⟩ := Kd.V_slice HO_7.out
                    subst eo112
                    try go_wp2
                    have n0_ := Aside0.mk (Kd.V_drew HO_7.out)
                    have n1_ := Aside0.mk (blk_drew BK355.out)
                    have n2_ := Aside0.mk (below_drew1 HB.out)
                    clear HO_7
                    clear BK355
                    clear HB
                    have HO_7 := n0_
                    have BK355 := n1_
                    have HB := n2_
                    clear n0_ n1_ n2_
                    refine start_ (n := 14) (S := fun w' => w'.cell? ⟨gb355, 0, none⟩ = some (.int .i64 a2_0) ∧ w'.cell? ⟨gb355, 1, none⟩ = some (.int .i64 a2_1) ∧ w'.cell? ⟨gb355, 2, none⟩ = some (.int .i64 a2_2)) (ds := []) #[false, false, false, false, false, false, false, false, false, false, false, false, false, false] (by kernel_rfl) rfl rfl ⟨(blk_cell BK355.out 0).trans rfl, (blk_cell BK355.out 1).trans rfl, (blk_cell BK355.out 2).trans rfl⟩ (fun hHeld => ?_); refine with_tabW foretellkeep_EvalLogic.tab7 foretellkeep_EvalLogic.bits7 (fun HT_ HW_ => ?_)
                    generalize wc.drew = w113 at HO_7 BK355 HB hHeld ⊢
                    refine pure_ (i := 0) (N := some 76) (v := ?_) (a' := ?_) #[true, false, false, false, false, false, false, false, false, false, false, false, false, false] rfl rfl (any_of HT_.out (by kernel_rfl)) (fun _ _ _ h => h) (Or.inl ⟨by rfl, ?_⟩) ?_ ?_
                    rotate_left
                    · intro w'
                      go_simp
                      with_reducible rfl
                    rotate_left
                    · simp only [Act.put, List.setIfInBounds_toArray, List.set_cons_zero, List.set_cons_succ, i64_w, i32_w]
                      rfl
                    refine pure_ (i := 1) (N := some 77) (v := ?_) (a' := ?_) #[true, true, false, false, false, false, false, false, false, false, false, false, false, false] rfl rfl (any_of HT_.out (by kernel_rfl)) (fun _ _ _ h => h) (Or.inl ⟨by rfl, ?_⟩) ?_ ?_
                    rotate_left
                    · intro w'
                      go_simp
                      with_reducible rfl
                    rotate_left
                    · simp only [Act.put, List.setIfInBounds_toArray, List.set_cons_zero, List.set_cons_succ, i64_w, i32_w]
                      rfl
                    refine take_ (i := 6) (N := some 82) (v := ?_) (a' := ?_) #[true, true, false, false, false, false, true, false, false, false, false, false, false, false] rfl rfl (take_ofW HT_.out HW_.out (by kernel_rfl)) (fun _ _ _ h => h) (Or.inl ⟨by rfl, ?_⟩) hHeld ?_ ?_
                    rotate_left
                    · rintro w' ⟨s0, s1, s2⟩
                      go_simp
                      with_reducible rfl
                    rotate_left
                    · simp only [Act.put, List.setIfInBounds_toArray, List.set_cons_zero, List.set_cons_succ, i64_w, i32_w]
                      rfl
                    refine one_ (i := 2) (N := some 78) #[true, true, true, false, false, false, true, false, false, false, false, false, false, false] rfl rfl (one_of HT_.out (by kernel_rfl)) (by decide) (fun K hK => ?_)
                    refine Kd.N_lit_step (Kd.slice 32 k32) _ 23 ?hg (N' := 78) ?hd (xs := ([t356] : List (List (S32)))) (inner := [.slice Ao112 t356.length co112]) (ok := (fun k_ => k_ ≠ gb355)) (okp := (fun k_ => k_ ≠ gb355)) ?hr ?hp (fun _ hk => hk) ((show ∀ k_, w113.heap.size ≤ k_ → (fun k_ => k_ ≠ gb355) k_ from fun k_ hk => Kd.freshB (g := gb355) (o := .cells #[.int .i64 a2_0, .int .i64 a2_1, .int .i64 a2_2] 45 (0, 0)) (by (with_reducible repeat (first | refine blk_drewN ?_ _ | refine blk_drew ?_ | refine blk_alloc ?_ _)); exact BK355.out) k_ hk) _ (Nat.le_refl _)) (Below.refl _ _) (Nat.le_refl _) (by simp) ?_; (case hd => rfl); (case hg => rfl); (case hr => first | (go_simp; done) | (go_simp; rfl)); (case hp => exact (Reps.one (show Kd.FK (Kd.slice 32 k32) _ _ t356 [.slice Ao112 t356.length co112] from (Kd.FK_slice_mk (Kd.V_reads' (Kd.V_mono (ok' := (fun k_ => k_ ≠ gb355)) (HO_7.out) (fun k_ hk => hk))).2.1 (Kd.V_F (Kd.V_mono (ok' := (fun k_ => k_ ≠ gb355)) (HO_7.out) (fun k_ hk => hk))))) (Reps.none _ _)))
                    intro v443 w114 ho115 hb hg_ hnew_
                    clear hg_ hnew_
                    (first | rw [← Ny442.out] at ho115 | (simp only [Int.reduceToNat] at ho115; rw [← Ny442.out] at ho115))
                    have n0_ := Aside0.mk (Kd.V_elder' (by (with_reducible repeat (first | apply Kd.V_alloc | apply Kd.V_drewN | apply Kd.V_drew)); exact HO_7.out) (by first | exact Kd.N_base ho115 | exact Kd.S_base ho115 | exact Kd.R_base ho115) hb)
                    have n1_ := Aside0.mk (Kd.N_lower ho115 (below_size (by repeat (first | (with_reducible first | exact HB.out | apply below_alloc | apply pw_below_drewN | apply below_drew1 | refine below_set ?_ GE355.out) | exact HB.out))))
                    have n2_ := Aside0.mk (blk_below (g := gb355) (o := .cells #[.int .i64 a2_0, .int .i64 a2_1, .int .i64 a2_2] 45 (0, 0)) (by (with_reducible repeat (first | refine blk_drewN ?_ _ | refine blk_drew ?_ | refine blk_alloc ?_ _)); exact BK355.out) hb)
                    have n3_ := Aside0.mk (below_step (by repeat (first | (with_reducible first | exact HB.out | apply below_alloc | apply pw_below_drewN | apply below_drew1 | refine below_set ?_ GE355.out) | exact HB.out)) hb)
                    clear HO_7
                    clear BK355
                    clear HB
                    have HO_7 := n0_
                    have HO444 := n1_
                    have BK355 := n2_
                    have HB := n3_
                    clear n0_ n1_ n2_ n3_
                    clear hb ho115
                    obtain ⟨Ao116, co116, eo116⟩ := Kd.N_slice HO444.out
                    (first | subst eo116 | (injection eo116 with f1_ f2_ f3_; have f4_ := f1_.symm; have f5_ := f3_.symm; clear f1_ f2_ f3_; subst f4_; subst f5_))
                    refine hK.out _ _ ⟨(blk_cell BK355.out 0).trans rfl, (blk_cell BK355.out 1).trans rfl, (blk_cell BK355.out 2).trans rfl⟩ (fun hHeld => ?_)
                    clear hK K
                    refine norm_ (a' := ?_) ?_ ?_
                    rotate_left
                    · show Act.put _ (some 78) _ = _
                      simp only [Act.put, List.setIfInBounds_toArray, List.set_cons_zero, List.set_cons_succ, i64_w, i32_w]
                      rfl
                    refine one_ (i := 3) (N := some 79) #[true, true, true, true, false, false, true, false, false, false, false, false, false, false] rfl rfl (one_of HT_.out (by kernel_rfl)) (by decide) (fun K hK => ?_)
                    refine goes_ Tryd.func21 (by kernel_rfl) rfl #[.int .i64 10, .slice Ao116 y442.length co116] (by rfl) rfl rfl (by (try simp only [List.map_toArray, List.map_cons, List.map_nil]); first | done | rfl | (simp only [List.length_drop, List.length_take]; rfl)) ?_
                    with_reducible refine (foretellkeep_joined.calls kj72 10 _ _ y442 t445 _ ?side1 ?side2 A108.out).mono ?_
                    (case side1 => repeat (first | exact (Kd.N_reads' HO444.out).2.2 | (with_reducible refine Kd.C_alloc ?_ _) | (with_reducible refine Kd.C_drewN ?_ _) | (with_reducible refine Kd.C_drew ?_)))
                    (case side2 => exact (Kd.N_reads' HO444.out).2.1)
                    rintro e w117 ⟨v446, rfl, ho0, hb⟩
                    refine ⟨_, rfl, ?_⟩
                    have n0_ := Aside0.mk (Kd.V_below (by (with_reducible repeat (first | apply Kd.V_alloc | apply Kd.V_drewN | apply Kd.V_drew)); exact HO_7.out) hb)
                    have n1_ := Aside0.mk (Kd.N_below (by (with_reducible repeat (first | apply Kd.N_alloc | apply Kd.N_drewN | apply Kd.N_drew)); exact HO444.out) hb)
                    have n2_ := Aside0.mk (Kd.V_lower (Kd.V_mono (ok' := fun k_ => k_ ≠ gb355) (Kd.R_V (Kd.R_bound ho0)) (fun k_ hk_ => (Kd.freshB (g := gb355) (o := .cells #[.int .i64 a2_0, .int .i64 a2_1, .int .i64 a2_2] 45 (0, 0)) (by (with_reducible repeat (first | refine blk_drewN ?_ _ | refine blk_drew ?_ | refine blk_alloc ?_ _)); exact BK355.out) k_ hk_.2.1))) (below_size (by repeat (first | (with_reducible first | exact HB.out | apply below_alloc | apply pw_below_drewN | apply below_drew1 | refine below_set ?_ GE355.out) | exact HB.out))))
                    have n3_ := Aside0.mk (blk_below (g := gb355) (o := .cells #[.int .i64 a2_0, .int .i64 a2_1, .int .i64 a2_2] 45 (0, 0)) (by (with_reducible repeat (first | refine blk_drewN ?_ _ | refine blk_drew ?_ | refine blk_alloc ?_ _)); exact BK355.out) hb)
                    have n4_ := Aside0.mk (below_step (by repeat (first | (with_reducible first | exact HB.out | apply below_alloc | apply pw_below_drewN | apply below_drew1 | refine below_set ?_ GE355.out) | exact HB.out)) hb)
                    clear HO_7
                    clear HO444
                    clear BK355
                    clear HB
                    have HO_7 := n0_
                    have HO444 := n1_
                    have HO447 := n2_
                    have BK355 := n3_
                    have HB := n4_
                    clear n0_ n1_ n2_ n3_ n4_
                    (try clear hb)
                    (try clear hb2)
                    (try clear hk)
                    (try clear hi)
                    (try clear ho0)
                    obtain ⟨Ao118, co118, eo118⟩ := Kd.V_slice HO447.out
                    (first | subst eo118 | (injection eo118 with f1_ f2_ f3_; have f4_ := f1_.symm; have f5_ := f3_.symm; clear f1_ f2_ f3_; subst f4_; subst f5_))
                    refine hK.out _ _ ⟨(blk_cell BK355.out 0).trans rfl, (blk_cell BK355.out 1).trans rfl, (blk_cell BK355.out 2).trans rfl⟩ (fun hHeld => ?_)
                    clear hK K
                    refine norm_ (a' := ?_) ?_ ?_
                    rotate_left
                    · show Act.put _ (some 79) _ = _
                      simp only [Act.put, List.setIfInBounds_toArray, List.set_cons_zero, List.set_cons_succ, i64_w, i32_w]
                      rfl
                    refine one_ (i := 4) (N := some 80) #[true, true, true, true, true, false, true, false, false, false, false, false, false, false] rfl rfl (one_of HT_.out (by kernel_rfl)) (by decide) (fun K hK => ?_)
                    refine Kd.N_lit_step (Kd.slice 32 k32) _ 23 ?hg (N' := 80) ?hd (xs := ([t356, t445] : List (List (S32)))) (inner := [.slice Ao112 t356.length co112, .slice Ao118 t445.length co118]) (ok := (fun k_ => k_ ≠ gb355)) (okp := (fun k_ => k_ ≠ gb355)) ?hr ?hp (fun _ hk => hk) ((show ∀ k_, w117.heap.size ≤ k_ → (fun k_ => k_ ≠ gb355) k_ from fun k_ hk => Kd.freshB (g := gb355) (o := .cells #[.int .i64 a2_0, .int .i64 a2_1, .int .i64 a2_2] 45 (0, 0)) (by (with_reducible repeat (first | refine blk_drewN ?_ _ | refine blk_drew ?_ | refine blk_alloc ?_ _)); exact BK355.out) k_ hk) _ (Nat.le_refl _)) (Below.refl _ _) (Nat.le_refl _) (by simp) ?_; (case hd => rfl); (case hg => rfl); (case hr => first | (go_simp; done) | (go_simp; rfl)); (case hp => exact (Reps.one (show Kd.FK (Kd.slice 32 k32) _ _ t356 [.slice Ao112 t356.length co112] from (Kd.FK_slice_mk (Kd.V_reads' (Kd.V_mono (ok' := (fun k_ => k_ ≠ gb355)) (HO_7.out) (fun k_ hk => by first | exact hk.1 | exact hk))).2.1 (Kd.V_F (Kd.V_mono (ok' := (fun k_ => k_ ≠ gb355)) (HO_7.out) (fun k_ hk => by first | exact hk.1 | exact hk))))) (Reps.one (show Kd.FK (Kd.slice 32 k32) _ _ t445 [.slice Ao118 t445.length co118] from (Kd.FK_slice_mk (Kd.V_reads' (Kd.V_mono (ok' := (fun k_ => k_ ≠ gb355)) (HO447.out) (fun k_ hk => hk))).2.1 (Kd.V_F (Kd.V_mono (ok' := (fun k_ => k_ ≠ gb355)) (HO447.out) (fun k_ hk => hk))))) (Reps.none _ _))))
                    intro v449 w119 ho120 hb hg_ hnew_
                    clear hg_ hnew_
                    (first | rw [← Ny448.out] at ho120 | (simp only [Int.reduceToNat] at ho120; rw [← Ny448.out] at ho120))
                    have n0_ := Aside0.mk (Kd.V_elder' (by (with_reducible repeat (first | apply Kd.V_alloc | apply Kd.V_drewN | apply Kd.V_drew)); exact HO_7.out) (by first | exact Kd.N_base ho120 | exact Kd.S_base ho120 | exact Kd.R_base ho120) hb)
                    have n1_ := Aside0.mk (Kd.N_elder' (by (with_reducible repeat (first | apply Kd.N_alloc | apply Kd.N_drewN | apply Kd.N_drew)); exact HO444.out) (by first | exact Kd.N_base ho120 | exact Kd.S_base ho120 | exact Kd.R_base ho120) hb)
                    have n2_ := Aside0.mk (Kd.V_elder' (by (with_reducible repeat (first | apply Kd.V_alloc | apply Kd.V_drewN | apply Kd.V_drew)); exact HO447.out) (by first | exact Kd.N_base ho120 | exact Kd.S_base ho120 | exact Kd.R_base ho120) hb)
                    have n3_ := Aside0.mk (Kd.N_lower ho120 (below_size (by repeat (first | (with_reducible first | exact HB.out | apply below_alloc | apply pw_below_drewN | apply below_drew1 | refine below_set ?_ GE355.out) | exact HB.out))))
                    have n4_ := Aside0.mk (blk_below (g := gb355) (o := .cells #[.int .i64 a2_0, .int .i64 a2_1, .int .i64 a2_2] 45 (0, 0)) (by (with_reducible repeat (first | refine blk_drewN ?_ _ | refine blk_drew ?_ | refine blk_alloc ?_ _)); exact BK355.out) hb)
                    have n5_ := Aside0.mk (below_step (by repeat (first | (with_reducible first | exact HB.out | apply below_alloc | apply pw_below_drewN | apply below_drew1 | refine below_set ?_ GE355.out) | exact HB.out)) hb)
                    clear HO_7
                    clear HO444
                    clear HO447
                    clear BK355
                    clear HB
                    have HO_7 := n0_
                    have HO444 := n1_
                    have HO447 := n2_
                    have HO450 := n3_
                    have BK355 := n4_
                    have HB := n5_
                    clear n0_ n1_ n2_ n3_ n4_ n5_
                    clear hb ho120
                    obtain ⟨Ao121, co121, eo121⟩ := Kd.N_slice HO450.out
                    (first | subst eo121 | (injection eo121 with f1_ f2_ f3_; have f4_ := f1_.symm; have f5_ := f3_.symm; clear f1_ f2_ f3_; subst f4_; subst f5_))
                    refine hK.out _ _ ⟨(blk_cell BK355.out 0).trans rfl, (blk_cell BK355.out 1).trans rfl, (blk_cell BK355.out 2).trans rfl⟩ (fun hHeld => ?_)
                    clear hK K
                    refine norm_ (a' := ?_) ?_ ?_
                    rotate_left
                    · show Act.put _ (some 80) _ = _
                      simp only [Act.put, List.setIfInBounds_toArray, List.set_cons_zero, List.set_cons_succ, i64_w, i32_w]
                      rfl
                    refine one_ (i := 5) (N := some 81) #[true, true, true, true, true, true, true, false, false, false, false, false, false, false] rfl rfl (one_of HT_.out (by kernel_rfl)) (by decide) (fun K hK => ?_)
                    refine goes_ Tryd.func21 (by kernel_rfl) rfl #[.int .i64 9, .slice Ao121 y448.length co121] (by rfl) rfl rfl (by (try simp only [List.map_toArray, List.map_cons, List.map_nil]); first | done | rfl | (simp only [List.length_drop, List.length_take]; rfl)) ?_
                    with_reducible refine (foretellkeep_joined.calls kj72 9 _ _ y448 t451 _ ?side1 ?side2 A109.out).mono ?_
                    (case side1 => repeat (first | exact (Kd.N_reads' HO450.out).2.2 | (with_reducible refine Kd.C_alloc ?_ _) | (with_reducible refine Kd.C_drewN ?_ _) | (with_reducible refine Kd.C_drew ?_)))
                    (case side2 => exact (Kd.N_reads' HO450.out).2.1)
                    rintro e w122 ⟨v452, rfl, ho0, hb⟩
                    refine ⟨_, rfl, ?_⟩
                    have n0_ := Aside0.mk (Kd.V_below (by (with_reducible repeat (first | apply Kd.V_alloc | apply Kd.V_drewN | apply Kd.V_drew)); exact HO_7.out) hb)
                    have n1_ := Aside0.mk (Kd.N_below (by (with_reducible repeat (first | apply Kd.N_alloc | apply Kd.N_drewN | apply Kd.N_drew)); exact HO444.out) hb)
                    have n2_ := Aside0.mk (Kd.V_below (by (with_reducible repeat (first | apply Kd.V_alloc | apply Kd.V_drewN | apply Kd.V_drew)); exact HO447.out) hb)
                    have n3_ := Aside0.mk (Kd.N_below (by (with_reducible repeat (first | apply Kd.N_alloc | apply Kd.N_drewN | apply Kd.N_drew)); exact HO450.out) hb)
                    have n4_ := Aside0.mk (Kd.V_lower (Kd.V_mono (ok' := fun k_ => k_ ≠ gb355) (Kd.R_V (Kd.R_bound ho0)) (fun k_ hk_ => (Kd.freshB (g := gb355) (o := .cells #[.int .i64 a2_0, .int .i64 a2_1, .int .i64 a2_2] 45 (0, 0)) (by (with_reducible repeat (first | refine blk_drewN ?_ _ | refine blk_drew ?_ | refine blk_alloc ?_ _)); exact BK355.out) k_ hk_.2.1))) (below_size (by repeat (first | (with_reducible first | exact HB.out | apply below_alloc | apply pw_below_drewN | apply below_drew1 | refine below_set ?_ GE355.out) | exact HB.out))))
                    have n5_ := Aside0.mk (blk_below (g := gb355) (o := .cells #[.int .i64 a2_0, .int .i64 a2_1, .int .i64 a2_2] 45 (0, 0)) (by (with_reducible repeat (first | refine blk_drewN ?_ _ | refine blk_drew ?_ | refine blk_alloc ?_ _)); exact BK355.out) hb)
                    have n6_ := Aside0.mk (below_step (by repeat (first | (with_reducible first | exact HB.out | apply below_alloc | apply pw_below_drewN | apply below_drew1 | refine below_set ?_ GE355.out) | exact HB.out)) hb)
                    clear HO_7
                    clear HO444
                    clear HO447
                    clear HO450
                    clear BK355
                    clear HB
                    have HO_7 := n0_
                    have HO444 := n1_
                    have HO447 := n2_
                    have HO450 := n3_
                    have HO453 := n4_
                    have BK355 := n5_
                    have HB := n6_
                    clear n0_ n1_ n2_ n3_ n4_ n5_ n6_
                    (try clear hb)
                    (try clear hb2)
                    (try clear hk)
                    (try clear hi)
                    (try clear ho0)
                    refine hK.out _ _ ⟨(blk_cell BK355.out 0).trans rfl, (blk_cell BK355.out 1).trans rfl, (blk_cell BK355.out 2).trans rfl⟩ (fun hHeld => ?_)
                    clear hK K
                    refine norm_ (a' := ?_) ?_ ?_
                    rotate_left
                    · show Act.put _ (some 81) _ = _
                      simp only [Act.put, List.setIfInBounds_toArray, List.set_cons_zero, List.set_cons_succ, i64_w, i32_w]
                      rfl
                    refine one_ (i := 7) (N := some 83) #[true, true, true, true, true, true, true, true, false, false, false, false, false, false] rfl rfl (one_of HT_.out (by kernel_rfl)) (by decide) (fun K hK => ?_)
                    refine goes_ Tryd.func25 (by kernel_rfl) rfl #[.agg #[.int .i64 a2_0, .int .i64 a2_1, .int .i64 a2_2]] (by rfl) rfl rfl (by (try simp only [List.map_toArray, List.map_cons, List.map_nil]); first | done | rfl | (simp only [List.length_drop, List.length_take]; rfl)) ?_
                    with_reducible refine (foretellkeep_env.calls a2_0 a2_1 a2_2 t454 _ A110.out).mono ?_
                    rintro e w123 ⟨v455, rfl, ho0, hb⟩
                    refine ⟨_, rfl, ?_⟩
                    have n0_ := Aside0.mk (Kd.V_below (by (with_reducible repeat (first | apply Kd.V_alloc | apply Kd.V_drewN | apply Kd.V_drew)); exact HO_7.out) hb)
                    have n1_ := Aside0.mk (Kd.N_below (by (with_reducible repeat (first | apply Kd.N_alloc | apply Kd.N_drewN | apply Kd.N_drew)); exact HO444.out) hb)
                    have n2_ := Aside0.mk (Kd.V_below (by (with_reducible repeat (first | apply Kd.V_alloc | apply Kd.V_drewN | apply Kd.V_drew)); exact HO447.out) hb)
                    have n3_ := Aside0.mk (Kd.N_below (by (with_reducible repeat (first | apply Kd.N_alloc | apply Kd.N_drewN | apply Kd.N_drew)); exact HO450.out) hb)
                    have n4_ := Aside0.mk (Kd.V_below (by (with_reducible repeat (first | apply Kd.V_alloc | apply Kd.V_drewN | apply Kd.V_drew)); exact HO453.out) hb)
                    have n5_ := Aside0.mk (Kd.V_lower (Kd.V_mono (ok' := fun k_ => k_ ≠ gb355) (Kd.R_V (Kd.R_bound ho0)) (fun k_ hk_ => (Kd.freshB (g := gb355) (o := .cells #[.int .i64 a2_0, .int .i64 a2_1, .int .i64 a2_2] 45 (0, 0)) (by (with_reducible repeat (first | refine blk_drewN ?_ _ | refine blk_drew ?_ | refine blk_alloc ?_ _)); exact BK355.out) k_ hk_.2.1))) (below_size (by repeat (first | (with_reducible first | exact HB.out | apply below_alloc | apply pw_below_drewN | apply below_drew1 | refine below_set ?_ GE355.out) | exact HB.out))))
                    have n6_ := Aside0.mk (blk_below (g := gb355) (o := .cells #[.int .i64 a2_0, .int .i64 a2_1, .int .i64 a2_2] 45 (0, 0)) (by (with_reducible repeat (first | refine blk_drewN ?_ _ | refine blk_drew ?_ | refine blk_alloc ?_ _)); exact BK355.out) hb)
                    have n7_ := Aside0.mk (below_step (by repeat (first | (with_reducible first | exact HB.out | apply below_alloc | apply pw_below_drewN | apply below_drew1 | refine below_set ?_ GE355.out) | exact HB.out)) hb)
                    clear HO_7
                    clear HO444
                    clear HO447
                    clear HO450
                    clear HO453
                    clear BK355
                    clear HB
                    have HO_7 := n0_
                    have HO444 := n1_
                    have HO447 := n2_
                    have HO450 := n3_
                    have HO453 := n4_
                    have HO456 := n5_
                    have BK355 := n6_
                    have HB := n7_
                    clear n0_ n1_ n2_ n3_ n4_ n5_ n6_ n7_
                    (try clear hb)
                    (try clear hb2)
                    (try clear hk)
                    (try clear hi)
                    (try clear ho0)
                    obtain ⟨Ao124, co124, eo124⟩ := Kd.V_slice HO453.out
                    (first | subst eo124 | (injection eo124 with f1_ f2_ f3_; have f4_ := f1_.symm; have f5_ := f3_.symm; clear f1_ f2_ f3_; subst f4_; subst f5_))
                    obtain ⟨Ao125, co125, eo125⟩ := Kd.V_slice HO456.out
                    (first | subst eo125 | (injection eo125 with f1_ f2_ f3_; have f4_ := f1_.symm; have f5_ := f3_.symm; clear f1_ f2_ f3_; subst f4_; subst f5_))
                    refine hK.out _ _ ⟨(blk_cell BK355.out 0).trans rfl, (blk_cell BK355.out 1).trans rfl, (blk_cell BK355.out 2).trans rfl⟩ (fun hHeld => ?_)
                    clear hK K
                    refine norm_ (a' := ?_) ?_ ?_
                    rotate_left
                    · show Act.put _ (some 83) _ = _
                      simp only [Act.put, List.setIfInBounds_toArray, List.set_cons_zero, List.set_cons_succ, i64_w, i32_w]
                      rfl
                    refine one_ (i := 8) (N := some 84) #[true, true, true, true, true, true, true, true, true, false, false, false, false, false] rfl rfl (one_of HT_.out (by kernel_rfl)) (by decide) (fun K hK => ?_)
                    refine goes_ Tryd.func24 (by kernel_rfl) rfl #[.slice Ao124 t451.length co124, .slice Ao125 t454.length co125] (by rfl) rfl rfl (by (try simp only [List.map_toArray, List.map_cons, List.map_nil]); first | done | rfl | (simp only [List.length_drop, List.length_take]; rfl)) ?_
                    with_reducible refine (expr_Eval.calls kj72 _ _ t451 _ _ t454 t457 t458 _ ?side1 ?side2 ?side3 ?side4 ?side5 A111.out).mono ?_
                    (case side1 => repeat (first | exact (Kd.V_reads' HO453.out).2.2 | (with_reducible refine Kd.C_alloc ?_ _) | (with_reducible refine Kd.C_drewN ?_ _) | (with_reducible refine Kd.C_drew ?_)))
                    (case side2 => exact (Kd.V_reads' HO453.out).2.1)
                    (case side3 => repeat (first | exact (Kd.V_reads' HO456.out).2.2 | (with_reducible refine Kd.C_alloc ?_ _) | (with_reducible refine Kd.C_drewN ?_ _) | (with_reducible refine Kd.C_drew ?_)))
                    (case side4 => exact (Kd.V_reads' HO456.out).2.1)
                    (case side5 => first | exact hG_ | exact Glob.drewN hG_ _ | exact Glob.below hG_ (by repeat (first | (with_reducible first | exact HB.out | apply below_alloc | apply pw_below_drewN | apply below_drew1 | refine below_set ?_ GE355.out) | exact HB.out)))
                    rintro e w126 ⟨rfl, hb⟩
                    refine ⟨_, rfl, ?_⟩
                    have n0_ := Aside0.mk (Kd.V_below (by (with_reducible repeat (first | apply Kd.V_alloc | apply Kd.V_drewN | apply Kd.V_drew)); exact HO_7.out) hb)
                    have n1_ := Aside0.mk (Kd.N_below (by (with_reducible repeat (first | apply Kd.N_alloc | apply Kd.N_drewN | apply Kd.N_drew)); exact HO444.out) hb)
                    have n2_ := Aside0.mk (Kd.V_below (by (with_reducible repeat (first | apply Kd.V_alloc | apply Kd.V_drewN | apply Kd.V_drew)); exact HO447.out) hb)
                    have n3_ := Aside0.mk (Kd.N_below (by (with_reducible repeat (first | apply Kd.N_alloc | apply Kd.N_drewN | apply Kd.N_drew)); exact HO450.out) hb)
                    have n4_ := Aside0.mk (Kd.V_below (by (with_reducible repeat (first | apply Kd.V_alloc | apply Kd.V_drewN | apply Kd.V_drew)); exact HO453.out) hb)
                    have n5_ := Aside0.mk (Kd.V_below (by (with_reducible repeat (first | apply Kd.V_alloc | apply Kd.V_drewN | apply Kd.V_drew)); exact HO456.out) hb)
                    have n6_ := Aside0.mk (blk_below (g := gb355) (o := .cells #[.int .i64 a2_0, .int .i64 a2_1, .int .i64 a2_2] 45 (0, 0)) (by (with_reducible repeat (first | refine blk_drewN ?_ _ | refine blk_drew ?_ | refine blk_alloc ?_ _)); exact BK355.out) hb)
                    have n7_ := Aside0.mk (below_step (by repeat (first | (with_reducible first | exact HB.out | apply below_alloc | apply pw_below_drewN | apply below_drew1 | refine below_set ?_ GE355.out) | exact HB.out)) hb)
                    clear HO_7
                    clear HO444
                    clear HO447
                    clear HO450
                    clear HO453
                    clear HO456
                    clear BK355
                    clear HB
                    have HO_7 := n0_
                    have HO444 := n1_
                    have HO447 := n2_
                    have HO450 := n3_
                    have HO453 := n4_
                    have HO456 := n5_
                    have BK355 := n6_
                    have HB := n7_
                    clear n0_ n1_ n2_ n3_ n4_ n5_ n6_ n7_
                    (try clear hb)
                    (try clear hb2)
                    (try clear hk)
                    (try clear hi)
                    refine hK.out _ _ ⟨(blk_cell BK355.out 0).trans rfl, (blk_cell BK355.out 1).trans rfl, (blk_cell BK355.out 2).trans rfl⟩ (fun hHeld => ?_)
                    clear hK K
                    refine norm_ (a' := ?_) ?_ ?_
                    rotate_left
                    · show Act.put _ (some 84) _ = _
                      simp only [Act.put, List.setIfInBounds_toArray, List.set_cons_zero, List.set_cons_succ, i64_w, i32_w]
                      rfl
                    refine pure_ (i := 9) (N := some 75) (v := ?_) (a' := ?_) #[true, true, true, true, true, true, true, true, true, true, false, false, false, false] rfl rfl (any_of HT_.out (by kernel_rfl)) (fun _ _ _ h => h) (Or.inl ⟨by rfl, ?_⟩) ?_ ?_
                    rotate_left
                    · intro w'
                      go_simp
                      with_reducible rfl
                    rotate_left
                    · simp only [Act.put, List.setIfInBounds_toArray, List.set_cons_zero, List.set_cons_succ, i64_w, i32_w]
                      rfl
                    refine pure_ (i := 10) (N := some 85) (v := ?_) (a' := ?_) #[true, true, true, true, true, true, true, true, true, true, true, false, false, false] rfl rfl (any_of HT_.out (by kernel_rfl)) (fun _ _ _ h => h) (Or.inl ⟨by rfl, ?_⟩) ?_ ?_
                    rotate_left
                    · intro w'
                      go_simp
                      with_reducible rfl
                    rotate_left
                    · simp only [Act.put, List.setIfInBounds_toArray, List.set_cons_zero, List.set_cons_succ, i64_w, i32_w]
                      rfl
                    refine pure_ (i := 11) (N := some 86) (v := ?_) (a' := ?_) #[true, true, true, true, true, true, true, true, true, true, true, true, false, false] rfl rfl (any_of HT_.out (by kernel_rfl)) (fun _ _ _ h => h) (Or.inl ⟨by rfl, ?_⟩) ?_ ?_
                    rotate_left
                    · intro w'
                      go_simp
                      with_reducible rfl
                    rotate_left
                    · simp only [Act.put, List.setIfInBounds_toArray, List.set_cons_zero, List.set_cons_succ, i64_w, i32_w]
                      rfl
                    refine pure_ (i := 12) (N := some 17) (v := ?_) (a' := ?_) #[true, true, true, true, true, true, true, true, true, true, true, true, true, false] rfl rfl (any_of HT_.out (by kernel_rfl)) (fun _ _ _ h => h) (Or.inl ⟨by rfl, ?_⟩) ?_ ?_
                    rotate_left
                    · intro w'
                      go_simp
                      with_reducible rfl
                    rotate_left
                    · simp only [Act.put, List.setIfInBounds_toArray, List.set_cons_zero, List.set_cons_succ, i64_w, i32_w]
                      rfl
                    refine pure_ (i := 13) (N := some 18) (v := ?_) (a' := ?_) #[true, true, true, true, true, true, true, true, true, true, true, true, true, true] rfl rfl (any_of HT_.out (by kernel_rfl)) (fun _ _ _ h => h) (Or.inl ⟨by rfl, ?_⟩) ?_ ?_
                    rotate_left
                    · intro w'
                      go_simp
                      with_reducible rfl
                    rotate_left
                    · simp only [Act.put, List.setIfInBounds_toArray, List.set_cons_zero, List.set_cons_succ, i64_w, i32_w]
                      rfl
                    refine done_ (done_of HT_.out (by kernel_rfl)) ?_
                    try go_wp2
                    go_meet
                    case rel => exact ⟨_, (t457), (t458), (by first | rfl | (simp; done) | (simp [*]; done)), (by first | rfl | (simp; done) | (simp [*]; done)), H', ⟨by have := HJ5.out; have := HJ29.out; have := HJ57.out; have := HJ72.out; first | omega | exact Nat.le_refl _⟩, ⟨by (with_reducible repeat (first | refine blk_drewN ?_ _ | refine blk_drew ?_ | refine blk_alloc ?_ _)); exact BK355.out⟩, ⟨by repeat (first | (with_reducible first | exact HB.out | apply below_alloc | apply pw_below_drewN | apply below_drew1 | refine below_set ?_ GE355.out) | exact HB.out)⟩⟩
                  case rest =>
                    clear HC107
                    try clear c1
                    try clear c2
                    try clear p2
                    try clear c21
                    try clear c24
                    try clear c25
                    try clear p2
                    obtain ⟨kq, x17_106, x18_106, rfl, rfl, HA, HJ106, BK355, HB⟩ := hcut
                    cases kq with
                    | zero => exact absurd HA.out (by simp [foretellkeep_EvalLogic.j4])
                    | succ kj106 =>
                      have H := HA.out
                      clear HA
                      simp only [foretellkeep_EvalLogic.j4] at H
                      by_cases c127 : x10_5 = 0
                      · rw [if_pos c127] at H
                        have c127b0 : (x10_5 == 0) = true := beq_iff_eq.mpr c127
                        have c127b1 : (x10_5 != 0) = false := bne_eq_false_iff_eq.mpr c127
                        clear c127
                        by_cases c128 : x12_29 = 0
                        · rw [if_pos c128] at H
                          have c128b0 : (x12_29 == 0) = true := beq_iff_eq.mpr c128
                          have c128b1 : (x12_29 != 0) = false := bne_eq_false_iff_eq.mpr c128
                          clear c128
                          by_cases c129 : x14_57 = 0
                          · rw [if_pos c129] at H
                            have c129b0 : (x14_57 == 0) = true := beq_iff_eq.mpr c129
                            have c129b1 : (x14_57 != 0) = false := bne_eq_false_iff_eq.mpr c129
                            clear c129
                            by_cases c130 : x16_72 = 0
                            · rw [if_pos c130] at H
                              have c130b0 : (x16_72 == 0) = true := beq_iff_eq.mpr c130
                              have c130b1 : (x16_72 != 0) = false := bne_eq_false_iff_eq.mpr c130
                              clear c130
                              by_cases c131 : x18_106 = 0
                              · rw [if_pos c131] at H
                                have c131b0 : (x18_106 == 0) = true := beq_iff_eq.mpr c131
                                have c131b1 : (x18_106 != 0) = false := bne_eq_false_iff_eq.mpr c131
                                clear c131
                                by_cases c132 : x9_5 = x11_29
                                · rw [if_pos c132] at H
                                  have c132b0 : (x9_5 == x11_29) = true := beq_iff_eq.mpr c132
                                  have c132b1 : (x9_5 != x11_29) = false := bne_eq_false_iff_eq.mpr c132
                                  clear c132
                                  by_cases c133 : x13_57 = x15_72
                                  · rw [if_pos c133] at H
                                    have c133b0 : (x13_57 == x15_72) = true := beq_iff_eq.mpr c133
                                    have c133b1 : (x13_57 != x15_72) = false := bne_eq_false_iff_eq.mpr c133
                                    clear c133
                                    by_cases c134 : x9_5 = 0
                                    · rw [if_pos c134] at H
                                      have c134b0 : (x9_5 == 0) = true := beq_iff_eq.mpr c134
                                      have c134b1 : (x9_5 != 0) = false := bne_eq_false_iff_eq.mpr c134
                                      clear c134
                                      obtain rfl := Option.some.inj H
                                      go_wp2
                                      go_ret
                                      exact ⟨by first | rfl | (simp [errW_none, errW_some] <;> rfl) | (simp [*, errW_none, errW_some] <;> rfl), by repeat (first | (with_reducible first | exact HB.out | apply below_alloc | apply pw_below_drewN | apply below_drew1 | refine below_set ?_ GE355.out) | exact HB.out)⟩
                                    · rw [if_neg c134] at H
                                      have c134b0 : (x9_5 == 0) = false := beq_eq_false_iff_ne.mpr c134
                                      have c134b1 : (x9_5 != 0) = true := bne_iff_ne.mpr c134
                                      by_cases c135 : x9_5 = 1
                                      · rw [if_pos c135] at H
                                        have c135b0 : (x9_5 == 1) = true := beq_iff_eq.mpr c135
                                        have c135b1 : (x9_5 != 1) = false := bne_eq_false_iff_eq.mpr c135
                                        clear c135
                                        obtain rfl := Option.some.inj H
                                        go_wp2
                                        go_ret
                                        exact ⟨by first | rfl | (simp [errW_none, errW_some] <;> rfl) | (simp [*, errW_none, errW_some] <;> rfl), by repeat (first | (with_reducible first | exact HB.out | apply below_alloc | apply pw_below_drewN | apply below_drew1 | refine below_set ?_ GE355.out) | exact HB.out)⟩
                                      · rw [if_neg c135] at H
                                        exact absurd ((Option.some.inj H).trans hr_.out) (by decide)
                                  · rw [if_neg c133] at H
                                    exact absurd ((Option.some.inj H).trans hr_.out) (by decide)
                                · rw [if_neg c132] at H
                                  exact absurd ((Option.some.inj H).trans hr_.out) (by decide)
                              · rw [if_neg c131] at H
                                exact absurd ((Option.some.inj H).trans hr_.out) (by decide)
                            · rw [if_neg c130] at H
                              exact absurd ((Option.some.inj H).trans hr_.out) (by decide)
                          · rw [if_neg c129] at H
                            exact absurd ((Option.some.inj H).trans hr_.out) (by decide)
                        · rw [if_neg c128] at H
                          exact absurd ((Option.some.inj H).trans hr_.out) (by decide)
                      · rw [if_neg c127] at H
                        exact absurd ((Option.some.inj H).trans hr_.out) (by decide)

end Go.Proofs.YtlejdidngmjicaaDoor.P
