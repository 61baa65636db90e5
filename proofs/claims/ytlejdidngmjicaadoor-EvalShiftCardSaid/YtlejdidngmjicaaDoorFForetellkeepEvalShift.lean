-- a walk, laid out by a program of this repo over the seat's translation
import Derived.Test.YtlejdidngmjicaaDoorF0
import Derived.Test.YtlejdidngmjicaaDoorFForetellkeepPicked
import Derived.Test.YtlejdidngmjicaaDoorFForetellkeepJoined
import Derived.Test.YtlejdidngmjicaaDoorFForetellkeepNumber
import Derived.Test.YtlejdidngmjicaaDoorFExprEval
import Derived.Test.YtlejdidngmjicaaDoorFForetellkeepEnv
import Derived.Test.YtlejdidngmjicaaDoorFForetellkeepNum
namespace Go.Proofs.YtlejdidngmjicaaDoor.P
open Go.RowKit Go.Proofs.YtlejdidngmjicaaDoorW.PrintWords Go.Proofs.YtlejdidngmjicaaDoorW.PrintLast Go.Proofs.YtlejdidngmjicaaDoorW.PrintMore Go.Proofs.YtlejdidngmjicaaDoor.G
attribute [local go_sem] max2_int min2_int max_two min_two max_three min_three max_four min_four   -- for this text's walks alone
set_option linter.unusedVariables false
set_option linter.unusedSimpArgs false

/-! ### foretellkeep_EvalShift: function 12 -/
def foretellkeep_EvalShift.f (k : Nat) (l0 : List (S69)) (a1 : Int) (a2_0 : Int) (a2_1 : Int) (a2_2 : Int) : Option (Bool) := (foretellkeep_Number.f k l0 3).bind fun t527 => ((foretellkeep_picked.f a1 2001).bind fun t530 => ((foretellkeep_num.f (wrap64 (t530 - 1000))).bind fun t531 => ((foretellkeep_env.f a2_0 a2_1 a2_2).bind fun t534 => ((expr_Eval.f k t527 t534).bind fun bt537 => ((foretellkeep_joined.f k 3 (([t527, t531] : List (List (S32))))).bind fun t542 => ((foretellkeep_joined.f k 4 (([t542, t531] : List (List (S32))))).bind fun t548 => ((foretellkeep_env.f a2_0 a2_1 a2_2).bind fun t551 => ((expr_Eval.f k t548 t551).bind fun bt554 => ((foretellkeep_num.f 1).bind fun t556 => ((foretellkeep_joined.f k 5 (([t556, t527] : List (List (S32))))).bind fun t562 => ((foretellkeep_env.f a2_0 a2_1 a2_2).bind fun t565 => ((expr_Eval.f k t562 t565).bind fun bt568 => ((foretellkeep_num.f 0).bind fun t570 => ((foretellkeep_joined.f k 5 (([t527, t570] : List (List (S32))))).bind fun t576 => ((foretellkeep_env.f a2_0 a2_1 a2_2).bind fun t579 => ((expr_Eval.f k t576 t579).bind fun bt582 => ((expr_Eval.f k t531 ([] : List Int)).bind fun bt584 => (if bt537.2 = 0 then (if bt554.2 = 0 then (if bt568.2 = 0 then (if bt582.2 = 0 then (if bt584.2 = 0 then (if bt537.1 = bt554.1 then (if bt537.1 = bt568.1 then (if bt582.1 = 0 then ((foretellkeep_picked.f a1 2001).bind fun t586 => (some (bt584.1 == (wrap64 (t586 - 1000))))) else (some false)) else (some false)) else (some false)) else (some false)) else (some false)) else (some false)) else (some false)) else (some false)))))))))))))))))))
theorem foretellkeep_EvalShift.mono : ∀ a0 a1 a2 a3 a4 k, LeO (foretellkeep_EvalShift.f k a0 a1 a2 a3 a4) (foretellkeep_EvalShift.f (k + 1) a0 a1 a2 a3 a4) := by
  intro a0 a1 a2 a3 a4 k
  unfold foretellkeep_EvalShift.f
  repeat' first
      | (with_reducible exact expr_Eval.mono _ _ _)
      | (with_reducible exact foretellkeep_Number.mono _ _ _)
      | (with_reducible exact foretellkeep_joined.mono _ _ _)
      | (with_reducible exact LeO.refl _)
      | (with_reducible exact LeO.none _)
      | (with_reducible refine LeO.ite ?_ ?_)
      | (with_reducible refine LeO.bind ?_ (fun _ => ?_))
      | exact expr_Eval.mono _ _ _
      | exact foretellkeep_Number.mono _ _ _
      | exact foretellkeep_joined.mono _ _ _
      | exact LeO.none _
      | refine LeO.ite ?_ ?_
      | refine LeO.bind ?_ (fun _ => ?_)
def foretellkeep_EvalShift.T4 : Bool × List (List Nat × List Nat) := (true, [([], []), ([], []), ([0, 1], [0, 1]), ([2], [2]), ([], []), ([3, 4], [3, 4]), ([5, 3], [5]), ([], []), ([7, 6], [7]), ([6, 8, 8], [6, 8]), ([9], [9]), ([10], [10]), ([10], [10]), ([11, 9, 0, 1, 2, 3, 4, 5, 6, 7, 8, 9, 10, 11], [11]), ([12, 13, 0, 1, 2, 3, 4, 5, 6, 7, 8, 9, 10, 11, 12, 13], [12])])
def foretellkeep_EvalShift.B4 : List Nat := [0, 0, 3, 7, 0, 31, 63, 0, 255, 511, 1023, 2047, 2047, 4095, 16383]
theorem foretellkeep_EvalShift.tab4 : rtab .any (opsOf Tryd.f12 4) = foretellkeep_EvalShift.T4 := by kernel_rfl
theorem foretellkeep_EvalShift.bits4 : waitsOk foretellkeep_EvalShift.T4.2 foretellkeep_EvalShift.B4 = true := by kernel_rfl
def foretellkeep_EvalShift.T5 : Bool × List (List Nat × List Nat) := (true, [([], []), ([], []), ([0, 1], [0, 1]), ([2, 0], [2]), ([], []), ([4, 3], [4]), ([3, 5, 5], [3, 5]), ([6], [6]), ([7], [7]), ([7], [7]), ([8, 6, 0, 1, 2, 3, 4, 5, 6, 7, 8], [8]), ([9, 10, 0, 1, 2, 3, 4, 5, 6, 7, 8, 9, 10], [9])])
def foretellkeep_EvalShift.B5 : List Nat := [0, 0, 3, 7, 0, 31, 63, 127, 255, 255, 511, 2047]
theorem foretellkeep_EvalShift.tab5 : rtab .any (opsOf Tryd.f12 5) = foretellkeep_EvalShift.T5 := by kernel_rfl
theorem foretellkeep_EvalShift.bits5 : waitsOk foretellkeep_EvalShift.T5.2 foretellkeep_EvalShift.B5 = true := by kernel_rfl
def foretellkeep_EvalShift.T6 : Bool × List (List Nat × List Nat) := (true, [([], []), ([], []), ([0, 1], [0, 1]), ([2, 1], [2]), ([], []), ([4, 3], [4]), ([3, 5, 5], [3, 5]), ([6], [6]), ([7], [7]), ([7], [7]), ([8, 6, 0, 1, 2, 3, 4, 5, 6, 7, 8], [8]), ([9, 10, 0, 1, 2, 3, 4, 5, 6, 7, 8, 9, 10], [9])])
def foretellkeep_EvalShift.B6 : List Nat := [0, 0, 3, 7, 0, 31, 63, 127, 255, 255, 511, 2047]
theorem foretellkeep_EvalShift.tab6 : rtab .any (opsOf Tryd.f12 6) = foretellkeep_EvalShift.T6 := by kernel_rfl
theorem foretellkeep_EvalShift.bits6 : waitsOk foretellkeep_EvalShift.T6.2 foretellkeep_EvalShift.B6 = true := by kernel_rfl
set_option maxHeartbeats 8000000 in
set_option maxRecDepth 100000 in
theorem foretellkeep_EvalShift.calls (k : Nat) (A0 : Option Addr) (c0 : Nat) (l0 : List (S69)) (a1 : Int) (a2_0 : Int) (a2_1 : Int) (a2_2 : Int) (r : Bool) (w : World) (hr0 : Kd.C k69 w A0 l0.length l0) (hc0 : l0.length ≤ c0) (hG_ : Glob w) (hr_ : Aside0 (r = true)) (h : foretellkeep_EvalShift.f k l0 a1 a2_0 a2_1 a2_2 = some r) :
    Calls Tryd.prog 12 #[.slice A0 l0.length c0, .int .i64 a1, .agg #[.int .i64 a2_0, .int .i64 a2_1, .int .i64 a2_2]] w fun e w' => e = .returned (.bool r) ∧ Below w.heap.size w w' := by
  have hu45 := Tryd.underlying45
  have HR0 := Aside0.mk hr0
  have HC0 := Aside0.mk hc0
  clear hr0 hc0
  have HB := Aside0.mk (Below.refl w.heap.size w)
  have H : ((foretellkeep_Number.f k l0 3).bind fun t527 => ((foretellkeep_picked.f a1 2001).bind fun t530 => ((foretellkeep_num.f (wrap64 (t530 - 1000))).bind fun t531 => ((foretellkeep_env.f a2_0 a2_1 a2_2).bind fun t534 => ((expr_Eval.f k t527 t534).bind fun bt537 => ((foretellkeep_joined.f k 3 (([t527, t531] : List (List (S32))))).bind fun t542 => ((foretellkeep_joined.f k 4 (([t542, t531] : List (List (S32))))).bind fun t548 => ((foretellkeep_env.f a2_0 a2_1 a2_2).bind fun t551 => ((expr_Eval.f k t548 t551).bind fun bt554 => ((foretellkeep_num.f 1).bind fun t556 => ((foretellkeep_joined.f k 5 (([t556, t527] : List (List (S32))))).bind fun t562 => ((foretellkeep_env.f a2_0 a2_1 a2_2).bind fun t565 => ((expr_Eval.f k t562 t565).bind fun bt568 => ((foretellkeep_num.f 0).bind fun t570 => ((foretellkeep_joined.f k 5 (([t527, t570] : List (List (S32))))).bind fun t576 => ((foretellkeep_env.f a2_0 a2_1 a2_2).bind fun t579 => ((expr_Eval.f k t576 t579).bind fun bt582 => ((expr_Eval.f k t531 ([] : List Int)).bind fun bt584 => (if bt537.2 = 0 then (if bt554.2 = 0 then (if bt568.2 = 0 then (if bt582.2 = 0 then (if bt584.2 = 0 then (if bt537.1 = bt554.1 then (if bt537.1 = bt568.1 then (if bt582.1 = 0 then ((foretellkeep_picked.f a1 2001).bind fun t586 => (some (bt584.1 == (wrap64 (t586 - 1000))))) else (some false)) else (some false)) else (some false)) else (some false)) else (some false)) else (some false)) else (some false)) else (some false)))))))))))))))))))) = some r := h
  clear h
  replace H := Option.bind_eq_some_iff.mp H
  obtain ⟨t527, A40, H⟩ := H
  replace H : ((foretellkeep_picked.f a1 2001).bind fun t530 => ((foretellkeep_num.f (wrap64 (t530 - 1000))).bind fun t531 => ((foretellkeep_env.f a2_0 a2_1 a2_2).bind fun t534 => ((expr_Eval.f k t527 t534).bind fun bt537 => ((foretellkeep_joined.f k 3 (([t527, t531] : List (List (S32))))).bind fun t542 => ((foretellkeep_joined.f k 4 (([t542, t531] : List (List (S32))))).bind fun t548 => ((foretellkeep_env.f a2_0 a2_1 a2_2).bind fun t551 => ((expr_Eval.f k t548 t551).bind fun bt554 => ((foretellkeep_num.f 1).bind fun t556 => ((foretellkeep_joined.f k 5 (([t556, t527] : List (List (S32))))).bind fun t562 => ((foretellkeep_env.f a2_0 a2_1 a2_2).bind fun t565 => ((expr_Eval.f k t562 t565).bind fun bt568 => ((foretellkeep_num.f 0).bind fun t570 => ((foretellkeep_joined.f k 5 (([t527, t570] : List (List (S32))))).bind fun t576 => ((foretellkeep_env.f a2_0 a2_1 a2_2).bind fun t579 => ((expr_Eval.f k t576 t579).bind fun bt582 => ((expr_Eval.f k t531 ([] : List Int)).bind fun bt584 => (if bt537.2 = 0 then (if bt554.2 = 0 then (if bt568.2 = 0 then (if bt582.2 = 0 then (if bt584.2 = 0 then (if bt537.1 = bt554.1 then (if bt537.1 = bt568.1 then (if bt582.1 = 0 then ((foretellkeep_picked.f a1 2001).bind fun t586 => (some (bt584.1 == (wrap64 (t586 - 1000))))) else (some false)) else (some false)) else (some false)) else (some false)) else (some false)) else (some false)) else (some false)) else (some false))))))))))))))))))) = some r := H
  have A4 := Aside0.mk A40
  clear A40
  replace H := Option.bind_eq_some_iff.mp H
  obtain ⟨t530, A50, H⟩ := H
  replace H : ((foretellkeep_num.f (wrap64 (t530 - 1000))).bind fun t531 => ((foretellkeep_env.f a2_0 a2_1 a2_2).bind fun t534 => ((expr_Eval.f k t527 t534).bind fun bt537 => ((foretellkeep_joined.f k 3 (([t527, t531] : List (List (S32))))).bind fun t542 => ((foretellkeep_joined.f k 4 (([t542, t531] : List (List (S32))))).bind fun t548 => ((foretellkeep_env.f a2_0 a2_1 a2_2).bind fun t551 => ((expr_Eval.f k t548 t551).bind fun bt554 => ((foretellkeep_num.f 1).bind fun t556 => ((foretellkeep_joined.f k 5 (([t556, t527] : List (List (S32))))).bind fun t562 => ((foretellkeep_env.f a2_0 a2_1 a2_2).bind fun t565 => ((expr_Eval.f k t562 t565).bind fun bt568 => ((foretellkeep_num.f 0).bind fun t570 => ((foretellkeep_joined.f k 5 (([t527, t570] : List (List (S32))))).bind fun t576 => ((foretellkeep_env.f a2_0 a2_1 a2_2).bind fun t579 => ((expr_Eval.f k t576 t579).bind fun bt582 => ((expr_Eval.f k t531 ([] : List Int)).bind fun bt584 => (if bt537.2 = 0 then (if bt554.2 = 0 then (if bt568.2 = 0 then (if bt582.2 = 0 then (if bt584.2 = 0 then (if bt537.1 = bt554.1 then (if bt537.1 = bt568.1 then (if bt582.1 = 0 then ((foretellkeep_picked.f a1 2001).bind fun t586 => (some (bt584.1 == (wrap64 (t586 - 1000))))) else (some false)) else (some false)) else (some false)) else (some false)) else (some false)) else (some false)) else (some false)) else (some false)))))))))))))))))) = some r := H
  have A5 := Aside0.mk A50
  clear A50
  replace H := Option.bind_eq_some_iff.mp H
  obtain ⟨t531, A60, H⟩ := H
  replace H : ((foretellkeep_env.f a2_0 a2_1 a2_2).bind fun t534 => ((expr_Eval.f k t527 t534).bind fun bt537 => ((foretellkeep_joined.f k 3 (([t527, t531] : List (List (S32))))).bind fun t542 => ((foretellkeep_joined.f k 4 (([t542, t531] : List (List (S32))))).bind fun t548 => ((foretellkeep_env.f a2_0 a2_1 a2_2).bind fun t551 => ((expr_Eval.f k t548 t551).bind fun bt554 => ((foretellkeep_num.f 1).bind fun t556 => ((foretellkeep_joined.f k 5 (([t556, t527] : List (List (S32))))).bind fun t562 => ((foretellkeep_env.f a2_0 a2_1 a2_2).bind fun t565 => ((expr_Eval.f k t562 t565).bind fun bt568 => ((foretellkeep_num.f 0).bind fun t570 => ((foretellkeep_joined.f k 5 (([t527, t570] : List (List (S32))))).bind fun t576 => ((foretellkeep_env.f a2_0 a2_1 a2_2).bind fun t579 => ((expr_Eval.f k t576 t579).bind fun bt582 => ((expr_Eval.f k t531 ([] : List Int)).bind fun bt584 => (if bt537.2 = 0 then (if bt554.2 = 0 then (if bt568.2 = 0 then (if bt582.2 = 0 then (if bt584.2 = 0 then (if bt537.1 = bt554.1 then (if bt537.1 = bt568.1 then (if bt582.1 = 0 then ((foretellkeep_picked.f a1 2001).bind fun t586 => (some (bt584.1 == (wrap64 (t586 - 1000))))) else (some false)) else (some false)) else (some false)) else (some false)) else (some false)) else (some false)) else (some false)) else (some false))))))))))))))))) = some r := H
  have A6 := Aside0.mk A60
  clear A60
  replace H := Option.bind_eq_some_iff.mp H
  obtain ⟨t534, A70, H⟩ := H
  replace H : ((expr_Eval.f k t527 t534).bind fun bt537 => ((foretellkeep_joined.f k 3 (([t527, t531] : List (List (S32))))).bind fun t542 => ((foretellkeep_joined.f k 4 (([t542, t531] : List (List (S32))))).bind fun t548 => ((foretellkeep_env.f a2_0 a2_1 a2_2).bind fun t551 => ((expr_Eval.f k t548 t551).bind fun bt554 => ((foretellkeep_num.f 1).bind fun t556 => ((foretellkeep_joined.f k 5 (([t556, t527] : List (List (S32))))).bind fun t562 => ((foretellkeep_env.f a2_0 a2_1 a2_2).bind fun t565 => ((expr_Eval.f k t562 t565).bind fun bt568 => ((foretellkeep_num.f 0).bind fun t570 => ((foretellkeep_joined.f k 5 (([t527, t570] : List (List (S32))))).bind fun t576 => ((foretellkeep_env.f a2_0 a2_1 a2_2).bind fun t579 => ((expr_Eval.f k t576 t579).bind fun bt582 => ((expr_Eval.f k t531 ([] : List Int)).bind fun bt584 => (if bt537.2 = 0 then (if bt554.2 = 0 then (if bt568.2 = 0 then (if bt582.2 = 0 then (if bt584.2 = 0 then (if bt537.1 = bt554.1 then (if bt537.1 = bt568.1 then (if bt582.1 = 0 then ((foretellkeep_picked.f a1 2001).bind fun t586 => (some (bt584.1 == (wrap64 (t586 - 1000))))) else (some false)) else (some false)) else (some false)) else (some false)) else (some false)) else (some false)) else (some false)) else (some false)))))))))))))))) = some r := H
  have A7 := Aside0.mk A70
  clear A70
  replace H := Option.bind_eq_some_iff.mp H
  obtain ⟨⟨t537, t538⟩, A80, H⟩ := H
  replace H : ((foretellkeep_joined.f k 3 (([t527, t531] : List (List (S32))))).bind fun t542 => ((foretellkeep_joined.f k 4 (([t542, t531] : List (List (S32))))).bind fun t548 => ((foretellkeep_env.f a2_0 a2_1 a2_2).bind fun t551 => ((expr_Eval.f k t548 t551).bind fun bt554 => ((foretellkeep_num.f 1).bind fun t556 => ((foretellkeep_joined.f k 5 (([t556, t527] : List (List (S32))))).bind fun t562 => ((foretellkeep_env.f a2_0 a2_1 a2_2).bind fun t565 => ((expr_Eval.f k t562 t565).bind fun bt568 => ((foretellkeep_num.f 0).bind fun t570 => ((foretellkeep_joined.f k 5 (([t527, t570] : List (List (S32))))).bind fun t576 => ((foretellkeep_env.f a2_0 a2_1 a2_2).bind fun t579 => ((expr_Eval.f k t576 t579).bind fun bt582 => ((expr_Eval.f k t531 ([] : List Int)).bind fun bt584 => (if t538 = 0 then (if bt554.2 = 0 then (if bt568.2 = 0 then (if bt582.2 = 0 then (if bt584.2 = 0 then (if t537 = bt554.1 then (if t537 = bt568.1 then (if bt582.1 = 0 then ((foretellkeep_picked.f a1 2001).bind fun t586 => (some (bt584.1 == (wrap64 (t586 - 1000))))) else (some false)) else (some false)) else (some false)) else (some false)) else (some false)) else (some false)) else (some false)) else (some false))))))))))))))) = some r := H
  have A8 := Aside0.mk A80
  clear A80
  obtain ⟨y539, hy539⟩ : ∃ y_ : List (List (S32)), y_ = (([t527, t531] : List (List (S32)))) := ⟨_, rfl⟩
  replace H : ((foretellkeep_joined.f k 3 y539).bind fun t542 => ((foretellkeep_joined.f k 4 (([t542, t531] : List (List (S32))))).bind fun t548 => ((foretellkeep_env.f a2_0 a2_1 a2_2).bind fun t551 => ((expr_Eval.f k t548 t551).bind fun bt554 => ((foretellkeep_num.f 1).bind fun t556 => ((foretellkeep_joined.f k 5 (([t556, t527] : List (List (S32))))).bind fun t562 => ((foretellkeep_env.f a2_0 a2_1 a2_2).bind fun t565 => ((expr_Eval.f k t562 t565).bind fun bt568 => ((foretellkeep_num.f 0).bind fun t570 => ((foretellkeep_joined.f k 5 (([t527, t570] : List (List (S32))))).bind fun t576 => ((foretellkeep_env.f a2_0 a2_1 a2_2).bind fun t579 => ((expr_Eval.f k t576 t579).bind fun bt582 => ((expr_Eval.f k t531 ([] : List Int)).bind fun bt584 => (if t538 = 0 then (if bt554.2 = 0 then (if bt568.2 = 0 then (if bt582.2 = 0 then (if bt584.2 = 0 then (if t537 = bt554.1 then (if t537 = bt568.1 then (if bt582.1 = 0 then ((foretellkeep_picked.f a1 2001).bind fun t586 => (some (bt584.1 == (wrap64 (t586 - 1000))))) else (some false)) else (some false)) else (some false)) else (some false)) else (some false)) else (some false)) else (some false)) else (some false))))))))))))))) = some r := by first | (rw [hy539]; with_reducible exact H) | (have H2_ := (Option.bind_some _ _).symm.trans H; rw [hy539]; with_reducible exact H2_) | (have H2_ := (Option.bind_some _ _).symm.trans H; with_reducible exact H2_) | with_reducible exact H | (rw [hy539]; exact H) | exact H
  have Ny539 := Aside0.mk hy539
  clear hy539
  replace H := Option.bind_eq_some_iff.mp H
  obtain ⟨t542, A90, H⟩ := H
  replace H : ((foretellkeep_joined.f k 4 (([t542, t531] : List (List (S32))))).bind fun t548 => ((foretellkeep_env.f a2_0 a2_1 a2_2).bind fun t551 => ((expr_Eval.f k t548 t551).bind fun bt554 => ((foretellkeep_num.f 1).bind fun t556 => ((foretellkeep_joined.f k 5 (([t556, t527] : List (List (S32))))).bind fun t562 => ((foretellkeep_env.f a2_0 a2_1 a2_2).bind fun t565 => ((expr_Eval.f k t562 t565).bind fun bt568 => ((foretellkeep_num.f 0).bind fun t570 => ((foretellkeep_joined.f k 5 (([t527, t570] : List (List (S32))))).bind fun t576 => ((foretellkeep_env.f a2_0 a2_1 a2_2).bind fun t579 => ((expr_Eval.f k t576 t579).bind fun bt582 => ((expr_Eval.f k t531 ([] : List Int)).bind fun bt584 => (if t538 = 0 then (if bt554.2 = 0 then (if bt568.2 = 0 then (if bt582.2 = 0 then (if bt584.2 = 0 then (if t537 = bt554.1 then (if t537 = bt568.1 then (if bt582.1 = 0 then ((foretellkeep_picked.f a1 2001).bind fun t586 => (some (bt584.1 == (wrap64 (t586 - 1000))))) else (some false)) else (some false)) else (some false)) else (some false)) else (some false)) else (some false)) else (some false)) else (some false)))))))))))))) = some r := H
  have A9 := Aside0.mk A90
  clear A90
  obtain ⟨y545, hy545⟩ : ∃ y_ : List (List (S32)), y_ = (([t542, t531] : List (List (S32)))) := ⟨_, rfl⟩
  replace H : ((foretellkeep_joined.f k 4 y545).bind fun t548 => ((foretellkeep_env.f a2_0 a2_1 a2_2).bind fun t551 => ((expr_Eval.f k t548 t551).bind fun bt554 => ((foretellkeep_num.f 1).bind fun t556 => ((foretellkeep_joined.f k 5 (([t556, t527] : List (List (S32))))).bind fun t562 => ((foretellkeep_env.f a2_0 a2_1 a2_2).bind fun t565 => ((expr_Eval.f k t562 t565).bind fun bt568 => ((foretellkeep_num.f 0).bind fun t570 => ((foretellkeep_joined.f k 5 (([t527, t570] : List (List (S32))))).bind fun t576 => ((foretellkeep_env.f a2_0 a2_1 a2_2).bind fun t579 => ((expr_Eval.f k t576 t579).bind fun bt582 => ((expr_Eval.f k t531 ([] : List Int)).bind fun bt584 => (if t538 = 0 then (if bt554.2 = 0 then (if bt568.2 = 0 then (if bt582.2 = 0 then (if bt584.2 = 0 then (if t537 = bt554.1 then (if t537 = bt568.1 then (if bt582.1 = 0 then ((foretellkeep_picked.f a1 2001).bind fun t586 => (some (bt584.1 == (wrap64 (t586 - 1000))))) else (some false)) else (some false)) else (some false)) else (some false)) else (some false)) else (some false)) else (some false)) else (some false)))))))))))))) = some r := by first | (rw [hy545]; with_reducible exact H) | (have H2_ := (Option.bind_some _ _).symm.trans H; rw [hy545]; with_reducible exact H2_) | (have H2_ := (Option.bind_some _ _).symm.trans H; with_reducible exact H2_) | with_reducible exact H | (rw [hy545]; exact H) | exact H
  have Ny545 := Aside0.mk hy545
  clear hy545
  replace H := Option.bind_eq_some_iff.mp H
  obtain ⟨t548, A100, H⟩ := H
  replace H : ((foretellkeep_env.f a2_0 a2_1 a2_2).bind fun t551 => ((expr_Eval.f k t548 t551).bind fun bt554 => ((foretellkeep_num.f 1).bind fun t556 => ((foretellkeep_joined.f k 5 (([t556, t527] : List (List (S32))))).bind fun t562 => ((foretellkeep_env.f a2_0 a2_1 a2_2).bind fun t565 => ((expr_Eval.f k t562 t565).bind fun bt568 => ((foretellkeep_num.f 0).bind fun t570 => ((foretellkeep_joined.f k 5 (([t527, t570] : List (List (S32))))).bind fun t576 => ((foretellkeep_env.f a2_0 a2_1 a2_2).bind fun t579 => ((expr_Eval.f k t576 t579).bind fun bt582 => ((expr_Eval.f k t531 ([] : List Int)).bind fun bt584 => (if t538 = 0 then (if bt554.2 = 0 then (if bt568.2 = 0 then (if bt582.2 = 0 then (if bt584.2 = 0 then (if t537 = bt554.1 then (if t537 = bt568.1 then (if bt582.1 = 0 then ((foretellkeep_picked.f a1 2001).bind fun t586 => (some (bt584.1 == (wrap64 (t586 - 1000))))) else (some false)) else (some false)) else (some false)) else (some false)) else (some false)) else (some false)) else (some false)) else (some false))))))))))))) = some r := H
  have A10 := Aside0.mk A100
  clear A100
  replace H := Option.bind_eq_some_iff.mp H
  obtain ⟨t551, A110, H⟩ := H
  replace H : ((expr_Eval.f k t548 t551).bind fun bt554 => ((foretellkeep_num.f 1).bind fun t556 => ((foretellkeep_joined.f k 5 (([t556, t527] : List (List (S32))))).bind fun t562 => ((foretellkeep_env.f a2_0 a2_1 a2_2).bind fun t565 => ((expr_Eval.f k t562 t565).bind fun bt568 => ((foretellkeep_num.f 0).bind fun t570 => ((foretellkeep_joined.f k 5 (([t527, t570] : List (List (S32))))).bind fun t576 => ((foretellkeep_env.f a2_0 a2_1 a2_2).bind fun t579 => ((expr_Eval.f k t576 t579).bind fun bt582 => ((expr_Eval.f k t531 ([] : List Int)).bind fun bt584 => (if t538 = 0 then (if bt554.2 = 0 then (if bt568.2 = 0 then (if bt582.2 = 0 then (if bt584.2 = 0 then (if t537 = bt554.1 then (if t537 = bt568.1 then (if bt582.1 = 0 then ((foretellkeep_picked.f a1 2001).bind fun t586 => (some (bt584.1 == (wrap64 (t586 - 1000))))) else (some false)) else (some false)) else (some false)) else (some false)) else (some false)) else (some false)) else (some false)) else (some false)))))))))))) = some r := H
  have A11 := Aside0.mk A110
  clear A110
  replace H := Option.bind_eq_some_iff.mp H
  obtain ⟨⟨t554, t555⟩, A120, H⟩ := H
  replace H : ((foretellkeep_num.f 1).bind fun t556 => ((foretellkeep_joined.f k 5 (([t556, t527] : List (List (S32))))).bind fun t562 => ((foretellkeep_env.f a2_0 a2_1 a2_2).bind fun t565 => ((expr_Eval.f k t562 t565).bind fun bt568 => ((foretellkeep_num.f 0).bind fun t570 => ((foretellkeep_joined.f k 5 (([t527, t570] : List (List (S32))))).bind fun t576 => ((foretellkeep_env.f a2_0 a2_1 a2_2).bind fun t579 => ((expr_Eval.f k t576 t579).bind fun bt582 => ((expr_Eval.f k t531 ([] : List Int)).bind fun bt584 => (if t538 = 0 then (if t555 = 0 then (if bt568.2 = 0 then (if bt582.2 = 0 then (if bt584.2 = 0 then (if t537 = t554 then (if t537 = bt568.1 then (if bt582.1 = 0 then ((foretellkeep_picked.f a1 2001).bind fun t586 => (some (bt584.1 == (wrap64 (t586 - 1000))))) else (some false)) else (some false)) else (some false)) else (some false)) else (some false)) else (some false)) else (some false)) else (some false))))))))))) = some r := H
  have A12 := Aside0.mk A120
  clear A120
  replace H := Option.bind_eq_some_iff.mp H
  obtain ⟨t556, A130, H⟩ := H
  replace H : ((foretellkeep_joined.f k 5 (([t556, t527] : List (List (S32))))).bind fun t562 => ((foretellkeep_env.f a2_0 a2_1 a2_2).bind fun t565 => ((expr_Eval.f k t562 t565).bind fun bt568 => ((foretellkeep_num.f 0).bind fun t570 => ((foretellkeep_joined.f k 5 (([t527, t570] : List (List (S32))))).bind fun t576 => ((foretellkeep_env.f a2_0 a2_1 a2_2).bind fun t579 => ((expr_Eval.f k t576 t579).bind fun bt582 => ((expr_Eval.f k t531 ([] : List Int)).bind fun bt584 => (if t538 = 0 then (if t555 = 0 then (if bt568.2 = 0 then (if bt582.2 = 0 then (if bt584.2 = 0 then (if t537 = t554 then (if t537 = bt568.1 then (if bt582.1 = 0 then ((foretellkeep_picked.f a1 2001).bind fun t586 => (some (bt584.1 == (wrap64 (t586 - 1000))))) else (some false)) else (some false)) else (some false)) else (some false)) else (some false)) else (some false)) else (some false)) else (some false)))))))))) = some r := H
  have A13 := Aside0.mk A130
  clear A130
  obtain ⟨y559, hy559⟩ : ∃ y_ : List (List (S32)), y_ = (([t556, t527] : List (List (S32)))) := ⟨_, rfl⟩
  replace H : ((foretellkeep_joined.f k 5 y559).bind fun t562 => ((foretellkeep_env.f a2_0 a2_1 a2_2).bind fun t565 => ((expr_Eval.f k t562 t565).bind fun bt568 => ((foretellkeep_num.f 0).bind fun t570 => ((foretellkeep_joined.f k 5 (([t527, t570] : List (List (S32))))).bind fun t576 => ((foretellkeep_env.f a2_0 a2_1 a2_2).bind fun t579 => ((expr_Eval.f k t576 t579).bind fun bt582 => ((expr_Eval.f k t531 ([] : List Int)).bind fun bt584 => (if t538 = 0 then (if t555 = 0 then (if bt568.2 = 0 then (if bt582.2 = 0 then (if bt584.2 = 0 then (if t537 = t554 then (if t537 = bt568.1 then (if bt582.1 = 0 then ((foretellkeep_picked.f a1 2001).bind fun t586 => (some (bt584.1 == (wrap64 (t586 - 1000))))) else (some false)) else (some false)) else (some false)) else (some false)) else (some false)) else (some false)) else (some false)) else (some false)))))))))) = some r := by first | (rw [hy559]; with_reducible exact H) | (have H2_ := (Option.bind_some _ _).symm.trans H; rw [hy559]; with_reducible exact H2_) | (have H2_ := (Option.bind_some _ _).symm.trans H; with_reducible exact H2_) | with_reducible exact H | (rw [hy559]; exact H) | exact H
  have Ny559 := Aside0.mk hy559
  clear hy559
  replace H := Option.bind_eq_some_iff.mp H
  obtain ⟨t562, A140, H⟩ := H
  replace H : ((foretellkeep_env.f a2_0 a2_1 a2_2).bind fun t565 => ((expr_Eval.f k t562 t565).bind fun bt568 => ((foretellkeep_num.f 0).bind fun t570 => ((foretellkeep_joined.f k 5 (([t527, t570] : List (List (S32))))).bind fun t576 => ((foretellkeep_env.f a2_0 a2_1 a2_2).bind fun t579 => ((expr_Eval.f k t576 t579).bind fun bt582 => ((expr_Eval.f k t531 ([] : List Int)).bind fun bt584 => (if t538 = 0 then (if t555 = 0 then (if bt568.2 = 0 then (if bt582.2 = 0 then (if bt584.2 = 0 then (if t537 = t554 then (if t537 = bt568.1 then (if bt582.1 = 0 then ((foretellkeep_picked.f a1 2001).bind fun t586 => (some (bt584.1 == (wrap64 (t586 - 1000))))) else (some false)) else (some false)) else (some false)) else (some false)) else (some false)) else (some false)) else (some false)) else (some false))))))))) = some r := H
  have A14 := Aside0.mk A140
  clear A140
  replace H := Option.bind_eq_some_iff.mp H
  obtain ⟨t565, A150, H⟩ := H
  replace H : ((expr_Eval.f k t562 t565).bind fun bt568 => ((foretellkeep_num.f 0).bind fun t570 => ((foretellkeep_joined.f k 5 (([t527, t570] : List (List (S32))))).bind fun t576 => ((foretellkeep_env.f a2_0 a2_1 a2_2).bind fun t579 => ((expr_Eval.f k t576 t579).bind fun bt582 => ((expr_Eval.f k t531 ([] : List Int)).bind fun bt584 => (if t538 = 0 then (if t555 = 0 then (if bt568.2 = 0 then (if bt582.2 = 0 then (if bt584.2 = 0 then (if t537 = t554 then (if t537 = bt568.1 then (if bt582.1 = 0 then ((foretellkeep_picked.f a1 2001).bind fun t586 => (some (bt584.1 == (wrap64 (t586 - 1000))))) else (some false)) else (some false)) else (some false)) else (some false)) else (some false)) else (some false)) else (some false)) else (some false)))))))) = some r := H
  have A15 := Aside0.mk A150
  clear A150
  replace H := Option.bind_eq_some_iff.mp H
  obtain ⟨⟨t568, t569⟩, A160, H⟩ := H
  replace H : ((foretellkeep_num.f 0).bind fun t570 => ((foretellkeep_joined.f k 5 (([t527, t570] : List (List (S32))))).bind fun t576 => ((foretellkeep_env.f a2_0 a2_1 a2_2).bind fun t579 => ((expr_Eval.f k t576 t579).bind fun bt582 => ((expr_Eval.f k t531 ([] : List Int)).bind fun bt584 => (if t538 = 0 then (if t555 = 0 then (if t569 = 0 then (if bt582.2 = 0 then (if bt584.2 = 0 then (if t537 = t554 then (if t537 = t568 then (if bt582.1 = 0 then ((foretellkeep_picked.f a1 2001).bind fun t586 => (some (bt584.1 == (wrap64 (t586 - 1000))))) else (some false)) else (some false)) else (some false)) else (some false)) else (some false)) else (some false)) else (some false)) else (some false))))))) = some r := H
  have A16 := Aside0.mk A160
  clear A160
  replace H := Option.bind_eq_some_iff.mp H
  obtain ⟨t570, A170, H⟩ := H
  replace H : ((foretellkeep_joined.f k 5 (([t527, t570] : List (List (S32))))).bind fun t576 => ((foretellkeep_env.f a2_0 a2_1 a2_2).bind fun t579 => ((expr_Eval.f k t576 t579).bind fun bt582 => ((expr_Eval.f k t531 ([] : List Int)).bind fun bt584 => (if t538 = 0 then (if t555 = 0 then (if t569 = 0 then (if bt582.2 = 0 then (if bt584.2 = 0 then (if t537 = t554 then (if t537 = t568 then (if bt582.1 = 0 then ((foretellkeep_picked.f a1 2001).bind fun t586 => (some (bt584.1 == (wrap64 (t586 - 1000))))) else (some false)) else (some false)) else (some false)) else (some false)) else (some false)) else (some false)) else (some false)) else (some false)))))) = some r := H
  have A17 := Aside0.mk A170
  clear A170
  obtain ⟨y573, hy573⟩ : ∃ y_ : List (List (S32)), y_ = (([t527, t570] : List (List (S32)))) := ⟨_, rfl⟩
  replace H : ((foretellkeep_joined.f k 5 y573).bind fun t576 => ((foretellkeep_env.f a2_0 a2_1 a2_2).bind fun t579 => ((expr_Eval.f k t576 t579).bind fun bt582 => ((expr_Eval.f k t531 ([] : List Int)).bind fun bt584 => (if t538 = 0 then (if t555 = 0 then (if t569 = 0 then (if bt582.2 = 0 then (if bt584.2 = 0 then (if t537 = t554 then (if t537 = t568 then (if bt582.1 = 0 then ((foretellkeep_picked.f a1 2001).bind fun t586 => (some (bt584.1 == (wrap64 (t586 - 1000))))) else (some false)) else (some false)) else (some false)) else (some false)) else (some false)) else (some false)) else (some false)) else (some false)))))) = some r := by first | (rw [hy573]; with_reducible exact H) | (have H2_ := (Option.bind_some _ _).symm.trans H; rw [hy573]; with_reducible exact H2_) | (have H2_ := (Option.bind_some _ _).symm.trans H; with_reducible exact H2_) | with_reducible exact H | (rw [hy573]; exact H) | exact H
  have Ny573 := Aside0.mk hy573
  clear hy573
  replace H := Option.bind_eq_some_iff.mp H
  obtain ⟨t576, A180, H⟩ := H
  replace H : ((foretellkeep_env.f a2_0 a2_1 a2_2).bind fun t579 => ((expr_Eval.f k t576 t579).bind fun bt582 => ((expr_Eval.f k t531 ([] : List Int)).bind fun bt584 => (if t538 = 0 then (if t555 = 0 then (if t569 = 0 then (if bt582.2 = 0 then (if bt584.2 = 0 then (if t537 = t554 then (if t537 = t568 then (if bt582.1 = 0 then ((foretellkeep_picked.f a1 2001).bind fun t586 => (some (bt584.1 == (wrap64 (t586 - 1000))))) else (some false)) else (some false)) else (some false)) else (some false)) else (some false)) else (some false)) else (some false)) else (some false))))) = some r := H
  have A18 := Aside0.mk A180
  clear A180
  replace H := Option.bind_eq_some_iff.mp H
  obtain ⟨t579, A190, H⟩ := H
  replace H : ((expr_Eval.f k t576 t579).bind fun bt582 => ((expr_Eval.f k t531 ([] : List Int)).bind fun bt584 => (if t538 = 0 then (if t555 = 0 then (if t569 = 0 then (if bt582.2 = 0 then (if bt584.2 = 0 then (if t537 = t554 then (if t537 = t568 then (if bt582.1 = 0 then ((foretellkeep_picked.f a1 2001).bind fun t586 => (some (bt584.1 == (wrap64 (t586 - 1000))))) else (some false)) else (some false)) else (some false)) else (some false)) else (some false)) else (some false)) else (some false)) else (some false)))) = some r := H
  have A19 := Aside0.mk A190
  clear A190
  replace H := Option.bind_eq_some_iff.mp H
  obtain ⟨⟨t582, t583⟩, A200, H⟩ := H
  replace H : ((expr_Eval.f k t531 ([] : List Int)).bind fun bt584 => (if t538 = 0 then (if t555 = 0 then (if t569 = 0 then (if t583 = 0 then (if bt584.2 = 0 then (if t537 = t554 then (if t537 = t568 then (if t582 = 0 then ((foretellkeep_picked.f a1 2001).bind fun t586 => (some (bt584.1 == (wrap64 (t586 - 1000))))) else (some false)) else (some false)) else (some false)) else (some false)) else (some false)) else (some false)) else (some false)) else (some false))) = some r := H
  have A20 := Aside0.mk A200
  clear A200
  replace H := Option.bind_eq_some_iff.mp H
  obtain ⟨⟨t584, t585⟩, A210, H⟩ := H
  replace H : (if t538 = 0 then (if t555 = 0 then (if t569 = 0 then (if t583 = 0 then (if t585 = 0 then (if t537 = t554 then (if t537 = t568 then (if t582 = 0 then ((foretellkeep_picked.f a1 2001).bind fun t586 => (some (t584 == (wrap64 (t586 - 1000))))) else (some false)) else (some false)) else (some false)) else (some false)) else (some false)) else (some false)) else (some false)) else (some false)) = some r := H
  have A21 := Aside0.mk A210
  clear A210
  by_cases c22 : t538 = 0
  · rw [if_pos c22] at H
    have c22b0 : (t538 == 0) = true := beq_iff_eq.mpr c22
    have c22b1 : (t538 != 0) = false := bne_eq_false_iff_eq.mpr c22
    clear c22
    by_cases c23 : t555 = 0
    · rw [if_pos c23] at H
      have c23b0 : (t555 == 0) = true := beq_iff_eq.mpr c23
      have c23b1 : (t555 != 0) = false := bne_eq_false_iff_eq.mpr c23
      clear c23
      by_cases c24 : t569 = 0
      · rw [if_pos c24] at H
        have c24b0 : (t569 == 0) = true := beq_iff_eq.mpr c24
        have c24b1 : (t569 != 0) = false := bne_eq_false_iff_eq.mpr c24
        clear c24
        by_cases c25 : t583 = 0
        · rw [if_pos c25] at H
          have c25b0 : (t583 == 0) = true := beq_iff_eq.mpr c25
          have c25b1 : (t583 != 0) = false := bne_eq_false_iff_eq.mpr c25
          clear c25
          by_cases c26 : t585 = 0
          · rw [if_pos c26] at H
            have c26b0 : (t585 == 0) = true := beq_iff_eq.mpr c26
            have c26b1 : (t585 != 0) = false := bne_eq_false_iff_eq.mpr c26
            clear c26
            by_cases c27 : t537 = t554
            · rw [if_pos c27] at H
              have c27b0 : (t537 == t554) = true := beq_iff_eq.mpr c27
              have c27b1 : (t537 != t554) = false := bne_eq_false_iff_eq.mpr c27
              clear c27
              by_cases c28 : t537 = t568
              · rw [if_pos c28] at H
                have c28b0 : (t537 == t568) = true := beq_iff_eq.mpr c28
                have c28b1 : (t537 != t568) = false := bne_eq_false_iff_eq.mpr c28
                clear c28
                by_cases c29 : t582 = 0
                · rw [if_pos c29] at H
                  have c29b0 : (t582 == 0) = true := beq_iff_eq.mpr c29
                  have c29b1 : (t582 != 0) = false := bne_eq_false_iff_eq.mpr c29
                  clear c29
                  replace H := Option.bind_eq_some_iff.mp H
                  obtain ⟨t586, A300, H⟩ := H
                  replace H : (some (t584 == (wrap64 (t586 - 1000)))) = some r := H
                  have A30 := Aside0.mk A300
                  clear A300
                  obtain rfl := Option.some.inj H
                  go_enter Tryd.func12, Tryd.ntmps12
                  try go_wp2_with (first | ((with_reducible refine gate_dst (N := 5) rfl ?_); refine box_event ?hg (N := 5) ?hd (cs := #[.int .i64 a2_0, .int .i64 a2_1, .int .i64 a2_2]) (t := 45) ?hr ?_; (case hd => rfl); (case hg => rfl); (case hr => first | (go_simp; done) | (go_simp; rfl)); intro gb526 hg w31 hbox hb; have n0_ := Aside0.mk (below_step (by repeat (first | (with_reducible first | exact HB.out | apply below_alloc | apply pw_below_drewN | apply below_drew1) | exact HB.out)) hb); have n1_ := Aside0.mk (hbox); have n2_ := Aside0.mk ((by rw [hg]; exact (below_size (by repeat (first | (with_reducible first | exact HB.out | apply below_alloc | apply pw_below_drewN | apply below_drew1) | exact HB.out))) : w.heap.size ≤ gb526)); have n3_ := Aside0.mk ((by rw [hg]; exact (below_size (by repeat (first | (with_reducible first | exact HB.out | apply below_alloc | apply pw_below_drewN | apply below_drew1) | exact HB.out))) : w.heap.size ≤ gb526)); clear HB; have HB := n0_; have BK526 := n1_; have GW526 := n2_; have GE526 := n3_; clear n0_ n1_ n2_ n3_; clear hb hbox hg) | ((with_reducible refine gate_callee (f := 22) rfl ?_); refine goesL_ (some 20) rfl rfl Tryd.func22 (by kernel_rfl) rfl #[.slice A0 l0.length c0, .int .i64 3] rfl (by (try simp only [List.map_toArray, List.map_cons, List.map_nil]); first | done | rfl | (simp only [List.length_drop, List.length_take]; rfl)) ?_; (with_reducible refine (foretellkeep_Number.calls k _ _ l0 3 t527 _ ?side1 ?side2 A4.out).mono ?_); (case side1 => repeat (first | exact (Kd.C_below HR0.out HB.out) | (with_reducible refine Kd.C_alloc ?_ _) | (with_reducible refine Kd.C_drewN ?_ _) | (with_reducible refine Kd.C_drew ?_))); (case side2 => exact HC0.out); rintro e w32 ⟨v528, rfl, ho0, hb⟩; refine ⟨_, rfl, ?_⟩; have n0_ := Aside0.mk (Kd.V_lower (Kd.V_mono (ok' := fun k_ => k_ ≠ gb526) (Kd.R_V (Kd.R_bound ho0)) (fun k_ hk_ => (Kd.freshB (g := gb526) (o := .cells #[.int .i64 a2_0, .int .i64 a2_1, .int .i64 a2_2] 45 (0, 0)) (by (with_reducible repeat (first | refine blk_drewN ?_ _ | refine blk_drew ?_ | refine blk_alloc ?_ _)); exact BK526.out) k_ hk_.2.1))) (below_size (by repeat (first | (with_reducible first | exact HB.out | apply below_alloc | apply pw_below_drewN | apply below_drew1 | refine below_set ?_ GE526.out) | exact HB.out)))); have n1_ := Aside0.mk (blk_below (g := gb526) (o := .cells #[.int .i64 a2_0, .int .i64 a2_1, .int .i64 a2_2] 45 (0, 0)) (by (with_reducible repeat (first | refine blk_drewN ?_ _ | refine blk_drew ?_ | refine blk_alloc ?_ _)); exact BK526.out) hb); have n2_ := Aside0.mk (below_step (by repeat (first | (with_reducible first | exact HB.out | apply below_alloc | apply pw_below_drewN | apply below_drew1 | refine below_set ?_ GE526.out) | exact HB.out)) hb); clear BK526; clear HB; have HO529 := n0_; have BK526 := n1_; have HB := n2_; clear n0_ n1_ n2_; (try clear hb); (try clear hb2); (try clear hk); (try clear hi); (try clear ho0)) | ((with_reducible refine gate_callee (f := 16) rfl ?_); refine goesL_ (some 22) rfl rfl Tryd.func16 (by kernel_rfl) rfl #[.int .i64 a1, .int .i64 2001] rfl (by (try simp only [List.map_toArray, List.map_cons, List.map_nil]); first | done | rfl | (simp only [List.length_drop, List.length_take]; rfl)) ?_; (with_reducible refine (foretellkeep_picked.calls a1 2001 t530 _ A5.out).mono ?_); rintro e w' ⟨rfl, ⟨nd, rfl⟩⟩; refine ⟨_, rfl, ?_⟩) | ((with_reducible refine gate_callee (f := 26) rfl ?_); refine goesL_ (some 24) rfl rfl Tryd.func26 (by kernel_rfl) rfl #[.int .i64 (wrap64 (t530 - 1000))] rfl (by (try simp only [List.map_toArray, List.map_cons, List.map_nil]); first | done | rfl | (simp only [List.length_drop, List.length_take]; rfl)) ?_; (with_reducible refine (foretellkeep_num.calls (wrap64 (t530 - 1000)) t531 _ A6.out).mono ?_); rintro e w33 ⟨v532, rfl, ho0, hb⟩; refine ⟨_, rfl, ?_⟩; have n0_ := Aside0.mk (Kd.V_below (by (with_reducible repeat (first | apply Kd.V_alloc | apply Kd.V_drewN | apply Kd.V_drew)); exact HO529.out) hb); have n1_ := Aside0.mk (Kd.V_lower (Kd.V_mono (ok' := fun k_ => k_ ≠ gb526) (Kd.R_V (Kd.R_bound ho0)) (fun k_ hk_ => (Kd.freshB (g := gb526) (o := .cells #[.int .i64 a2_0, .int .i64 a2_1, .int .i64 a2_2] 45 (0, 0)) (by (with_reducible repeat (first | refine blk_drewN ?_ _ | refine blk_drew ?_ | refine blk_alloc ?_ _)); exact BK526.out) k_ hk_.2.1))) (below_size (by repeat (first | (with_reducible first | exact HB.out | apply below_alloc | apply pw_below_drewN | apply below_drew1 | refine below_set ?_ GE526.out) | exact HB.out)))); have n2_ := Aside0.mk (blk_below (g := gb526) (o := .cells #[.int .i64 a2_0, .int .i64 a2_1, .int .i64 a2_2] 45 (0, 0)) (by (with_reducible repeat (first | refine blk_drewN ?_ _ | refine blk_drew ?_ | refine blk_alloc ?_ _)); exact BK526.out) hb); have n3_ := Aside0.mk (below_step (by repeat (first | (with_reducible first | exact HB.out | apply below_alloc | apply pw_below_drewN | apply below_drew1 | refine below_set ?_ GE526.out) | exact HB.out)) hb); clear HO529; clear BK526; clear HB; have HO529 := n0_; have HO533 := n1_; have BK526 := n2_; have HB := n3_; clear n0_ n1_ n2_ n3_; (try clear hb); (try clear hb2); (try clear hk); (try clear hi); (try clear ho0); have hcz34_0 : w33.cell? ⟨gb526, 0, none⟩ = some (.int .i64 a2_0) := (blk_cell BK526.out 0).trans rfl; have hcz34_1 : w33.cell? ⟨gb526, 1, none⟩ = some (.int .i64 a2_1) := (blk_cell BK526.out 1).trans rfl; have hcz34_2 : w33.cell? ⟨gb526, 2, none⟩ = some (.int .i64 a2_2) := (blk_cell BK526.out 2).trans rfl; have hfz34_0 := blk_frozen BK526.out 0; have hfz34_1 := blk_frozen BK526.out 1; have hfz34_2 := blk_frozen BK526.out 2) | ((with_reducible refine gate_callee (f := 25) rfl ?_); refine goesL_ (some 28) rfl rfl Tryd.func25 (by kernel_rfl) rfl #[.agg #[.int .i64 a2_0, .int .i64 a2_1, .int .i64 a2_2]] rfl (by (try simp only [List.map_toArray, List.map_cons, List.map_nil]); first | done | rfl | (simp only [List.length_drop, List.length_take]; rfl)) ?_; (with_reducible refine (foretellkeep_env.calls a2_0 a2_1 a2_2 t534 _ A7.out).mono ?_); rintro e w35 ⟨v535, rfl, ho0, hb⟩; refine ⟨_, rfl, ?_⟩; have n0_ := Aside0.mk (Kd.V_below (by (with_reducible repeat (first | apply Kd.V_alloc | apply Kd.V_drewN | apply Kd.V_drew)); exact HO529.out) hb); have n1_ := Aside0.mk (Kd.V_below (by (with_reducible repeat (first | apply Kd.V_alloc | apply Kd.V_drewN | apply Kd.V_drew)); exact HO533.out) hb); have n2_ := Aside0.mk (Kd.V_lower (Kd.V_mono (ok' := fun k_ => k_ ≠ gb526) (Kd.R_V (Kd.R_bound ho0)) (fun k_ hk_ => (Kd.freshB (g := gb526) (o := .cells #[.int .i64 a2_0, .int .i64 a2_1, .int .i64 a2_2] 45 (0, 0)) (by (with_reducible repeat (first | refine blk_drewN ?_ _ | refine blk_drew ?_ | refine blk_alloc ?_ _)); exact BK526.out) k_ hk_.2.1))) (below_size (by repeat (first | (with_reducible first | exact HB.out | apply below_alloc | apply pw_below_drewN | apply below_drew1 | refine below_set ?_ GE526.out) | exact HB.out)))); have n3_ := Aside0.mk (blk_below (g := gb526) (o := .cells #[.int .i64 a2_0, .int .i64 a2_1, .int .i64 a2_2] 45 (0, 0)) (by (with_reducible repeat (first | refine blk_drewN ?_ _ | refine blk_drew ?_ | refine blk_alloc ?_ _)); exact BK526.out) hb); have n4_ := Aside0.mk (below_step (by repeat (first | (with_reducible first | exact HB.out | apply below_alloc | apply pw_below_drewN | apply below_drew1 | refine below_set ?_ GE526.out) | exact HB.out)) hb); clear HO529; clear HO533; clear BK526; clear HB; have HO529 := n0_; have HO533 := n1_; have HO536 := n2_; have BK526 := n3_; have HB := n4_; clear n0_ n1_ n2_ n3_ n4_; (try clear hb); (try clear hb2); (try clear hk); (try clear hi); (try clear ho0); obtain ⟨Ao36, co36, eo36⟩ := Kd.V_slice HO529.out; subst eo36; obtain ⟨Ao37, co37, eo37⟩ := Kd.V_slice HO536.out; subst eo37) | ((with_reducible refine gate_callee (f := 24) rfl ?_); refine goesL_ (some 29) rfl rfl Tryd.func24 (by kernel_rfl) rfl #[.slice Ao36 t527.length co36, .slice Ao37 t534.length co37] rfl (by (try simp only [List.map_toArray, List.map_cons, List.map_nil]); first | done | rfl | (simp only [List.length_drop, List.length_take]; rfl)) ?_; (with_reducible refine (expr_Eval.calls k _ _ t527 _ _ t534 t537 t538 _ ?side1 ?side2 ?side3 ?side4 ?side5 A8.out).mono ?_); (case side1 => repeat (first | exact (Kd.V_reads' HO529.out).2.2 | (with_reducible refine Kd.C_alloc ?_ _) | (with_reducible refine Kd.C_drewN ?_ _) | (with_reducible refine Kd.C_drew ?_))); (case side2 => exact (Kd.V_reads' HO529.out).2.1); (case side3 => repeat (first | exact (Kd.V_reads' HO536.out).2.2 | (with_reducible refine Kd.C_alloc ?_ _) | (with_reducible refine Kd.C_drewN ?_ _) | (with_reducible refine Kd.C_drew ?_))); (case side4 => exact (Kd.V_reads' HO536.out).2.1); (case side5 => first | exact hG_ | exact Glob.drewN hG_ _ | exact Glob.below hG_ (by repeat (first | (with_reducible first | exact HB.out | apply below_alloc | apply pw_below_drewN | apply below_drew1 | refine below_set ?_ GE526.out) | exact HB.out))); rintro e w38 ⟨rfl, hb⟩; refine ⟨_, rfl, ?_⟩; have n0_ := Aside0.mk (Kd.V_below (by (with_reducible repeat (first | apply Kd.V_alloc | apply Kd.V_drewN | apply Kd.V_drew)); exact HO529.out) hb); have n1_ := Aside0.mk (Kd.V_below (by (with_reducible repeat (first | apply Kd.V_alloc | apply Kd.V_drewN | apply Kd.V_drew)); exact HO533.out) hb); have n2_ := Aside0.mk (Kd.V_below (by (with_reducible repeat (first | apply Kd.V_alloc | apply Kd.V_drewN | apply Kd.V_drew)); exact HO536.out) hb); have n3_ := Aside0.mk (blk_below (g := gb526) (o := .cells #[.int .i64 a2_0, .int .i64 a2_1, .int .i64 a2_2] 45 (0, 0)) (by (with_reducible repeat (first | refine blk_drewN ?_ _ | refine blk_drew ?_ | refine blk_alloc ?_ _)); exact BK526.out) hb); have n4_ := Aside0.mk (below_step (by repeat (first | (with_reducible first | exact HB.out | apply below_alloc | apply pw_below_drewN | apply below_drew1 | refine below_set ?_ GE526.out) | exact HB.out)) hb); clear HO529; clear HO533; clear HO536; clear BK526; clear HB; have HO529 := n0_; have HO533 := n1_; have HO536 := n2_; have BK526 := n3_; have HB := n4_; clear n0_ n1_ n2_ n3_ n4_; (try clear hb); (try clear hb2); (try clear hk); (try clear hi); obtain ⟨Ao39, co39, eo39⟩ := Kd.V_slice HO533.out; subst eo39))
                  have n0_ := Aside0.mk (Kd.V_drew HO529.out)
                  have n1_ := Aside0.mk (Kd.V_drew HO533.out)
                  have n2_ := Aside0.mk (Kd.V_drew HO536.out)
                  have n3_ := Aside0.mk (blk_drew BK526.out)
                  have n4_ := Aside0.mk (below_drew1 HB.out)
                  clear HO529
                  clear HO533
                  clear HO536
                  clear BK526
                  clear HB
                  have HO529 := n0_
                  have HO533 := n1_
                  have HO536 := n2_
                  have BK526 := n3_
                  have HB := n4_
                  clear n0_ n1_ n2_ n3_ n4_
                  refine start_ (n := 15) (S := fun w' => w'.cell? ⟨gb526, 0, none⟩ = some (.int .i64 a2_0) ∧ w'.cell? ⟨gb526, 1, none⟩ = some (.int .i64 a2_1) ∧ w'.cell? ⟨gb526, 2, none⟩ = some (.int .i64 a2_2)) (ds := []) #[false, false, false, false, false, false, false, false, false, false, false, false, false, false, false] (by kernel_rfl) rfl rfl ⟨(blk_cell BK526.out 0).trans rfl, (blk_cell BK526.out 1).trans rfl, (blk_cell BK526.out 2).trans rfl⟩ (fun hHeld => ?_); refine with_tabW foretellkeep_EvalShift.tab4 foretellkeep_EvalShift.bits4 (fun HT_ HW_ => ?_)
                  generalize w38.drew = w40 at HO529 HO533 HO536 BK526 HB hHeld ⊢
                  refine pure_ (i := 0) (N := some 33) (v := ?_) (a' := ?_) #[true, false, false, false, false, false, false, false, false, false, false, false, false, false, false] rfl rfl (any_of HT_.out (by kernel_rfl)) (fun _ _ _ h => h) (Or.inl ⟨by rfl, ?_⟩) ?_ ?_
                  rotate_left
                  · intro w'
                    go_simp
                    with_reducible rfl
                  rotate_left
                  · simp only [Act.put, List.setIfInBounds_toArray, List.set_cons_zero, List.set_cons_succ, i64_w, i32_w]
                    rfl
                  refine pure_ (i := 1) (N := some 34) (v := ?_) (a' := ?_) #[true, true, false, false, false, false, false, false, false, false, false, false, false, false, false] rfl rfl (any_of HT_.out (by kernel_rfl)) (fun _ _ _ h => h) (Or.inl ⟨by rfl, ?_⟩) ?_ ?_
                  rotate_left
                  · intro w'
                    go_simp
                    with_reducible rfl
                  rotate_left
                  · simp only [Act.put, List.setIfInBounds_toArray, List.set_cons_zero, List.set_cons_succ, i64_w, i32_w]
                    rfl
                  refine pure_ (i := 4) (N := some 37) (v := ?_) (a' := ?_) #[true, true, false, false, true, false, false, false, false, false, false, false, false, false, false] rfl rfl (any_of HT_.out (by kernel_rfl)) (fun _ _ _ h => h) (Or.inl ⟨by rfl, ?_⟩) ?_ ?_
                  rotate_left
                  · intro w'
                    go_simp
                    with_reducible rfl
                  rotate_left
                  · simp only [Act.put, List.setIfInBounds_toArray, List.set_cons_zero, List.set_cons_succ, i64_w, i32_w]
                    rfl
                  refine take_ (i := 7) (N := some 40) (v := ?_) (a' := ?_) #[true, true, false, false, true, false, false, true, false, false, false, false, false, false, false] rfl rfl (take_ofW HT_.out HW_.out (by kernel_rfl)) (fun _ _ _ h => h) (Or.inl ⟨by rfl, ?_⟩) hHeld ?_ ?_
                  rotate_left
                  · rintro w' ⟨s0, s1, s2⟩
                    go_simp
                    with_reducible rfl
                  rotate_left
                  · simp only [Act.put, List.setIfInBounds_toArray, List.set_cons_zero, List.set_cons_succ, i64_w, i32_w]
                    rfl
                  refine one_ (i := 2) (N := some 35) #[true, true, true, false, true, false, false, true, false, false, false, false, false, false, false] rfl rfl (one_of HT_.out (by kernel_rfl)) (by decide) (fun K hK => ?_)
                  refine Kd.N_lit_step (Kd.slice 32 k32) _ 23 ?hg (N' := 35) ?hd (xs := ([t527, t531] : List (List (S32)))) (inner := [.slice Ao36 t527.length co36, .slice Ao39 t531.length co39]) (ok := (fun k_ => k_ ≠ gb526)) (okp := (fun k_ => k_ ≠ gb526)) ?hr ?hp (fun _ hk => hk) ((show ∀ k_, w40.heap.size ≤ k_ → (fun k_ => k_ ≠ gb526) k_ from fun k_ hk => Kd.freshB (g := gb526) (o := .cells #[.int .i64 a2_0, .int .i64 a2_1, .int .i64 a2_2] 45 (0, 0)) (by (with_reducible repeat (first | refine blk_drewN ?_ _ | refine blk_drew ?_ | refine blk_alloc ?_ _)); exact BK526.out) k_ hk) _ (Nat.le_refl _)) (Below.refl _ _) (Nat.le_refl _) (by simp) ?_; (case hd => rfl); (case hg => rfl); (case hr => first | (go_simp; done) | (go_simp; rfl)); (case hp => exact (Reps.one (show Kd.FK (Kd.slice 32 k32) _ _ t527 [.slice Ao36 t527.length co36] from (Kd.FK_slice_mk (Kd.V_reads' (Kd.V_mono (ok' := (fun k_ => k_ ≠ gb526)) (HO529.out) (fun k_ hk => hk))).2.1 (Kd.V_F (Kd.V_mono (ok' := (fun k_ => k_ ≠ gb526)) (HO529.out) (fun k_ hk => hk))))) (Reps.one (show Kd.FK (Kd.slice 32 k32) _ _ t531 [.slice Ao39 t531.length co39] from (Kd.FK_slice_mk (Kd.V_reads' (Kd.V_mono (ok' := (fun k_ => k_ ≠ gb526)) (HO533.out) (fun k_ hk => hk))).2.1 (Kd.V_F (Kd.V_mono (ok' := (fun k_ => k_ ≠ gb526)) (HO533.out) (fun k_ hk => hk))))) (Reps.none _ _))))
                  intro v540 w41 ho42 hb hg_ hnew_
                  clear hg_ hnew_
                  (first | rw [← Ny539.out] at ho42 | (simp only [Int.reduceToNat] at ho42; rw [← Ny539.out] at ho42))
                  have n0_ := Aside0.mk (Kd.V_elder' (by (with_reducible repeat (first | apply Kd.V_alloc | apply Kd.V_drewN | apply Kd.V_drew)); exact HO529.out) (by first | exact Kd.N_base ho42 | exact Kd.S_base ho42 | exact Kd.R_base ho42) hb)
                  have n1_ := Aside0.mk (Kd.V_elder' (by (with_reducible repeat (first | apply Kd.V_alloc | apply Kd.V_drewN | apply Kd.V_drew)); exact HO533.out) (by first | exact Kd.N_base ho42 | exact Kd.S_base ho42 | exact Kd.R_base ho42) hb)
                  have n2_ := Aside0.mk (Kd.V_elder' (by (with_reducible repeat (first | apply Kd.V_alloc | apply Kd.V_drewN | apply Kd.V_drew)); exact HO536.out) (by first | exact Kd.N_base ho42 | exact Kd.S_base ho42 | exact Kd.R_base ho42) hb)
                  have n3_ := Aside0.mk (Kd.N_lower ho42 (below_size (by repeat (first | (with_reducible first | exact HB.out | apply below_alloc | apply pw_below_drewN | apply below_drew1 | refine below_set ?_ GE526.out) | exact HB.out))))
                  have n4_ := Aside0.mk (blk_below (g := gb526) (o := .cells #[.int .i64 a2_0, .int .i64 a2_1, .int .i64 a2_2] 45 (0, 0)) (by (with_reducible repeat (first | refine blk_drewN ?_ _ | refine blk_drew ?_ | refine blk_alloc ?_ _)); exact BK526.out) hb)
                  have n5_ := Aside0.mk (below_step (by repeat (first | (with_reducible first | exact HB.out | apply below_alloc | apply pw_below_drewN | apply below_drew1 | refine below_set ?_ GE526.out) | exact HB.out)) hb)
                  clear HO529
                  clear HO533
                  clear HO536
                  clear BK526
                  clear HB
                  have HO529 := n0_
                  have HO533 := n1_
                  have HO536 := n2_
                  have HO541 := n3_
                  have BK526 := n4_
                  have HB := n5_
                  clear n0_ n1_ n2_ n3_ n4_ n5_
                  clear hb ho42
                  obtain ⟨Ao43, co43, eo43⟩ := Kd.N_slice HO541.out
                  (first | subst eo43 | (injection eo43 with f1_ f2_ f3_; have f4_ := f1_.symm; have f5_ := f3_.symm; clear f1_ f2_ f3_; subst f4_; subst f5_))
                  refine hK.out _ _ ⟨(blk_cell BK526.out 0).trans rfl, (blk_cell BK526.out 1).trans rfl, (blk_cell BK526.out 2).trans rfl⟩ (fun hHeld => ?_)
                  clear hK K
                  refine norm_ (a' := ?_) ?_ ?_
                  rotate_left
                  · show Act.put _ (some 35) _ = _
                    simp only [Act.put, List.setIfInBounds_toArray, List.set_cons_zero, List.set_cons_succ, i64_w, i32_w]
                    rfl
                  refine one_ (i := 3) (N := some 36) #[true, true, true, true, true, false, false, true, false, false, false, false, false, false, false] rfl rfl (one_of HT_.out (by kernel_rfl)) (by decide) (fun K hK => ?_)
                  refine goes_ Tryd.func21 (by kernel_rfl) rfl #[.int .i64 3, .slice Ao43 y539.length co43] (by rfl) rfl rfl (by (try simp only [List.map_toArray, List.map_cons, List.map_nil]); first | done | rfl | (simp only [List.length_drop, List.length_take]; rfl)) ?_
                  with_reducible refine (foretellkeep_joined.calls k 3 _ _ y539 t542 _ ?side1 ?side2 A9.out).mono ?_
                  (case side1 => repeat (first | exact (Kd.N_reads' HO541.out).2.2 | (with_reducible refine Kd.C_alloc ?_ _) | (with_reducible refine Kd.C_drewN ?_ _) | (with_reducible refine Kd.C_drew ?_)))
                  (case side2 => exact (Kd.N_reads' HO541.out).2.1)
                  rintro e w44 ⟨v543, rfl, ho0, hb⟩
                  refine ⟨_, rfl, ?_⟩
                  have n0_ := Aside0.mk (Kd.V_below (by (with_reducible repeat (first | apply Kd.V_alloc | apply Kd.V_drewN | apply Kd.V_drew)); exact HO529.out) hb)
                  have n1_ := Aside0.mk (Kd.V_below (by (with_reducible repeat (first | apply Kd.V_alloc | apply Kd.V_drewN | apply Kd.V_drew)); exact HO533.out) hb)
                  have n2_ := Aside0.mk (Kd.V_below (by (with_reducible repeat (first | apply Kd.V_alloc | apply Kd.V_drewN | apply Kd.V_drew)); exact HO536.out) hb)
                  have n3_ := Aside0.mk (Kd.N_below (by (with_reducible repeat (first | apply Kd.N_alloc | apply Kd.N_drewN | apply Kd.N_drew)); exact HO541.out) hb)
                  have n4_ := Aside0.mk (Kd.V_lower (Kd.V_mono (ok' := fun k_ => k_ ≠ gb526) (Kd.R_V (Kd.R_bound ho0)) (fun k_ hk_ => (Kd.freshB (g := gb526) (o := .cells #[.int .i64 a2_0, .int .i64 a2_1, .int .i64 a2_2] 45 (0, 0)) (by (with_reducible repeat (first | refine blk_drewN ?_ _ | refine blk_drew ?_ | refine blk_alloc ?_ _)); exact BK526.out) k_ hk_.2.1))) (below_size (by repeat (first | (with_reducible first | exact HB.out | apply below_alloc | apply pw_below_drewN | apply below_drew1 | refine below_set ?_ GE526.out) | exact HB.out))))
                  have n5_ := Aside0.mk (blk_below (g := gb526) (o := .cells #[.int .i64 a2_0, .int .i64 a2_1, .int .i64 a2_2] 45 (0, 0)) (by (with_reducible repeat (first | refine blk_drewN ?_ _ | refine blk_drew ?_ | refine blk_alloc ?_ _)); exact BK526.out) hb)
                  have n6_ := Aside0.mk (below_step (by repeat (first | (with_reducible first | exact HB.out | apply below_alloc | apply pw_below_drewN | apply below_drew1 | refine below_set ?_ GE526.out) | exact HB.out)) hb)
                  clear HO529
                  clear HO533
                  clear HO536
                  clear HO541
                  clear BK526
                  clear HB
                  have HO529 := n0_
                  have HO533 := n1_
                  have HO536 := n2_
                  have HO541 := n3_
                  have HO544 := n4_
                  have BK526 := n5_
                  have HB := n6_
                  clear n0_ n1_ n2_ n3_ n4_ n5_ n6_
                  (try clear hb)
                  (try clear hb2)
                  (try clear hk)
                  (try clear hi)
                  (try clear ho0)
                  obtain ⟨Ao45, co45, eo45⟩ := Kd.V_slice HO544.out
                  (first | subst eo45 | (injection eo45 with f1_ f2_ f3_; have f4_ := f1_.symm; have f5_ := f3_.symm; clear f1_ f2_ f3_; subst f4_; subst f5_))
                  refine hK.out _ _ ⟨(blk_cell BK526.out 0).trans rfl, (blk_cell BK526.out 1).trans rfl, (blk_cell BK526.out 2).trans rfl⟩ (fun hHeld => ?_)
                  clear hK K
                  refine norm_ (a' := ?_) ?_ ?_
                  rotate_left
                  · show Act.put _ (some 36) _ = _
                    simp only [Act.put, List.setIfInBounds_toArray, List.set_cons_zero, List.set_cons_succ, i64_w, i32_w]
                    rfl
                  refine one_ (i := 5) (N := some 38) #[true, true, true, true, true, true, false, true, false, false, false, false, false, false, false] rfl rfl (one_of HT_.out (by kernel_rfl)) (by decide) (fun K hK => ?_)
                  refine Kd.N_lit_step (Kd.slice 32 k32) _ 23 ?hg (N' := 38) ?hd (xs := ([t542, t531] : List (List (S32)))) (inner := [.slice Ao45 t542.length co45, .slice Ao39 t531.length co39]) (ok := (fun k_ => k_ ≠ gb526)) (okp := (fun k_ => k_ ≠ gb526)) ?hr ?hp (fun _ hk => hk) ((show ∀ k_, w44.heap.size ≤ k_ → (fun k_ => k_ ≠ gb526) k_ from fun k_ hk => Kd.freshB (g := gb526) (o := .cells #[.int .i64 a2_0, .int .i64 a2_1, .int .i64 a2_2] 45 (0, 0)) (by (with_reducible repeat (first | refine blk_drewN ?_ _ | refine blk_drew ?_ | refine blk_alloc ?_ _)); exact BK526.out) k_ hk) _ (Nat.le_refl _)) (Below.refl _ _) (Nat.le_refl _) (by simp) ?_; (case hd => rfl); (case hg => rfl); (case hr => first | (go_simp; done) | (go_simp; rfl)); (case hp => exact (Reps.one (show Kd.FK (Kd.slice 32 k32) _ _ t542 [.slice Ao45 t542.length co45] from (Kd.FK_slice_mk (Kd.V_reads' (Kd.V_mono (ok' := (fun k_ => k_ ≠ gb526)) (HO544.out) (fun k_ hk => hk))).2.1 (Kd.V_F (Kd.V_mono (ok' := (fun k_ => k_ ≠ gb526)) (HO544.out) (fun k_ hk => hk))))) (Reps.one (show Kd.FK (Kd.slice 32 k32) _ _ t531 [.slice Ao39 t531.length co39] from (Kd.FK_slice_mk (Kd.V_reads' (Kd.V_mono (ok' := (fun k_ => k_ ≠ gb526)) (HO533.out) (fun k_ hk => hk.1))).2.1 (Kd.V_F (Kd.V_mono (ok' := (fun k_ => k_ ≠ gb526)) (HO533.out) (fun k_ hk => hk.1))))) (Reps.none _ _))))
                  intro v546 w46 ho47 hb hg_ hnew_
                  clear hg_ hnew_
                  (first | rw [← Ny545.out] at ho47 | (simp only [Int.reduceToNat] at ho47; rw [← Ny545.out] at ho47))
                  have n0_ := Aside0.mk (Kd.V_elder' (by (with_reducible repeat (first | apply Kd.V_alloc | apply Kd.V_drewN | apply Kd.V_drew)); exact HO529.out) (by first | exact Kd.N_base ho47 | exact Kd.S_base ho47 | exact Kd.R_base ho47) hb)
                  have n1_ := Aside0.mk (Kd.V_elder' (by (with_reducible repeat (first | apply Kd.V_alloc | apply Kd.V_drewN | apply Kd.V_drew)); exact HO533.out) (by first | exact Kd.N_base ho47 | exact Kd.S_base ho47 | exact Kd.R_base ho47) hb)
                  have n2_ := Aside0.mk (Kd.V_elder' (by (with_reducible repeat (first | apply Kd.V_alloc | apply Kd.V_drewN | apply Kd.V_drew)); exact HO536.out) (by first | exact Kd.N_base ho47 | exact Kd.S_base ho47 | exact Kd.R_base ho47) hb)
                  have n3_ := Aside0.mk (Kd.N_elder' (by (with_reducible repeat (first | apply Kd.N_alloc | apply Kd.N_drewN | apply Kd.N_drew)); exact HO541.out) (by first | exact Kd.N_base ho47 | exact Kd.S_base ho47 | exact Kd.R_base ho47) hb)
                  have n4_ := Aside0.mk (Kd.V_elder' (by (with_reducible repeat (first | apply Kd.V_alloc | apply Kd.V_drewN | apply Kd.V_drew)); exact HO544.out) (by first | exact Kd.N_base ho47 | exact Kd.S_base ho47 | exact Kd.R_base ho47) hb)
                  have n5_ := Aside0.mk (Kd.N_lower ho47 (below_size (by repeat (first | (with_reducible first | exact HB.out | apply below_alloc | apply pw_below_drewN | apply below_drew1 | refine below_set ?_ GE526.out) | exact HB.out))))
                  have n6_ := Aside0.mk (blk_below (g := gb526) (o := .cells #[.int .i64 a2_0, .int .i64 a2_1, .int .i64 a2_2] 45 (0, 0)) (by (with_reducible repeat (first | refine blk_drewN ?_ _ | refine blk_drew ?_ | refine blk_alloc ?_ _)); exact BK526.out) hb)
                  have n7_ := Aside0.mk (below_step (by repeat (first | (with_reducible first | exact HB.out | apply below_alloc | apply pw_below_drewN | apply below_drew1 | refine below_set ?_ GE526.out) | exact HB.out)) hb)
                  clear HO529
                  clear HO533
                  clear HO536
                  clear HO541
                  clear HO544
                  clear BK526
                  clear HB
                  have HO529 := n0_
                  have HO533 := n1_
                  have HO536 := n2_
                  have HO541 := n3_
                  have HO544 := n4_
                  have HO547 := n5_
                  have BK526 := n6_
                  have HB := n7_
                  clear n0_ n1_ n2_ n3_ n4_ n5_ n6_ n7_
                  clear hb ho47
                  obtain ⟨Ao48, co48, eo48⟩ := Kd.N_slice HO547.out
                  (first | subst eo48 | (injection eo48 with f1_ f2_ f3_; have f4_ := f1_.symm; have f5_ := f3_.symm; clear f1_ f2_ f3_; subst f4_; subst f5_))
                  refine hK.out _ _ ⟨(blk_cell BK526.out 0).trans rfl, (blk_cell BK526.out 1).trans rfl, (blk_cell BK526.out 2).trans rfl⟩ (fun hHeld => ?_)
                  clear hK K
                  refine norm_ (a' := ?_) ?_ ?_
                  rotate_left
                  · show Act.put _ (some 38) _ = _
                    simp only [Act.put, List.setIfInBounds_toArray, List.set_cons_zero, List.set_cons_succ, i64_w, i32_w]
                    rfl
                  refine one_ (i := 6) (N := some 39) #[true, true, true, true, true, true, true, true, false, false, false, false, false, false, false] rfl rfl (one_of HT_.out (by kernel_rfl)) (by decide) (fun K hK => ?_)
                  refine goes_ Tryd.func21 (by kernel_rfl) rfl #[.int .i64 4, .slice Ao48 y545.length co48] (by rfl) rfl rfl (by (try simp only [List.map_toArray, List.map_cons, List.map_nil]); first | done | rfl | (simp only [List.length_drop, List.length_take]; rfl)) ?_
                  with_reducible refine (foretellkeep_joined.calls k 4 _ _ y545 t548 _ ?side1 ?side2 A10.out).mono ?_
                  (case side1 => repeat (first | exact (Kd.N_reads' HO547.out).2.2 | (with_reducible refine Kd.C_alloc ?_ _) | (with_reducible refine Kd.C_drewN ?_ _) | (with_reducible refine Kd.C_drew ?_)))
                  (case side2 => exact (Kd.N_reads' HO547.out).2.1)
                  rintro e w49 ⟨v549, rfl, ho0, hb⟩
                  refine ⟨_, rfl, ?_⟩
                  have n0_ := Aside0.mk (Kd.V_below (by (with_reducible repeat (first | apply Kd.V_alloc | apply Kd.V_drewN | apply Kd.V_drew)); exact HO529.out) hb)
                  have n1_ := Aside0.mk (Kd.V_below (by (with_reducible repeat (first | apply Kd.V_alloc | apply Kd.V_drewN | apply Kd.V_drew)); exact HO533.out) hb)
                  have n2_ := Aside0.mk (Kd.V_below (by (with_reducible repeat (first | apply Kd.V_alloc | apply Kd.V_drewN | apply Kd.V_drew)); exact HO536.out) hb)
                  have n3_ := Aside0.mk (Kd.N_below (by (with_reducible repeat (first | apply Kd.N_alloc | apply Kd.N_drewN | apply Kd.N_drew)); exact HO541.out) hb)
                  have n4_ := Aside0.mk (Kd.V_below (by (with_reducible repeat (first | apply Kd.V_alloc | apply Kd.V_drewN | apply Kd.V_drew)); exact HO544.out) hb)
                  have n5_ := Aside0.mk (Kd.N_below (by (with_reducible repeat (first | apply Kd.N_alloc | apply Kd.N_drewN | apply Kd.N_drew)); exact HO547.out) hb)
                  have n6_ := Aside0.mk (Kd.V_lower (Kd.V_mono (ok' := fun k_ => k_ ≠ gb526) (Kd.R_V (Kd.R_bound ho0)) (fun k_ hk_ => (Kd.freshB (g := gb526) (o := .cells #[.int .i64 a2_0, .int .i64 a2_1, .int .i64 a2_2] 45 (0, 0)) (by (with_reducible repeat (first | refine blk_drewN ?_ _ | refine blk_drew ?_ | refine blk_alloc ?_ _)); exact BK526.out) k_ hk_.2.1))) (below_size (by repeat (first | (with_reducible first | exact HB.out | apply below_alloc | apply pw_below_drewN | apply below_drew1 | refine below_set ?_ GE526.out) | exact HB.out))))
                  have n7_ := Aside0.mk (blk_below (g := gb526) (o := .cells #[.int .i64 a2_0, .int .i64 a2_1, .int .i64 a2_2] 45 (0, 0)) (by (with_reducible repeat (first | refine blk_drewN ?_ _ | refine blk_drew ?_ | refine blk_alloc ?_ _)); exact BK526.out) hb)
                  have n8_ := Aside0.mk (below_step (by repeat (first | (with_reducible first | exact HB.out | apply below_alloc | apply pw_below_drewN | apply below_drew1 | refine below_set ?_ GE526.out) | exact HB.out)) hb)
                  clear HO529
                  clear HO533
                  clear HO536
                  clear HO541
                  clear HO544
                  clear HO547
                  clear BK526
                  clear HB
                  have HO529 := n0_
                  have HO533 := n1_
                  have HO536 := n2_
                  have HO541 := n3_
                  have HO544 := n4_
                  have HO547 := n5_
                  have HO550 := n6_
                  have BK526 := n7_
                  have HB := n8_
                  clear n0_ n1_ n2_ n3_ n4_ n5_ n6_ n7_ n8_
                  (try clear hb)
                  (try clear hb2)
                  (try clear hk)
                  (try clear hi)
                  (try clear ho0)
                  refine hK.out _ _ ⟨(blk_cell BK526.out 0).trans rfl, (blk_cell BK526.out 1).trans rfl, (blk_cell BK526.out 2).trans rfl⟩ (fun hHeld => ?_)
                  clear hK K
                  refine norm_ (a' := ?_) ?_ ?_
                  rotate_left
                  · show Act.put _ (some 39) _ = _
                    simp only [Act.put, List.setIfInBounds_toArray, List.set_cons_zero, List.set_cons_succ, i64_w, i32_w]
                    rfl
                  refine one_ (i := 8) (N := some 41) #[true, true, true, true, true, true, true, true, true, false, false, false, false, false, false] rfl rfl (one_of HT_.out (by kernel_rfl)) (by decide) (fun K hK => ?_)
                  refine goes_ Tryd.func25 (by kernel_rfl) rfl #[.agg #[.int .i64 a2_0, .int .i64 a2_1, .int .i64 a2_2]] (by rfl) rfl rfl (by (try simp only [List.map_toArray, List.map_cons, List.map_nil]); first | done | rfl | (simp only [List.length_drop, List.length_take]; rfl)) ?_
                  with_reducible refine (foretellkeep_env.calls a2_0 a2_1 a2_2 t551 _ A11.out).mono ?_
                  rintro e w50 ⟨v552, rfl, ho0, hb⟩
                  refine ⟨_, rfl, ?_⟩
                  have n0_ := Aside0.mk (Kd.V_below (by (with_reducible repeat (first | apply Kd.V_alloc | apply Kd.V_drewN | apply Kd.V_drew)); exact HO529.out) hb)
                  have n1_ := Aside0.mk (Kd.V_below (by (with_reducible repeat (first | apply Kd.V_alloc | apply Kd.V_drewN | apply Kd.V_drew)); exact HO533.out) hb)
                  have n2_ := Aside0.mk (Kd.V_below (by (with_reducible repeat (first | apply Kd.V_alloc | apply Kd.V_drewN | apply Kd.V_drew)); exact HO536.out) hb)
                  have n3_ := Aside0.mk (Kd.N_below (by (with_reducible repeat (first | apply Kd.N_alloc | apply Kd.N_drewN | apply Kd.N_drew)); exact HO541.out) hb)
                  have n4_ := Aside0.mk (Kd.V_below (by (with_reducible repeat (first | apply Kd.V_alloc | apply Kd.V_drewN | apply Kd.V_drew)); exact HO544.out) hb)
                  have n5_ := Aside0.mk (Kd.N_below (by (with_reducible repeat (first | apply Kd.N_alloc | apply Kd.N_drewN | apply Kd.N_drew)); exact HO547.out) hb)
                  have n6_ := Aside0.mk (Kd.V_below (by (with_reducible repeat (first | apply Kd.V_alloc | apply Kd.V_drewN | apply Kd.V_drew)); exact HO550.out) hb)
                  have n7_ := Aside0.mk (Kd.V_lower (Kd.V_mono (ok' := fun k_ => k_ ≠ gb526) (Kd.R_V (Kd.R_bound ho0)) (fun k_ hk_ => (Kd.freshB (g := gb526) (o := .cells #[.int .i64 a2_0, .int .i64 a2_1, .int .i64 a2_2] 45 (0, 0)) (by (with_reducible repeat (first | refine blk_drewN ?_ _ | refine blk_drew ?_ | refine blk_alloc ?_ _)); exact BK526.out) k_ hk_.2.1))) (below_size (by repeat (first | (with_reducible first | exact HB.out | apply below_alloc | apply pw_below_drewN | apply below_drew1 | refine below_set ?_ GE526.out) | exact HB.out))))
                  have n8_ := Aside0.mk (blk_below (g := gb526) (o := .cells #[.int .i64 a2_0, .int .i64 a2_1, .int .i64 a2_2] 45 (0, 0)) (by (with_reducible repeat (first | refine blk_drewN ?_ _ | refine blk_drew ?_ | refine blk_alloc ?_ _)); exact BK526.out) hb)
                  have n9_ := Aside0.mk (below_step (by repeat (first | (with_reducible first | exact HB.out | apply below_alloc | apply pw_below_drewN | apply below_drew1 | refine below_set ?_ GE526.out) | exact HB.out)) hb)
                  clear HO529
                  clear HO533
                  clear HO536
                  clear HO541
                  clear HO544
                  clear HO547
                  clear HO550
                  clear BK526
                  clear HB
                  have HO529 := n0_
                  have HO533 := n1_
                  have HO536 := n2_
                  have HO541 := n3_
                  have HO544 := n4_
                  have HO547 := n5_
                  have HO550 := n6_
                  have HO553 := n7_
                  have BK526 := n8_
                  have HB := n9_
                  clear n0_ n1_ n2_ n3_ n4_ n5_ n6_ n7_ n8_ n9_
                  (try clear hb)
                  (try clear hb2)
                  (try clear hk)
                  (try clear hi)
                  (try clear ho0)
                  obtain ⟨Ao51, co51, eo51⟩ := Kd.V_slice HO550.out
                  (first | subst eo51 | (injection eo51 with f1_ f2_ f3_; have f4_ := f1_.symm; have f5_ := f3_.symm; clear f1_ f2_ f3_; subst f4_; subst f5_))
                  obtain ⟨Ao52, co52, eo52⟩ := Kd.V_slice HO553.out
                  (first | subst eo52 | (injection eo52 with f1_ f2_ f3_; have f4_ := f1_.symm; have f5_ := f3_.symm; clear f1_ f2_ f3_; subst f4_; subst f5_))
                  refine hK.out _ _ ⟨(blk_cell BK526.out 0).trans rfl, (blk_cell BK526.out 1).trans rfl, (blk_cell BK526.out 2).trans rfl⟩ (fun hHeld => ?_)
                  clear hK K
                  refine norm_ (a' := ?_) ?_ ?_
                  rotate_left
                  · show Act.put _ (some 41) _ = _
                    simp only [Act.put, List.setIfInBounds_toArray, List.set_cons_zero, List.set_cons_succ, i64_w, i32_w]
                    rfl
                  refine one_ (i := 9) (N := some 42) #[true, true, true, true, true, true, true, true, true, true, false, false, false, false, false] rfl rfl (one_of HT_.out (by kernel_rfl)) (by decide) (fun K hK => ?_)
                  refine goes_ Tryd.func24 (by kernel_rfl) rfl #[.slice Ao51 t548.length co51, .slice Ao52 t551.length co52] (by rfl) rfl rfl (by (try simp only [List.map_toArray, List.map_cons, List.map_nil]); first | done | rfl | (simp only [List.length_drop, List.length_take]; rfl)) ?_
                  with_reducible refine (expr_Eval.calls k _ _ t548 _ _ t551 t554 t555 _ ?side1 ?side2 ?side3 ?side4 ?side5 A12.out).mono ?_
                  (case side1 => repeat (first | exact (Kd.V_reads' HO550.out).2.2 | (with_reducible refine Kd.C_alloc ?_ _) | (with_reducible refine Kd.C_drewN ?_ _) | (with_reducible refine Kd.C_drew ?_)))
                  (case side2 => exact (Kd.V_reads' HO550.out).2.1)
                  (case side3 => repeat (first | exact (Kd.V_reads' HO553.out).2.2 | (with_reducible refine Kd.C_alloc ?_ _) | (with_reducible refine Kd.C_drewN ?_ _) | (with_reducible refine Kd.C_drew ?_)))
                  (case side4 => exact (Kd.V_reads' HO553.out).2.1)
                  (case side5 => first | exact hG_ | exact Glob.drewN hG_ _ | exact Glob.below hG_ (by repeat (first | (with_reducible first | exact HB.out | apply below_alloc | apply pw_below_drewN | apply below_drew1 | refine below_set ?_ GE526.out) | exact HB.out)))
                  rintro e w53 ⟨rfl, hb⟩
                  refine ⟨_, rfl, ?_⟩
                  have n0_ := Aside0.mk (Kd.V_below (by (with_reducible repeat (first | apply Kd.V_alloc | apply Kd.V_drewN | apply Kd.V_drew)); exact HO529.out) hb)
                  have n1_ := Aside0.mk (Kd.V_below (by (with_reducible repeat (first | apply Kd.V_alloc | apply Kd.V_drewN | apply Kd.V_drew)); exact HO533.out) hb)
                  have n2_ := Aside0.mk (Kd.V_below (by (with_reducible repeat (first | apply Kd.V_alloc | apply Kd.V_drewN | apply Kd.V_drew)); exact HO536.out) hb)
                  have n3_ := Aside0.mk (Kd.N_below (by (with_reducible repeat (first | apply Kd.N_alloc | apply Kd.N_drewN | apply Kd.N_drew)); exact HO541.out) hb)
                  have n4_ := Aside0.mk (Kd.V_below (by (with_reducible repeat (first | apply Kd.V_alloc | apply Kd.V_drewN | apply Kd.V_drew)); exact HO544.out) hb)
                  have n5_ := Aside0.mk (Kd.N_below (by (with_reducible repeat (first | apply Kd.N_alloc | apply Kd.N_drewN | apply Kd.N_drew)); exact HO547.out) hb)
                  have n6_ := Aside0.mk (Kd.V_below (by (with_reducible repeat (first | apply Kd.V_alloc | apply Kd.V_drewN | apply Kd.V_drew)); exact HO550.out) hb)
                  have n7_ := Aside0.mk (Kd.V_below (by (with_reducible repeat (first | apply Kd.V_alloc | apply Kd.V_drewN | apply Kd.V_drew)); exact HO553.out) hb)
                  have n8_ := Aside0.mk (blk_below (g := gb526) (o := .cells #[.int .i64 a2_0, .int .i64 a2_1, .int .i64 a2_2] 45 (0, 0)) (by (with_reducible repeat (first | refine blk_drewN ?_ _ | refine blk_drew ?_ | refine blk_alloc ?_ _)); exact BK526.out) hb)
                  have n9_ := Aside0.mk (below_step (by repeat (first | (with_reducible first | exact HB.out | apply below_alloc | apply pw_below_drewN | apply below_drew1 | refine below_set ?_ GE526.out) | exact HB.out)) hb)
                  clear HO529
                  clear HO533
                  clear HO536
                  clear HO541
                  clear HO544
                  clear HO547
                  clear HO550
                  clear HO553
                  clear BK526
                  clear HB
                  have HO529 := n0_
                  have HO533 := n1_
                  have HO536 := n2_
                  have HO541 := n3_
                  have HO544 := n4_
                  have HO547 := n5_
                  have HO550 := n6_
                  have HO553 := n7_
                  have BK526 := n8_
                  have HB := n9_
                  clear n0_ n1_ n2_ n3_ n4_ n5_ n6_ n7_ n8_ n9_
                  (try clear hb)
                  (try clear hb2)
                  (try clear hk)
                  (try clear hi)
                  refine hK.out _ _ ⟨(blk_cell BK526.out 0).trans rfl, (blk_cell BK526.out 1).trans rfl, (blk_cell BK526.out 2).trans rfl⟩ (fun hHeld => ?_)
                  clear hK K
                  refine norm_ (a' := ?_) ?_ ?_
                  rotate_left
                  · show Act.put _ (some 42) _ = _
                    simp only [Act.put, List.setIfInBounds_toArray, List.set_cons_zero, List.set_cons_succ, i64_w, i32_w]
                    rfl
                  refine pure_ (i := 10) (N := some 32) (v := ?_) (a' := ?_) #[true, true, true, true, true, true, true, true, true, true, true, false, false, false, false] rfl rfl (any_of HT_.out (by kernel_rfl)) (fun _ _ _ h => h) (Or.inl ⟨by rfl, ?_⟩) ?_ ?_
                  rotate_left
                  · intro w'
                    go_simp
                    with_reducible rfl
                  rotate_left
                  · simp only [Act.put, List.setIfInBounds_toArray, List.set_cons_zero, List.set_cons_succ, i64_w, i32_w]
                    rfl
                  refine pure_ (i := 11) (N := some 43) (v := ?_) (a' := ?_) #[true, true, true, true, true, true, true, true, true, true, true, true, false, false, false] rfl rfl (any_of HT_.out (by kernel_rfl)) (fun _ _ _ h => h) (Or.inl ⟨by rfl, ?_⟩) ?_ ?_
                  rotate_left
                  · intro w'
                    go_simp
                    with_reducible rfl
                  rotate_left
                  · simp only [Act.put, List.setIfInBounds_toArray, List.set_cons_zero, List.set_cons_succ, i64_w, i32_w]
                    rfl
                  refine pure_ (i := 12) (N := some 44) (v := ?_) (a' := ?_) #[true, true, true, true, true, true, true, true, true, true, true, true, true, false, false] rfl rfl (any_of HT_.out (by kernel_rfl)) (fun _ _ _ h => h) (Or.inl ⟨by rfl, ?_⟩) ?_ ?_
                  rotate_left
                  · intro w'
                    go_simp
                    with_reducible rfl
                  rotate_left
                  · simp only [Act.put, List.setIfInBounds_toArray, List.set_cons_zero, List.set_cons_succ, i64_w, i32_w]
                    rfl
                  refine pure_ (i := 13) (N := some 11) (v := ?_) (a' := ?_) #[true, true, true, true, true, true, true, true, true, true, true, true, true, true, false] rfl rfl (any_of HT_.out (by kernel_rfl)) (fun _ _ _ h => h) (Or.inl ⟨by rfl, ?_⟩) ?_ ?_
                  rotate_left
                  · intro w'
                    go_simp
                    with_reducible rfl
                  rotate_left
                  · simp only [Act.put, List.setIfInBounds_toArray, List.set_cons_zero, List.set_cons_succ, i64_w, i32_w]
                    rfl
                  refine pure_ (i := 14) (N := some 12) (v := ?_) (a' := ?_) #[true, true, true, true, true, true, true, true, true, true, true, true, true, true, true] rfl rfl (any_of HT_.out (by kernel_rfl)) (fun _ _ _ h => h) (Or.inl ⟨by rfl, ?_⟩) ?_ ?_
                  rotate_left
                  · intro w'
                    go_simp
                    with_reducible rfl
                  rotate_left
                  · simp only [Act.put, List.setIfInBounds_toArray, List.set_cons_zero, List.set_cons_succ, i64_w, i32_w]
                    rfl
                  refine done_ (done_of HT_.out (by kernel_rfl)) ?_
                  try go_wp2
                  have n0_ := Aside0.mk (Kd.V_drew HO529.out)
                  have n1_ := Aside0.mk (Kd.V_drew HO533.out)
                  have n2_ := Aside0.mk (Kd.V_drew HO536.out)
                  have n3_ := Aside0.mk (Kd.N_drew HO541.out)
                  have n4_ := Aside0.mk (Kd.V_drew HO544.out)
                  have n5_ := Aside0.mk (Kd.N_drew HO547.out)
                  have n6_ := Aside0.mk (Kd.V_drew HO550.out)
                  have n7_ := Aside0.mk (Kd.V_drew HO553.out)
                  have n8_ := Aside0.mk (blk_drew BK526.out)
                  have n9_ := Aside0.mk (below_drew1 HB.out)
                  clear HO529
                  clear HO533
                  clear HO536
                  clear HO541
                  clear HO544
                  clear HO547
                  clear HO550
                  clear HO553
                  clear BK526
                  clear HB
                  have HO529 := n0_
                  have HO533 := n1_
                  have HO536 := n2_
                  have HO541 := n3_
                  have HO544 := n4_
                  have HO547 := n5_
                  have HO550 := n6_
                  have HO553 := n7_
                  have BK526 := n8_
                  have HB := n9_
                  clear n0_ n1_ n2_ n3_ n4_ n5_ n6_ n7_ n8_ n9_
                  refine start_ (n := 12) (S := fun w' => w'.cell? ⟨gb526, 0, none⟩ = some (.int .i64 a2_0) ∧ w'.cell? ⟨gb526, 1, none⟩ = some (.int .i64 a2_1) ∧ w'.cell? ⟨gb526, 2, none⟩ = some (.int .i64 a2_2)) (ds := []) #[false, false, false, false, false, false, false, false, false, false, false, false] (by kernel_rfl) rfl rfl ⟨(blk_cell BK526.out 0).trans rfl, (blk_cell BK526.out 1).trans rfl, (blk_cell BK526.out 2).trans rfl⟩ (fun hHeld => ?_); refine with_tabW foretellkeep_EvalShift.tab5 foretellkeep_EvalShift.bits5 (fun HT_ HW_ => ?_)
                  generalize w53.drew = w54 at HO529 HO533 HO536 HO541 HO544 HO547 HO550 HO553 BK526 HB hHeld ⊢
                  refine pure_ (i := 1) (N := some 47) (v := ?_) (a' := ?_) #[false, true, false, false, false, false, false, false, false, false, false, false] rfl rfl (any_of HT_.out (by kernel_rfl)) (fun _ _ _ h => h) (Or.inl ⟨by rfl, ?_⟩) ?_ ?_
                  rotate_left
                  · intro w'
                    go_simp
                    with_reducible rfl
                  rotate_left
                  · simp only [Act.put, List.setIfInBounds_toArray, List.set_cons_zero, List.set_cons_succ, i64_w, i32_w]
                    rfl
                  refine take_ (i := 4) (N := some 50) (v := ?_) (a' := ?_) #[false, true, false, false, true, false, false, false, false, false, false, false] rfl rfl (take_ofW HT_.out HW_.out (by kernel_rfl)) (fun _ _ _ h => h) (Or.inl ⟨by rfl, ?_⟩) hHeld ?_ ?_
                  rotate_left
                  · rintro w' ⟨s0, s1, s2⟩
                    go_simp
                    with_reducible rfl
                  rotate_left
                  · simp only [Act.put, List.setIfInBounds_toArray, List.set_cons_zero, List.set_cons_succ, i64_w, i32_w]
                    rfl
                  refine one_ (i := 0) (N := some 46) #[true, true, false, false, true, false, false, false, false, false, false, false] rfl rfl (one_of HT_.out (by kernel_rfl)) (by decide) (fun K hK => ?_)
                  refine goes_ Tryd.func26 (by kernel_rfl) rfl #[.int .i64 1] (by rfl) rfl rfl (by (try simp only [List.map_toArray, List.map_cons, List.map_nil]); first | done | rfl | (simp only [List.length_drop, List.length_take]; rfl)) ?_
                  with_reducible refine (foretellkeep_num.calls 1 t556 _ A13.out).mono ?_
                  rintro e w55 ⟨v557, rfl, ho0, hb⟩
                  refine ⟨_, rfl, ?_⟩
                  have n0_ := Aside0.mk (Kd.V_below (by (with_reducible repeat (first | apply Kd.V_alloc | apply Kd.V_drewN | apply Kd.V_drew)); exact HO529.out) hb)
                  have n1_ := Aside0.mk (Kd.V_below (by (with_reducible repeat (first | apply Kd.V_alloc | apply Kd.V_drewN | apply Kd.V_drew)); exact HO533.out) hb)
                  have n2_ := Aside0.mk (Kd.V_below (by (with_reducible repeat (first | apply Kd.V_alloc | apply Kd.V_drewN | apply Kd.V_drew)); exact HO536.out) hb)
                  have n3_ := Aside0.mk (Kd.N_below (by (with_reducible repeat (first | apply Kd.N_alloc | apply Kd.N_drewN | apply Kd.N_drew)); exact HO541.out) hb)
                  have n4_ := Aside0.mk (Kd.V_below (by (with_reducible repeat (first | apply Kd.V_alloc | apply Kd.V_drewN | apply Kd.V_drew)); exact HO544.out) hb)
                  have n5_ := Aside0.mk (Kd.N_below (by (with_reducible repeat (first | apply Kd.N_alloc | apply Kd.N_drewN | apply Kd.N_drew)); exact HO547.out) hb)
                  have n6_ := Aside0.mk (Kd.V_below (by (with_reducible repeat (first | apply Kd.V_alloc | apply Kd.V_drewN | apply Kd.V_drew)); exact HO550.out) hb)
                  have n7_ := Aside0.mk (Kd.V_below (by (with_reducible repeat (first | apply Kd.V_alloc | apply Kd.V_drewN | apply Kd.V_drew)); exact HO553.out) hb)
                  have n8_ := Aside0.mk (Kd.V_lower (Kd.V_mono (ok' := fun k_ => k_ ≠ gb526) (Kd.R_V (Kd.R_bound ho0)) (fun k_ hk_ => (Kd.freshB (g := gb526) (o := .cells #[.int .i64 a2_0, .int .i64 a2_1, .int .i64 a2_2] 45 (0, 0)) (by (with_reducible repeat (first | refine blk_drewN ?_ _ | refine blk_drew ?_ | refine blk_alloc ?_ _)); exact BK526.out) k_ hk_.2.1))) (below_size (by repeat (first | (with_reducible first | exact HB.out | apply below_alloc | apply pw_below_drewN | apply below_drew1 | refine below_set ?_ GE526.out) | exact HB.out))))
                  have n9_ := Aside0.mk (blk_below (g := gb526) (o := .cells #[.int .i64 a2_0, .int .i64 a2_1, .int .i64 a2_2] 45 (0, 0)) (by (with_reducible repeat (first | refine blk_drewN ?_ _ | refine blk_drew ?_ | refine blk_alloc ?_ _)); exact BK526.out) hb)
                  have n10_ := Aside0.mk (below_step (by repeat (first | (with_reducible first | exact HB.out | apply below_alloc | apply pw_below_drewN | apply below_drew1 | refine below_set ?_ GE526.out) | exact HB.out)) hb)
                  clear HO529
                  clear HO533
                  clear HO536
                  clear HO541
                  clear HO544
                  clear HO547
                  clear HO550
                  clear HO553
                  clear BK526
                  clear HB
                  have HO529 := n0_
                  have HO533 := n1_
                  have HO536 := n2_
                  have HO541 := n3_
                  have HO544 := n4_
                  have HO547 := n5_
                  have HO550 := n6_
                  have HO553 := n7_
                  have HO558 := n8_
                  have BK526 := n9_
                  have HB := n10_
                  clear n0_ n1_ n2_ n3_ n4_ n5_ n6_ n7_ n8_ n9_ n10_
                  (try clear hb)
                  (try clear hb2)
                  (try clear hk)
                  (try clear hi)
                  (try clear ho0)
                  obtain ⟨Ao56, co56, eo56⟩ := Kd.V_slice HO558.out
                  (first | subst eo56 | (injection eo56 with f1_ f2_ f3_; have f4_ := f1_.symm; have f5_ := f3_.symm; clear f1_ f2_ f3_; subst f4_; subst f5_))
                  refine hK.out _ _ ⟨(blk_cell BK526.out 0).trans rfl, (blk_cell BK526.out 1).trans rfl, (blk_cell BK526.out 2).trans rfl⟩ (fun hHeld => ?_)
                  clear hK K
                  refine norm_ (a' := ?_) ?_ ?_
                  rotate_left
                  · show Act.put _ (some 46) _ = _
                    simp only [Act.put, List.setIfInBounds_toArray, List.set_cons_zero, List.set_cons_succ, i64_w, i32_w]
                    rfl
                  refine one_ (i := 2) (N := some 48) #[true, true, true, false, true, false, false, false, false, false, false, false] rfl rfl (one_of HT_.out (by kernel_rfl)) (by decide) (fun K hK => ?_)
                  refine Kd.N_lit_step (Kd.slice 32 k32) _ 23 ?hg (N' := 48) ?hd (xs := ([t556, t527] : List (List (S32)))) (inner := [.slice Ao56 t556.length co56, .slice Ao36 t527.length co36]) (ok := (fun k_ => k_ ≠ gb526)) (okp := (fun k_ => k_ ≠ gb526)) ?hr ?hp (fun _ hk => hk) ((show ∀ k_, w55.heap.size ≤ k_ → (fun k_ => k_ ≠ gb526) k_ from fun k_ hk => Kd.freshB (g := gb526) (o := .cells #[.int .i64 a2_0, .int .i64 a2_1, .int .i64 a2_2] 45 (0, 0)) (by (with_reducible repeat (first | refine blk_drewN ?_ _ | refine blk_drew ?_ | refine blk_alloc ?_ _)); exact BK526.out) k_ hk) _ (Nat.le_refl _)) (Below.refl _ _) (Nat.le_refl _) (by simp) ?_; (case hd => rfl); (case hg => rfl); (case hr => first | (go_simp; done) | (go_simp; rfl)); (case hp => exact (Reps.one (show Kd.FK (Kd.slice 32 k32) _ _ t556 [.slice Ao56 t556.length co56] from (Kd.FK_slice_mk (Kd.V_reads' (Kd.V_mono (ok' := (fun k_ => k_ ≠ gb526)) (HO558.out) (fun k_ hk => hk))).2.1 (Kd.V_F (Kd.V_mono (ok' := (fun k_ => k_ ≠ gb526)) (HO558.out) (fun k_ hk => hk))))) (Reps.one (show Kd.FK (Kd.slice 32 k32) _ _ t527 [.slice Ao36 t527.length co36] from (Kd.FK_slice_mk (Kd.V_reads' (Kd.V_mono (ok' := (fun k_ => k_ ≠ gb526)) (HO529.out) (fun k_ hk => hk.1.1))).2.1 (Kd.V_F (Kd.V_mono (ok' := (fun k_ => k_ ≠ gb526)) (HO529.out) (fun k_ hk => hk.1.1))))) (Reps.none _ _))))
                  intro v560 w57 ho58 hb hg_ hnew_
                  clear hg_ hnew_
                  (first | rw [← Ny559.out] at ho58 | (simp only [Int.reduceToNat] at ho58; rw [← Ny559.out] at ho58))
                  have n0_ := Aside0.mk (Kd.V_elder' (by (with_reducible repeat (first | apply Kd.V_alloc | apply Kd.V_drewN | apply Kd.V_drew)); exact HO529.out) (by first | exact Kd.N_base ho58 | exact Kd.S_base ho58 | exact Kd.R_base ho58) hb)
                  have n1_ := Aside0.mk (Kd.V_elder' (by (with_reducible repeat (first | apply Kd.V_alloc | apply Kd.V_drewN | apply Kd.V_drew)); exact HO533.out) (by first | exact Kd.N_base ho58 | exact Kd.S_base ho58 | exact Kd.R_base ho58) hb)
                  have n2_ := Aside0.mk (Kd.V_elder' (by (with_reducible repeat (first | apply Kd.V_alloc | apply Kd.V_drewN | apply Kd.V_drew)); exact HO536.out) (by first | exact Kd.N_base ho58 | exact Kd.S_base ho58 | exact Kd.R_base ho58) hb)
                  have n3_ := Aside0.mk (Kd.N_elder' (by (with_reducible repeat (first | apply Kd.N_alloc | apply Kd.N_drewN | apply Kd.N_drew)); exact HO541.out) (by first | exact Kd.N_base ho58 | exact Kd.S_base ho58 | exact Kd.R_base ho58) hb)
                  have n4_ := Aside0.mk (Kd.V_elder' (by (with_reducible repeat (first | apply Kd.V_alloc | apply Kd.V_drewN | apply Kd.V_drew)); exact HO544.out) (by first | exact Kd.N_base ho58 | exact Kd.S_base ho58 | exact Kd.R_base ho58) hb)
                  have n5_ := Aside0.mk (Kd.N_elder' (by (with_reducible repeat (first | apply Kd.N_alloc | apply Kd.N_drewN | apply Kd.N_drew)); exact HO547.out) (by first | exact Kd.N_base ho58 | exact Kd.S_base ho58 | exact Kd.R_base ho58) hb)
                  have n6_ := Aside0.mk (Kd.V_elder' (by (with_reducible repeat (first | apply Kd.V_alloc | apply Kd.V_drewN | apply Kd.V_drew)); exact HO550.out) (by first | exact Kd.N_base ho58 | exact Kd.S_base ho58 | exact Kd.R_base ho58) hb)
                  have n7_ := Aside0.mk (Kd.V_elder' (by (with_reducible repeat (first | apply Kd.V_alloc | apply Kd.V_drewN | apply Kd.V_drew)); exact HO553.out) (by first | exact Kd.N_base ho58 | exact Kd.S_base ho58 | exact Kd.R_base ho58) hb)
                  have n8_ := Aside0.mk (Kd.V_elder' (by (with_reducible repeat (first | apply Kd.V_alloc | apply Kd.V_drewN | apply Kd.V_drew)); exact HO558.out) (by first | exact Kd.N_base ho58 | exact Kd.S_base ho58 | exact Kd.R_base ho58) hb)
                  have n9_ := Aside0.mk (Kd.N_lower ho58 (below_size (by repeat (first | (with_reducible first | exact HB.out | apply below_alloc | apply pw_below_drewN | apply below_drew1 | refine below_set ?_ GE526.out) | exact HB.out))))
                  have n10_ := Aside0.mk (blk_below (g := gb526) (o := .cells #[.int .i64 a2_0, .int .i64 a2_1, .int .i64 a2_2] 45 (0, 0)) (by (with_reducible repeat (first | refine blk_drewN ?_ _ | refine blk_drew ?_ | refine blk_alloc ?_ _)); exact BK526.out) hb)
                  have n11_ := Aside0.mk (below_step (by repeat (first | (with_reducible first | exact HB.out | apply below_alloc | apply pw_below_drewN | apply below_drew1 | refine below_set ?_ GE526.out) | exact HB.out)) hb)
                  clear HO529
                  clear HO533
                  clear HO536
                  clear HO541
                  clear HO544
                  clear HO547
                  clear HO550
                  clear HO553
                  clear HO558
                  clear BK526
                  clear HB
                  have HO529 := n0_
                  have HO533 := n1_
                  have HO536 := n2_
                  have HO541 := n3_
                  have HO544 := n4_
                  have HO547 := n5_
                  have HO550 := n6_
                  have HO553 := n7_
                  have HO558 := n8_
                  have HO561 := n9_
                  have BK526 := n10_
                  have HB := n11_
                  clear n0_ n1_ n2_ n3_ n4_ n5_ n6_ n7_ n8_ n9_ n10_ n11_
                  clear hb ho58
                  obtain ⟨Ao59, co59, eo59⟩ := Kd.N_slice HO561.out
                  (first | subst eo59 | (injection eo59 with f1_ f2_ f3_; have f4_ := f1_.symm; have f5_ := f3_.symm; clear f1_ f2_ f3_; subst f4_; subst f5_))
                  refine hK.out _ _ ⟨(blk_cell BK526.out 0).trans rfl, (blk_cell BK526.out 1).trans rfl, (blk_cell BK526.out 2).trans rfl⟩ (fun hHeld => ?_)
                  clear hK K
                  refine norm_ (a' := ?_) ?_ ?_
                  rotate_left
                  · show Act.put _ (some 48) _ = _
                    simp only [Act.put, List.setIfInBounds_toArray, List.set_cons_zero, List.set_cons_succ, i64_w, i32_w]
                    rfl
                  refine one_ (i := 3) (N := some 49) #[true, true, true, true, true, false, false, false, false, false, false, false] rfl rfl (one_of HT_.out (by kernel_rfl)) (by decide) (fun K hK => ?_)
                  refine goes_ Tryd.func21 (by kernel_rfl) rfl #[.int .i64 5, .slice Ao59 y559.length co59] (by rfl) rfl rfl (by (try simp only [List.map_toArray, List.map_cons, List.map_nil]); first | done | rfl | (simp only [List.length_drop, List.length_take]; rfl)) ?_
                  with_reducible refine (foretellkeep_joined.calls k 5 _ _ y559 t562 _ ?side1 ?side2 A14.out).mono ?_
                  (case side1 => repeat (first | exact (Kd.N_reads' HO561.out).2.2 | (with_reducible refine Kd.C_alloc ?_ _) | (with_reducible refine Kd.C_drewN ?_ _) | (with_reducible refine Kd.C_drew ?_)))
                  (case side2 => exact (Kd.N_reads' HO561.out).2.1)
                  rintro e w60 ⟨v563, rfl, ho0, hb⟩
                  refine ⟨_, rfl, ?_⟩
                  have n0_ := Aside0.mk (Kd.V_below (by (with_reducible repeat (first | apply Kd.V_alloc | apply Kd.V_drewN | apply Kd.V_drew)); exact HO529.out) hb)
                  have n1_ := Aside0.mk (Kd.V_below (by (with_reducible repeat (first | apply Kd.V_alloc | apply Kd.V_drewN | apply Kd.V_drew)); exact HO533.out) hb)
                  have n2_ := Aside0.mk (Kd.V_below (by (with_reducible repeat (first | apply Kd.V_alloc | apply Kd.V_drewN | apply Kd.V_drew)); exact HO536.out) hb)
                  have n3_ := Aside0.mk (Kd.N_below (by (with_reducible repeat (first | apply Kd.N_alloc | apply Kd.N_drewN | apply Kd.N_drew)); exact HO541.out) hb)
                  have n4_ := Aside0.mk (Kd.V_below (by (with_reducible repeat (first | apply Kd.V_alloc | apply Kd.V_drewN | apply Kd.V_drew)); exact HO544.out) hb)
                  have n5_ := Aside0.mk (Kd.N_below (by (with_reducible repeat (first | apply Kd.N_alloc | apply Kd.N_drewN | apply Kd.N_drew)); exact HO547.out) hb)
                  have n6_ := Aside0.mk (Kd.V_below (by (with_reducible repeat (first | apply Kd.V_alloc | apply Kd.V_drewN | apply Kd.V_drew)); exact HO550.out) hb)
                  have n7_ := Aside0.mk (Kd.V_below (by (with_reducible repeat (first | apply Kd.V_alloc | apply Kd.V_drewN | apply Kd.V_drew)); exact HO553.out) hb)
                  have n8_ := Aside0.mk (Kd.V_below (by (with_reducible repeat (first | apply Kd.V_alloc | apply Kd.V_drewN | apply Kd.V_drew)); exact HO558.out) hb)
                  have n9_ := Aside0.mk (Kd.N_below (by (with_reducible repeat (first | apply Kd.N_alloc | apply Kd.N_drewN | apply Kd.N_drew)); exact HO561.out) hb)
                  have n10_ := Aside0.mk (Kd.V_lower (Kd.V_mono (ok' := fun k_ => k_ ≠ gb526) (Kd.R_V (Kd.R_bound ho0)) (fun k_ hk_ => (Kd.freshB (g := gb526) (o := .cells #[.int .i64 a2_0, .int .i64 a2_1, .int .i64 a2_2] 45 (0, 0)) (by (with_reducible repeat (first | refine blk_drewN ?_ _ | refine blk_drew ?_ | refine blk_alloc ?_ _)); exact BK526.out) k_ hk_.2.1))) (below_size (by repeat (first | (with_reducible first | exact HB.out | apply below_alloc | apply pw_below_drewN | apply below_drew1 | refine below_set ?_ GE526.out) | exact HB.out))))
                  have n11_ := Aside0.mk (blk_below (g := gb526) (o := .cells #[.int .i64 a2_0, .int .i64 a2_1, .int .i64 a2_2] 45 (0, 0)) (by (with_reducible repeat (first | refine blk_drewN ?_ _ | refine blk_drew ?_ | refine blk_alloc ?_ _)); exact BK526.out) hb)
                  have n12_ := Aside0.mk (below_step (by repeat (first | (with_reducible first | exact HB.out | apply below_alloc | apply pw_below_drewN | apply below_drew1 | refine below_set ?_ GE526.out) | exact HB.out)) hb)
                  clear HO529
                  clear HO533
                  clear HO536
                  clear HO541
                  clear HO544
                  clear HO547
                  clear HO550
                  clear HO553
                  clear HO558
                  clear HO561
                  clear BK526
                  clear HB
                  have HO529 := n0_
                  have HO533 := n1_
                  have HO536 := n2_
                  have HO541 := n3_
                  have HO544 := n4_
                  have HO547 := n5_
                  have HO550 := n6_
                  have HO553 := n7_
                  have HO558 := n8_
                  have HO561 := n9_
                  have HO564 := n10_
                  have BK526 := n11_
                  have HB := n12_
                  clear n0_ n1_ n2_ n3_ n4_ n5_ n6_ n7_ n8_ n9_ n10_ n11_ n12_
                  (try clear hb)
                  (try clear hb2)
                  (try clear hk)
                  (try clear hi)
                  (try clear ho0)
                  refine hK.out _ _ ⟨(blk_cell BK526.out 0).trans rfl, (blk_cell BK526.out 1).trans rfl, (blk_cell BK526.out 2).trans rfl⟩ (fun hHeld => ?_)
                  clear hK K
                  refine norm_ (a' := ?_) ?_ ?_
                  rotate_left
                  · show Act.put _ (some 49) _ = _
                    simp only [Act.put, List.setIfInBounds_toArray, List.set_cons_zero, List.set_cons_succ, i64_w, i32_w]
                    rfl
                  refine one_ (i := 5) (N := some 51) #[true, true, true, true, true, true, false, false, false, false, false, false] rfl rfl (one_of HT_.out (by kernel_rfl)) (by decide) (fun K hK => ?_)
                  refine goes_ Tryd.func25 (by kernel_rfl) rfl #[.agg #[.int .i64 a2_0, .int .i64 a2_1, .int .i64 a2_2]] (by rfl) rfl rfl (by (try simp only [List.map_toArray, List.map_cons, List.map_nil]); first | done | rfl | (simp only [List.length_drop, List.length_take]; rfl)) ?_
                  with_reducible refine (foretellkeep_env.calls a2_0 a2_1 a2_2 t565 _ A15.out).mono ?_
                  rintro e w61 ⟨v566, rfl, ho0, hb⟩
                  refine ⟨_, rfl, ?_⟩
                  have n0_ := Aside0.mk (Kd.V_below (by (with_reducible repeat (first | apply Kd.V_alloc | apply Kd.V_drewN | apply Kd.V_drew)); exact HO529.out) hb)
                  have n1_ := Aside0.mk (Kd.V_below (by (with_reducible repeat (first | apply Kd.V_alloc | apply Kd.V_drewN | apply Kd.V_drew)); exact HO533.out) hb)
                  have n2_ := Aside0.mk (Kd.V_below (by (with_reducible repeat (first | apply Kd.V_alloc | apply Kd.V_drewN | apply Kd.V_drew)); exact HO536.out) hb)
                  have n3_ := Aside0.mk (Kd.N_below (by (with_reducible repeat (first | apply Kd.N_alloc | apply Kd.N_drewN | apply Kd.N_drew)); exact HO541.out) hb)
                  have n4_ := Aside0.mk (Kd.V_below (by (with_reducible repeat (first | apply Kd.V_alloc | apply Kd.V_drewN | apply Kd.V_drew)); exact HO544.out) hb)
                  have n5_ := Aside0.mk (Kd.N_below (by (with_reducible repeat (first | apply Kd.N_alloc | apply Kd.N_drewN | apply Kd.N_drew)); exact HO547.out) hb)
                  have n6_ := Aside0.mk (Kd.V_below (by (with_reducible repeat (first | apply Kd.V_alloc | apply Kd.V_drewN | apply Kd.V_drew)); exact HO550.out) hb)
                  have n7_ := Aside0.mk (Kd.V_below (by (with_reducible repeat (first | apply Kd.V_alloc | apply Kd.V_drewN | apply Kd.V_drew)); exact HO553.out) hb)
                  have n8_ := Aside0.mk (Kd.V_below (by (with_reducible repeat (first | apply Kd.V_alloc | apply Kd.V_drewN | apply Kd.V_drew)); exact HO558.out) hb)
                  have n9_ := Aside0.mk (Kd.N_below (by (with_reducible repeat (first | apply Kd.N_alloc | apply Kd.N_drewN | apply Kd.N_drew)); exact HO561.out) hb)
                  have n10_ := Aside0.mk (Kd.V_below (by (with_reducible repeat (first | apply Kd.V_alloc | apply Kd.V_drewN | apply Kd.V_drew)); exact HO564.out) hb)
                  have n11_ := Aside0.mk (Kd.V_lower (Kd.V_mono (ok' := fun k_ => k_ ≠ gb526) (Kd.R_V (Kd.R_bound ho0)) (fun k_ hk_ => (Kd.freshB (g := gb526) (o := .cells #[.int .i64 a2_0, .int .i64 a2_1, .int .i64 a2_2] 45 (0, 0)) (by (with_reducible repeat (first | refine blk_drewN ?_ _ | refine blk_drew ?_ | refine blk_alloc ?_ _)); exact BK526.out) k_ hk_.2.1))) (below_size (by repeat (first | (with_reducible first | exact HB.out | apply below_alloc | apply pw_below_drewN | apply below_drew1 | refine below_set ?_ GE526.out) | exact HB.out))))
                  have n12_ := Aside0.mk (blk_below (g := gb526) (o := .cells #[.int .i64 a2_0, .int .i64 a2_1, .int .i64 a2_2] 45 (0, 0)) (by (with_reducible repeat (first | refine blk_drewN ?_ _ | refine blk_drew ?_ | refine blk_alloc ?_ _)); exact BK526.out) hb)
                  have n13_ := Aside0.mk (below_step (by repeat (first | (with_reducible first | exact HB.out | apply below_alloc | apply pw_below_drewN | apply below_drew1 | refine below_set ?_ GE526.out) | exact HB.out)) hb)
                  clear HO529
                  clear HO533
                  clear HO536
                  clear HO541
                  clear HO544
                  clear HO547
                  clear HO550
                  clear HO553
                  clear HO558
                  clear HO561
                  clear HO564
                  clear BK526
                  clear HB
                  have HO529 := n0_
                  have HO533 := n1_
                  have HO536 := n2_
                  have HO541 := n3_
                  have HO544 := n4_
                  have HO547 := n5_
                  have HO550 := n6_
                  have HO553 := n7_
                  have HO558 := n8_
                  have HO561 := n9_
                  have HO564 := n10_
                  have HO567 := n11_
                  have BK526 := n12_
                  have HB := n13_
                  clear n0_ n1_ n2_ n3_ n4_ n5_ n6_ n7_ n8_ n9_ n10_ n11_ n12_ n13_
                  (try clear hb)
                  (try clear hb2)
                  (try clear hk)
                  (try clear hi)
                  (try clear ho0)
                  obtain ⟨Ao62, co62, eo62⟩ := Kd.V_slice HO564.out
                  (first | subst eo62 | (injection eo62 with f1_ f2_ f3_; have f4_ := f1_.symm; have f5_ := f3_.symm; clear f1_ f2_ f3_; subst f4_; subst f5_))
                  obtain ⟨Ao63, co63, eo63⟩ := Kd.V_slice HO567.out
                  (first | subst eo63 | (injection eo63 with f1_ f2_ f3_; have f4_ := f1_.symm; have f5_ := f3_.symm; clear f1_ f2_ f3_; subst f4_; subst f5_))
                  refine hK.out _ _ ⟨(blk_cell BK526.out 0).trans rfl, (blk_cell BK526.out 1).trans rfl, (blk_cell BK526.out 2).trans rfl⟩ (fun hHeld => ?_)
                  clear hK K
                  refine norm_ (a' := ?_) ?_ ?_
                  rotate_left
                  · show Act.put _ (some 51) _ = _
                    simp only [Act.put, List.setIfInBounds_toArray, List.set_cons_zero, List.set_cons_succ, i64_w, i32_w]
                    rfl
                  refine one_ (i := 6) (N := some 52) #[true, true, true, true, true, true, true, false, false, false, false, false] rfl rfl (one_of HT_.out (by kernel_rfl)) (by decide) (fun K hK => ?_)
                  refine goes_ Tryd.func24 (by kernel_rfl) rfl #[.slice Ao62 t562.length co62, .slice Ao63 t565.length co63] (by rfl) rfl rfl (by (try simp only [List.map_toArray, List.map_cons, List.map_nil]); first | done | rfl | (simp only [List.length_drop, List.length_take]; rfl)) ?_
                  with_reducible refine (expr_Eval.calls k _ _ t562 _ _ t565 t568 t569 _ ?side1 ?side2 ?side3 ?side4 ?side5 A16.out).mono ?_
                  (case side1 => repeat (first | exact (Kd.V_reads' HO564.out).2.2 | (with_reducible refine Kd.C_alloc ?_ _) | (with_reducible refine Kd.C_drewN ?_ _) | (with_reducible refine Kd.C_drew ?_)))
                  (case side2 => exact (Kd.V_reads' HO564.out).2.1)
                  (case side3 => repeat (first | exact (Kd.V_reads' HO567.out).2.2 | (with_reducible refine Kd.C_alloc ?_ _) | (with_reducible refine Kd.C_drewN ?_ _) | (with_reducible refine Kd.C_drew ?_)))
                  (case side4 => exact (Kd.V_reads' HO567.out).2.1)
                  (case side5 => first | exact hG_ | exact Glob.drewN hG_ _ | exact Glob.below hG_ (by repeat (first | (with_reducible first | exact HB.out | apply below_alloc | apply pw_below_drewN | apply below_drew1 | refine below_set ?_ GE526.out) | exact HB.out)))
                  rintro e w64 ⟨rfl, hb⟩
                  refine ⟨_, rfl, ?_⟩
                  have n0_ := Aside0.mk (Kd.V_below (by (with_reducible repeat (first | apply Kd.V_alloc | apply Kd.V_drewN | apply Kd.V_drew)); exact HO529.out) hb)
                  have n1_ := Aside0.mk (Kd.V_below (by (with_reducible repeat (first | apply Kd.V_alloc | apply Kd.V_drewN | apply Kd.V_drew)); exact HO533.out) hb)
                  have n2_ := Aside0.mk (Kd.V_below (by (with_reducible repeat (first | apply Kd.V_alloc | apply Kd.V_drewN | apply Kd.V_drew)); exact HO536.out) hb)
                  have n3_ := Aside0.mk (Kd.N_below (by (with_reducible repeat (first | apply Kd.N_alloc | apply Kd.N_drewN | apply Kd.N_drew)); exact HO541.out) hb)
                  have n4_ := Aside0.mk (Kd.V_below (by (with_reducible repeat (first | apply Kd.V_alloc | apply Kd.V_drewN | apply Kd.V_drew)); exact HO544.out) hb)
                  have n5_ := Aside0.mk (Kd.N_below (by (with_reducible repeat (first | apply Kd.N_alloc | apply Kd.N_drewN | apply Kd.N_drew)); exact HO547.out) hb)
                  have n6_ := Aside0.mk (Kd.V_below (by (with_reducible repeat (first | apply Kd.V_alloc | apply Kd.V_drewN | apply Kd.V_drew)); exact HO550.out) hb)
                  have n7_ := Aside0.mk (Kd.V_below (by (with_reducible repeat (first | apply Kd.V_alloc | apply Kd.V_drewN | apply Kd.V_drew)); exact HO553.out) hb)
                  have n8_ := Aside0.mk (Kd.V_below (by (with_reducible repeat (first | apply Kd.V_alloc | apply Kd.V_drewN | apply Kd.V_drew)); exact HO558.out) hb)
                  have n9_ := Aside0.mk (Kd.N_below (by (with_reducible repeat (first | apply Kd.N_alloc | apply Kd.N_drewN | apply Kd.N_drew)); exact HO561.out) hb)
                  have n10_ := Aside0.mk (Kd.V_below (by (with_reducible repeat (first | apply Kd.V_alloc | apply Kd.V_drewN | apply Kd.V_drew)); exact HO564.out) hb)
                  have n11_ := Aside0.mk (Kd.V_below (by (with_reducible repeat (first | apply Kd.V_alloc | apply Kd.V_drewN | apply Kd.V_drew)); exact HO567.out) hb)
                  have n12_ := Aside0.mk (blk_below (g := gb526) (o := .cells #[.int .i64 a2_0, .int .i64 a2_1, .int .i64 a2_2] 45 (0, 0)) (by (with_reducible repeat (first | refine blk_drewN ?_ _ | refine blk_drew ?_ | refine blk_alloc ?_ _)); exact BK526.out) hb)
                  have n13_ := Aside0.mk (below_step (by repeat (first | (with_reducible first | exact HB.out | apply below_alloc | apply pw_below_drewN | apply below_drew1 | refine below_set ?_ GE526.out) | exact HB.out)) hb)
                  clear HO529
                  clear HO533
                  clear HO536
                  clear HO541
                  clear HO544
                  clear HO547
                  clear HO550
                  clear HO553
                  clear HO558
                  clear HO561
                  clear HO564
                  clear HO567
                  clear BK526
                  clear HB
                  have HO529 := n0_
                  have HO533 := n1_
                  have HO536 := n2_
                  have HO541 := n3_
                  have HO544 := n4_
                  have HO547 := n5_
                  have HO550 := n6_
                  have HO553 := n7_
                  have HO558 := n8_
                  have HO561 := n9_
                  have HO564 := n10_
                  have HO567 := n11_
                  have BK526 := n12_
                  have HB := n13_
                  clear n0_ n1_ n2_ n3_ n4_ n5_ n6_ n7_ n8_ n9_ n10_ n11_ n12_ n13_
                  (try clear hb)
                  (try clear hb2)
                  (try clear hk)
                  (try clear hi)
                  refine hK.out _ _ ⟨(blk_cell BK526.out 0).trans rfl, (blk_cell BK526.out 1).trans rfl, (blk_cell BK526.out 2).trans rfl⟩ (fun hHeld => ?_)
                  clear hK K
                  refine norm_ (a' := ?_) ?_ ?_
                  rotate_left
                  · show Act.put _ (some 52) _ = _
                    simp only [Act.put, List.setIfInBounds_toArray, List.set_cons_zero, List.set_cons_succ, i64_w, i32_w]
                    rfl
                  refine pure_ (i := 7) (N := some 45) (v := ?_) (a' := ?_) #[true, true, true, true, true, true, true, true, false, false, false, false] rfl rfl (any_of HT_.out (by kernel_rfl)) (fun _ _ _ h => h) (Or.inl ⟨by rfl, ?_⟩) ?_ ?_
                  rotate_left
                  · intro w'
                    go_simp
                    with_reducible rfl
                  rotate_left
                  · simp only [Act.put, List.setIfInBounds_toArray, List.set_cons_zero, List.set_cons_succ, i64_w, i32_w]
                    rfl
                  refine pure_ (i := 8) (N := some 53) (v := ?_) (a' := ?_) #[true, true, true, true, true, true, true, true, true, false, false, false] rfl rfl (any_of HT_.out (by kernel_rfl)) (fun _ _ _ h => h) (Or.inl ⟨by rfl, ?_⟩) ?_ ?_
                  rotate_left
                  · intro w'
                    go_simp
                    with_reducible rfl
                  rotate_left
                  · simp only [Act.put, List.setIfInBounds_toArray, List.set_cons_zero, List.set_cons_succ, i64_w, i32_w]
                    rfl
                  refine pure_ (i := 9) (N := some 54) (v := ?_) (a' := ?_) #[true, true, true, true, true, true, true, true, true, true, false, false] rfl rfl (any_of HT_.out (by kernel_rfl)) (fun _ _ _ h => h) (Or.inl ⟨by rfl, ?_⟩) ?_ ?_
                  rotate_left
                  · intro w'
                    go_simp
                    with_reducible rfl
                  rotate_left
                  · simp only [Act.put, List.setIfInBounds_toArray, List.set_cons_zero, List.set_cons_succ, i64_w, i32_w]
                    rfl
                  refine pure_ (i := 10) (N := some 13) (v := ?_) (a' := ?_) #[true, true, true, true, true, true, true, true, true, true, true, false] rfl rfl (any_of HT_.out (by kernel_rfl)) (fun _ _ _ h => h) (Or.inl ⟨by rfl, ?_⟩) ?_ ?_
                  rotate_left
                  · intro w'
                    go_simp
                    with_reducible rfl
                  rotate_left
                  · simp only [Act.put, List.setIfInBounds_toArray, List.set_cons_zero, List.set_cons_succ, i64_w, i32_w]
                    rfl
                  refine pure_ (i := 11) (N := some 14) (v := ?_) (a' := ?_) #[true, true, true, true, true, true, true, true, true, true, true, true] rfl rfl (any_of HT_.out (by kernel_rfl)) (fun _ _ _ h => h) (Or.inl ⟨by rfl, ?_⟩) ?_ ?_
                  rotate_left
                  · intro w'
                    go_simp
                    with_reducible rfl
                  rotate_left
                  · simp only [Act.put, List.setIfInBounds_toArray, List.set_cons_zero, List.set_cons_succ, i64_w, i32_w]
                    rfl
                  refine done_ (done_of HT_.out (by kernel_rfl)) ?_
                  try go_wp2
                  have n0_ := Aside0.mk (Kd.V_drew HO529.out)
                  have n1_ := Aside0.mk (Kd.V_drew HO533.out)
                  have n2_ := Aside0.mk (Kd.V_drew HO536.out)
                  have n3_ := Aside0.mk (Kd.N_drew HO541.out)
                  have n4_ := Aside0.mk (Kd.V_drew HO544.out)
                  have n5_ := Aside0.mk (Kd.N_drew HO547.out)
                  have n6_ := Aside0.mk (Kd.V_drew HO550.out)
                  have n7_ := Aside0.mk (Kd.V_drew HO553.out)
                  have n8_ := Aside0.mk (Kd.V_drew HO558.out)
                  have n9_ := Aside0.mk (Kd.N_drew HO561.out)
                  have n10_ := Aside0.mk (Kd.V_drew HO564.out)
                  have n11_ := Aside0.mk (Kd.V_drew HO567.out)
                  have n12_ := Aside0.mk (blk_drew BK526.out)
                  have n13_ := Aside0.mk (below_drew1 HB.out)
                  clear HO529
                  clear HO533
                  clear HO536
                  clear HO541
                  clear HO544
                  clear HO547
                  clear HO550
                  clear HO553
                  clear HO558
                  clear HO561
                  clear HO564
                  clear HO567
                  clear BK526
                  clear HB
                  have HO529 := n0_
                  have HO533 := n1_
                  have HO536 := n2_
                  have HO541 := n3_
                  have HO544 := n4_
                  have HO547 := n5_
                  have HO550 := n6_
                  have HO553 := n7_
                  have HO558 := n8_
                  have HO561 := n9_
                  have HO564 := n10_
                  have HO567 := n11_
                  have BK526 := n12_
                  have HB := n13_
                  clear n0_ n1_ n2_ n3_ n4_ n5_ n6_ n7_ n8_ n9_ n10_ n11_ n12_ n13_
                  refine start_ (n := 12) (S := fun w' => w'.cell? ⟨gb526, 0, none⟩ = some (.int .i64 a2_0) ∧ w'.cell? ⟨gb526, 1, none⟩ = some (.int .i64 a2_1) ∧ w'.cell? ⟨gb526, 2, none⟩ = some (.int .i64 a2_2)) (ds := []) #[false, false, false, false, false, false, false, false, false, false, false, false] (by kernel_rfl) rfl rfl ⟨(blk_cell BK526.out 0).trans rfl, (blk_cell BK526.out 1).trans rfl, (blk_cell BK526.out 2).trans rfl⟩ (fun hHeld => ?_); refine with_tabW foretellkeep_EvalShift.tab6 foretellkeep_EvalShift.bits6 (fun HT_ HW_ => ?_)
                  generalize w64.drew = w65 at HO529 HO533 HO536 HO541 HO544 HO547 HO550 HO553 HO558 HO561 HO564 HO567 BK526 HB hHeld ⊢
                  refine pure_ (i := 0) (N := some 56) (v := ?_) (a' := ?_) #[true, false, false, false, false, false, false, false, false, false, false, false] rfl rfl (any_of HT_.out (by kernel_rfl)) (fun _ _ _ h => h) (Or.inl ⟨by rfl, ?_⟩) ?_ ?_
                  rotate_left
                  · intro w'
                    go_simp
                    with_reducible rfl
                  rotate_left
                  · simp only [Act.put, List.setIfInBounds_toArray, List.set_cons_zero, List.set_cons_succ, i64_w, i32_w]
                    rfl
                  refine take_ (i := 4) (N := some 60) (v := ?_) (a' := ?_) #[true, false, false, false, true, false, false, false, false, false, false, false] rfl rfl (take_ofW HT_.out HW_.out (by kernel_rfl)) (fun _ _ _ h => h) (Or.inl ⟨by rfl, ?_⟩) hHeld ?_ ?_
                  rotate_left
                  · rintro w' ⟨s0, s1, s2⟩
                    go_simp
                    with_reducible rfl
                  rotate_left
                  · simp only [Act.put, List.setIfInBounds_toArray, List.set_cons_zero, List.set_cons_succ, i64_w, i32_w]
                    rfl
                  refine one_ (i := 1) (N := some 57) #[true, true, false, false, true, false, false, false, false, false, false, false] rfl rfl (one_of HT_.out (by kernel_rfl)) (by decide) (fun K hK => ?_)
                  refine goes_ Tryd.func26 (by kernel_rfl) rfl #[.int .i64 0] (by rfl) rfl rfl (by (try simp only [List.map_toArray, List.map_cons, List.map_nil]); first | done | rfl | (simp only [List.length_drop, List.length_take]; rfl)) ?_
                  with_reducible refine (foretellkeep_num.calls 0 t570 _ A17.out).mono ?_
                  rintro e w66 ⟨v571, rfl, ho0, hb⟩
                  refine ⟨_, rfl, ?_⟩
                  have n0_ := Aside0.mk (Kd.V_below (by (with_reducible repeat (first | apply Kd.V_alloc | apply Kd.V_drewN | apply Kd.V_drew)); exact HO529.out) hb)
                  have n1_ := Aside0.mk (Kd.V_below (by (with_reducible repeat (first | apply Kd.V_alloc | apply Kd.V_drewN | apply Kd.V_drew)); exact HO533.out) hb)
                  have n2_ := Aside0.mk (Kd.V_below (by (with_reducible repeat (first | apply Kd.V_alloc | apply Kd.V_drewN | apply Kd.V_drew)); exact HO536.out) hb)
                  have n3_ := Aside0.mk (Kd.N_below (by (with_reducible repeat (first | apply Kd.N_alloc | apply Kd.N_drewN | apply Kd.N_drew)); exact HO541.out) hb)
                  have n4_ := Aside0.mk (Kd.V_below (by (with_reducible repeat (first | apply Kd.V_alloc | apply Kd.V_drewN | apply Kd.V_drew)); exact HO544.out) hb)
                  have n5_ := Aside0.mk (Kd.N_below (by (with_reducible repeat (first | apply Kd.N_alloc | apply Kd.N_drewN | apply Kd.N_drew)); exact HO547.out) hb)
                  have n6_ := Aside0.mk (Kd.V_below (by (with_reducible repeat (first | apply Kd.V_alloc | apply Kd.V_drewN | apply Kd.V_drew)); exact HO550.out) hb)
                  have n7_ := Aside0.mk (Kd.V_below (by (with_reducible repeat (first | apply Kd.V_alloc | apply Kd.V_drewN | apply Kd.V_drew)); exact HO553.out) hb)
                  have n8_ := Aside0.mk (Kd.V_below (by (with_reducible repeat (first | apply Kd.V_alloc | apply Kd.V_drewN | apply Kd.V_drew)); exact HO558.out) hb)
                  have n9_ := Aside0.mk (Kd.N_below (by (with_reducible repeat (first | apply Kd.N_alloc | apply Kd.N_drewN | apply Kd.N_drew)); exact HO561.out) hb)
                  have n10_ := Aside0.mk (Kd.V_below (by (with_reducible repeat (first | apply Kd.V_alloc | apply Kd.V_drewN | apply Kd.V_drew)); exact HO564.out) hb)
                  have n11_ := Aside0.mk (Kd.V_below (by (with_reducible repeat (first | apply Kd.V_alloc | apply Kd.V_drewN | apply Kd.V_drew)); exact HO567.out) hb)
                  have n12_ := Aside0.mk (Kd.V_lower (Kd.V_mono (ok' := fun k_ => k_ ≠ gb526) (Kd.R_V (Kd.R_bound ho0)) (fun k_ hk_ => (Kd.freshB (g := gb526) (o := .cells #[.int .i64 a2_0, .int .i64 a2_1, .int .i64 a2_2] 45 (0, 0)) (by (with_reducible repeat (first | refine blk_drewN ?_ _ | refine blk_drew ?_ | refine blk_alloc ?_ _)); exact BK526.out) k_ hk_.2.1))) (below_size (by repeat (first | (with_reducible first | exact HB.out | apply below_alloc | apply pw_below_drewN | apply below_drew1 | refine below_set ?_ GE526.out) | exact HB.out))))
                  have n13_ := Aside0.mk (blk_below (g := gb526) (o := .cells #[.int .i64 a2_0, .int .i64 a2_1, .int .i64 a2_2] 45 (0, 0)) (by (with_reducible repeat (first | refine blk_drewN ?_ _ | refine blk_drew ?_ | refine blk_alloc ?_ _)); exact BK526.out) hb)
                  have n14_ := Aside0.mk (below_step (by repeat (first | (with_reducible first | exact HB.out | apply below_alloc | apply pw_below_drewN | apply below_drew1 | refine below_set ?_ GE526.out) | exact HB.out)) hb)
                  clear HO529
                  clear HO533
                  clear HO536
                  clear HO541
                  clear HO544
                  clear HO547
                  clear HO550
                  clear HO553
                  clear HO558
                  clear HO561
                  clear HO564
                  clear HO567
                  clear BK526
                  clear HB
                  have HO529 := n0_
                  have HO533 := n1_
                  have HO536 := n2_
                  have HO541 := n3_
                  have HO544 := n4_
                  have HO547 := n5_
                  have HO550 := n6_
                  have HO553 := n7_
                  have HO558 := n8_
                  have HO561 := n9_
                  have HO564 := n10_
                  have HO567 := n11_
                  have HO572 := n12_
                  have BK526 := n13_
                  have HB := n14_
                  clear n0_ n1_ n2_ n3_ n4_ n5_ n6_ n7_ n8_ n9_ n10_ n11_ n12_ n13_ n14_
                  (try clear hb)
                  (try clear hb2)
                  (try clear hk)
                  (try clear hi)
                  (try clear ho0)
                  obtain ⟨Ao67, co67, eo67⟩ := Kd.V_slice HO572.out
                  (first | subst eo67 | (injection eo67 with f1_ f2_ f3_; have f4_ := f1_.symm; have f5_ := f3_.symm; clear f1_ f2_ f3_; subst f4_; subst f5_))
                  refine hK.out _ _ ⟨(blk_cell BK526.out 0).trans rfl, (blk_cell BK526.out 1).trans rfl, (blk_cell BK526.out 2).trans rfl⟩ (fun hHeld => ?_)
                  clear hK K
                  refine norm_ (a' := ?_) ?_ ?_
                  rotate_left
                  · show Act.put _ (some 57) _ = _
                    simp only [Act.put, List.setIfInBounds_toArray, List.set_cons_zero, List.set_cons_succ, i64_w, i32_w]
                    rfl
                  refine one_ (i := 2) (N := some 58) #[true, true, true, false, true, false, false, false, false, false, false, false] rfl rfl (one_of HT_.out (by kernel_rfl)) (by decide) (fun K hK => ?_)
                  refine Kd.N_lit_step (Kd.slice 32 k32) _ 23 ?hg (N' := 58) ?hd (xs := ([t527, t570] : List (List (S32)))) (inner := [.slice Ao36 t527.length co36, .slice Ao67 t570.length co67]) (ok := (fun k_ => k_ ≠ gb526)) (okp := (fun k_ => k_ ≠ gb526)) ?hr ?hp (fun _ hk => hk) ((show ∀ k_, w66.heap.size ≤ k_ → (fun k_ => k_ ≠ gb526) k_ from fun k_ hk => Kd.freshB (g := gb526) (o := .cells #[.int .i64 a2_0, .int .i64 a2_1, .int .i64 a2_2] 45 (0, 0)) (by (with_reducible repeat (first | refine blk_drewN ?_ _ | refine blk_drew ?_ | refine blk_alloc ?_ _)); exact BK526.out) k_ hk) _ (Nat.le_refl _)) (Below.refl _ _) (Nat.le_refl _) (by simp) ?_; (case hd => rfl); (case hg => rfl); (case hr => first | (go_simp; done) | (go_simp; rfl)); (case hp => exact (Reps.one (show Kd.FK (Kd.slice 32 k32) _ _ t527 [.slice Ao36 t527.length co36] from (Kd.FK_slice_mk (Kd.V_reads' (Kd.V_mono (ok' := (fun k_ => k_ ≠ gb526)) (HO529.out) (fun k_ hk => hk.1.1.1))).2.1 (Kd.V_F (Kd.V_mono (ok' := (fun k_ => k_ ≠ gb526)) (HO529.out) (fun k_ hk => hk.1.1.1))))) (Reps.one (show Kd.FK (Kd.slice 32 k32) _ _ t570 [.slice Ao67 t570.length co67] from (Kd.FK_slice_mk (Kd.V_reads' (Kd.V_mono (ok' := (fun k_ => k_ ≠ gb526)) (HO572.out) (fun k_ hk => hk))).2.1 (Kd.V_F (Kd.V_mono (ok' := (fun k_ => k_ ≠ gb526)) (HO572.out) (fun k_ hk => hk))))) (Reps.none _ _))))
                  intro v574 w68 ho69 hb hg_ hnew_
                  clear hg_ hnew_
                  (first | rw [← Ny573.out] at ho69 | (simp only [Int.reduceToNat] at ho69; rw [← Ny573.out] at ho69))
                  have n0_ := Aside0.mk (Kd.V_elder' (by (with_reducible repeat (first | apply Kd.V_alloc | apply Kd.V_drewN | apply Kd.V_drew)); exact HO529.out) (by first | exact Kd.N_base ho69 | exact Kd.S_base ho69 | exact Kd.R_base ho69) hb)
                  have n1_ := Aside0.mk (Kd.V_elder' (by (with_reducible repeat (first | apply Kd.V_alloc | apply Kd.V_drewN | apply Kd.V_drew)); exact HO533.out) (by first | exact Kd.N_base ho69 | exact Kd.S_base ho69 | exact Kd.R_base ho69) hb)
                  have n2_ := Aside0.mk (Kd.V_elder' (by (with_reducible repeat (first | apply Kd.V_alloc | apply Kd.V_drewN | apply Kd.V_drew)); exact HO536.out) (by first | exact Kd.N_base ho69 | exact Kd.S_base ho69 | exact Kd.R_base ho69) hb)
                  have n3_ := Aside0.mk (Kd.N_elder' (by (with_reducible repeat (first | apply Kd.N_alloc | apply Kd.N_drewN | apply Kd.N_drew)); exact HO541.out) (by first | exact Kd.N_base ho69 | exact Kd.S_base ho69 | exact Kd.R_base ho69) hb)
                  have n4_ := Aside0.mk (Kd.V_elder' (by (with_reducible repeat (first | apply Kd.V_alloc | apply Kd.V_drewN | apply Kd.V_drew)); exact HO544.out) (by first | exact Kd.N_base ho69 | exact Kd.S_base ho69 | exact Kd.R_base ho69) hb)
                  have n5_ := Aside0.mk (Kd.N_elder' (by (with_reducible repeat (first | apply Kd.N_alloc | apply Kd.N_drewN | apply Kd.N_drew)); exact HO547.out) (by first | exact Kd.N_base ho69 | exact Kd.S_base ho69 | exact Kd.R_base ho69) hb)
                  have n6_ := Aside0.mk (Kd.V_elder' (by (with_reducible repeat (first | apply Kd.V_alloc | apply Kd.V_drewN | apply Kd.V_drew)); exact HO550.out) (by first | exact Kd.N_base ho69 | exact Kd.S_base ho69 | exact Kd.R_base ho69) hb)
                  have n7_ := Aside0.mk (Kd.V_elder' (by (with_reducible repeat (first | apply Kd.V_alloc | apply Kd.V_drewN | apply Kd.V_drew)); exact HO553.out) (by first | exact Kd.N_base ho69 | exact Kd.S_base ho69 | exact Kd.R_base ho69) hb)
                  have n8_ := Aside0.mk (Kd.V_elder' (by (with_reducible repeat (first | apply Kd.V_alloc | apply Kd.V_drewN | apply Kd.V_drew)); exact HO558.out) (by first | exact Kd.N_base ho69 | exact Kd.S_base ho69 | exact Kd.R_base ho69) hb)
                  have n9_ := Aside0.mk (Kd.N_elder' (by (with_reducible repeat (first | apply Kd.N_alloc | apply Kd.N_drewN | apply Kd.N_drew)); exact HO561.out) (by first | exact Kd.N_base ho69 | exact Kd.S_base ho69 | exact Kd.R_base ho69) hb)
                  have n10_ := Aside0.mk (Kd.V_elder' (by (with_reducible repeat (first | apply Kd.V_alloc | apply Kd.V_drewN | apply Kd.V_drew)); exact HO564.out) (by first | exact Kd.N_base ho69 | exact Kd.S_base ho69 | exact Kd.R_base ho69) hb)
                  have n11_ := Aside0.mk (Kd.V_elder' (by (with_reducible repeat (first | apply Kd.V_alloc | apply Kd.V_drewN | apply Kd.V_drew)); exact HO567.out) (by first | exact Kd.N_base ho69 | exact Kd.S_base ho69 | exact Kd.R_base ho69) hb)
                  have n12_ := Aside0.mk (Kd.V_elder' (by (with_reducible repeat (first | apply Kd.V_alloc | apply Kd.V_drewN | apply Kd.V_drew)); exact HO572.out) (by first | exact Kd.N_base ho69 | exact Kd.S_base ho69 | exact Kd.R_base ho69) hb)
                  have n13_ := Aside0.mk (Kd.N_lower ho69 (below_size (by repeat (first | (with_reducible first | exact HB.out | apply below_alloc | apply pw_below_drewN | apply below_drew1 | refine below_set ?_ GE526.out) | exact HB.out))))
                  have n14_ := Aside0.mk (blk_below (g := gb526) (o := .cells #[.int .i64 a2_0, .int .i64 a2_1, .int .i64 a2_2] 45 (0, 0)) (by (with_reducible repeat (first | refine blk_drewN ?_ _ | refine blk_drew ?_ | refine blk_alloc ?_ _)); exact BK526.out) hb)
                  have n15_ := Aside0.mk (below_step (by repeat (first | (with_reducible first | exact HB.out | apply below_alloc | apply pw_below_drewN | apply below_drew1 | refine below_set ?_ GE526.out) | exact HB.out)) hb)
                  clear HO529
                  clear HO533
                  clear HO536
                  clear HO541
                  clear HO544
                  clear HO547
                  clear HO550
                  clear HO553
                  clear HO558
                  clear HO561
                  clear HO564
                  clear HO567
                  clear HO572
                  clear BK526
                  clear HB
                  have HO529 := n0_
                  have HO533 := n1_
                  have HO536 := n2_
                  have HO541 := n3_
                  have HO544 := n4_
                  have HO547 := n5_
                  have HO550 := n6_
                  have HO553 := n7_
                  have HO558 := n8_
                  have HO561 := n9_
                  have HO564 := n10_
                  have HO567 := n11_
                  have HO572 := n12_
                  have HO575 := n13_
                  have BK526 := n14_
                  have HB := n15_
                  clear n0_ n1_ n2_ n3_ n4_ n5_ n6_ n7_ n8_ n9_ n10_ n11_ n12_ n13_ n14_ n15_
                  clear hb ho69
                  obtain ⟨Ao70, co70, eo70⟩ := Kd.N_slice HO575.out
                  (first | subst eo70 | (injection eo70 with f1_ f2_ f3_; have f4_ := f1_.symm; have f5_ := f3_.symm; clear f1_ f2_ f3_; subst f4_; subst f5_))
                  refine hK.out _ _ ⟨(blk_cell BK526.out 0).trans rfl, (blk_cell BK526.out 1).trans rfl, (blk_cell BK526.out 2).trans rfl⟩ (fun hHeld => ?_)
                  clear hK K
                  refine norm_ (a' := ?_) ?_ ?_
                  rotate_left
                  · show Act.put _ (some 58) _ = _
                    simp only [Act.put, List.setIfInBounds_toArray, List.set_cons_zero, List.set_cons_succ, i64_w, i32_w]
                    rfl
                  refine one_ (i := 3) (N := some 59) #[true, true, true, true, true, false, false, false, false, false, false, false] rfl rfl (one_of HT_.out (by kernel_rfl)) (by decide) (fun K hK => ?_)
                  refine goes_ Tryd.func21 (by kernel_rfl) rfl #[.int .i64 5, .slice Ao70 y573.length co70] (by rfl) rfl rfl (by (try simp only [List.map_toArray, List.map_cons, List.map_nil]); first | done | rfl | (simp only [List.length_drop, List.length_take]; rfl)) ?_
                  with_reducible refine (foretellkeep_joined.calls k 5 _ _ y573 t576 _ ?side1 ?side2 A18.out).mono ?_
                  (case side1 => repeat (first | exact (Kd.N_reads' HO575.out).2.2 | (with_reducible refine Kd.C_alloc ?_ _) | (with_reducible refine Kd.C_drewN ?_ _) | (with_reducible refine Kd.C_drew ?_)))
                  (case side2 => exact (Kd.N_reads' HO575.out).2.1)
                  rintro e w71 ⟨v577, rfl, ho0, hb⟩
                  refine ⟨_, rfl, ?_⟩
                  have n0_ := Aside0.mk (Kd.V_below (by (with_reducible repeat (first | apply Kd.V_alloc | apply Kd.V_drewN | apply Kd.V_drew)); exact HO529.out) hb)
                  have n1_ := Aside0.mk (Kd.V_below (by (with_reducible repeat (first | apply Kd.V_alloc | apply Kd.V_drewN | apply Kd.V_drew)); exact HO533.out) hb)
                  have n2_ := Aside0.mk (Kd.V_below (by (with_reducible repeat (first | apply Kd.V_alloc | apply Kd.V_drewN | apply Kd.V_drew)); exact HO536.out) hb)
                  have n3_ := Aside0.mk (Kd.N_below (by (with_reducible repeat (first | apply Kd.N_alloc | apply Kd.N_drewN | apply Kd.N_drew)); exact HO541.out) hb)
                  have n4_ := Aside0.mk (Kd.V_below (by (with_reducible repeat (first | apply Kd.V_alloc | apply Kd.V_drewN | apply Kd.V_drew)); exact HO544.out) hb)
                  have n5_ := Aside0.mk (Kd.N_below (by (with_reducible repeat (first | apply Kd.N_alloc | apply Kd.N_drewN | apply Kd.N_drew)); exact HO547.out) hb)
                  have n6_ := Aside0.mk (Kd.V_below (by (with_reducible repeat (first | apply Kd.V_alloc | apply Kd.V_drewN | apply Kd.V_drew)); exact HO550.out) hb)
                  have n7_ := Aside0.mk (Kd.V_below (by (with_reducible repeat (first | apply Kd.V_alloc | apply Kd.V_drewN | apply Kd.V_drew)); exact HO553.out) hb)
                  have n8_ := Aside0.mk (Kd.V_below (by (with_reducible repeat (first | apply Kd.V_alloc | apply Kd.V_drewN | apply Kd.V_drew)); exact HO558.out) hb)
                  have n9_ := Aside0.mk (Kd.N_below (by (with_reducible repeat (first | apply Kd.N_alloc | apply Kd.N_drewN | apply Kd.N_drew)); exact HO561.out) hb)
                  have n10_ := Aside0.mk (Kd.V_below (by (with_reducible repeat (first | apply Kd.V_alloc | apply Kd.V_drewN | apply Kd.V_drew)); exact HO564.out) hb)
                  have n11_ := Aside0.mk (Kd.V_below (by (with_reducible repeat (first | apply Kd.V_alloc | apply Kd.V_drewN | apply Kd.V_drew)); exact HO567.out) hb)
                  have n12_ := Aside0.mk (Kd.V_below (by (with_reducible repeat (first | apply Kd.V_alloc | apply Kd.V_drewN | apply Kd.V_drew)); exact HO572.out) hb)
                  have n13_ := Aside0.mk (Kd.N_below (by (with_reducible repeat (first | apply Kd.N_alloc | apply Kd.N_drewN | apply Kd.N_drew)); exact HO575.out) hb)
                  have n14_ := Aside0.mk (Kd.V_lower (Kd.V_mono (ok' := fun k_ => k_ ≠ gb526) (Kd.R_V (Kd.R_bound ho0)) (fun k_ hk_ => (Kd.freshB (g := gb526) (o := .cells #[.int .i64 a2_0, .int .i64 a2_1, .int .i64 a2_2] 45 (0, 0)) (by (with_reducible repeat (first | refine blk_drewN ?_ _ | refine blk_drew ?_ | refine blk_alloc ?_ _)); exact BK526.out) k_ hk_.2.1))) (below_size (by repeat (first | (with_reducible first | exact HB.out | apply below_alloc | apply pw_below_drewN | apply below_drew1 | refine below_set ?_ GE526.out) | exact HB.out))))
                  have n15_ := Aside0.mk (blk_below (g := gb526) (o := .cells #[.int .i64 a2_0, .int .i64 a2_1, .int .i64 a2_2] 45 (0, 0)) (by (with_reducible repeat (first | refine blk_drewN ?_ _ | refine blk_drew ?_ | refine blk_alloc ?_ _)); exact BK526.out) hb)
                  have n16_ := Aside0.mk (below_step (by repeat (first | (with_reducible first | exact HB.out | apply below_alloc | apply pw_below_drewN | apply below_drew1 | refine below_set ?_ GE526.out) | exact HB.out)) hb)
                  clear HO529
                  clear HO533
                  clear HO536
                  clear HO541
                  clear HO544
                  clear HO547
                  clear HO550
                  clear HO553
                  clear HO558
                  clear HO561
                  clear HO564
                  clear HO567
                  clear HO572
                  clear HO575
                  clear BK526
                  clear HB
                  have HO529 := n0_
                  have HO533 := n1_
                  have HO536 := n2_
                  have HO541 := n3_
                  have HO544 := n4_
                  have HO547 := n5_
                  have HO550 := n6_
                  have HO553 := n7_
                  have HO558 := n8_
                  have HO561 := n9_
                  have HO564 := n10_
                  have HO567 := n11_
                  have HO572 := n12_
                  have HO575 := n13_
                  have HO578 := n14_
                  have BK526 := n15_
                  have HB := n16_
                  clear n0_ n1_ n2_ n3_ n4_ n5_ n6_ n7_ n8_ n9_ n10_ n11_ n12_ n13_ n14_ n15_ n16_
                  (try clear hb)
                  (try clear hb2)
                  (try clear hk)
                  (try clear hi)
                  (try clear ho0)
                  refine hK.out _ _ ⟨(blk_cell BK526.out 0).trans rfl, (blk_cell BK526.out 1).trans rfl, (blk_cell BK526.out 2).trans rfl⟩ (fun hHeld => ?_)
                  clear hK K
                  refine norm_ (a' := ?_) ?_ ?_
                  rotate_left
                  · show Act.put _ (some 59) _ = _
                    simp only [Act.put, List.setIfInBounds_toArray, List.set_cons_zero, List.set_cons_succ, i64_w, i32_w]
                    rfl
                  refine one_ (i := 5) (N := some 61) #[true, true, true, true, true, true, false, false, false, false, false, false] rfl rfl (one_of HT_.out (by kernel_rfl)) (by decide) (fun K hK => ?_)
                  refine goes_ Tryd.func25 (by kernel_rfl) rfl #[.agg #[.int .i64 a2_0, .int .i64 a2_1, .int .i64 a2_2]] (by rfl) rfl rfl (by (try simp only [List.map_toArray, List.map_cons, List.map_nil]); first | done | rfl | (simp only [List.length_drop, List.length_take]; rfl)) ?_
                  with_reducible refine (foretellkeep_env.calls a2_0 a2_1 a2_2 t579 _ A19.out).mono ?_
                  rintro e w72 ⟨v580, rfl, ho0, hb⟩
                  refine ⟨_, rfl, ?_⟩
                  have n0_ := Aside0.mk (Kd.V_below (by (with_reducible repeat (first | apply Kd.V_alloc | apply Kd.V_drewN | apply Kd.V_drew)); exact HO529.out) hb)
                  have n1_ := Aside0.mk (Kd.V_below (by (with_reducible repeat (first | apply Kd.V_alloc | apply Kd.V_drewN | apply Kd.V_drew)); exact HO533.out) hb)
                  have n2_ := Aside0.mk (Kd.V_below (by (with_reducible repeat (first | apply Kd.V_alloc | apply Kd.V_drewN | apply Kd.V_drew)); exact HO536.out) hb)
                  have n3_ := Aside0.mk (Kd.N_below (by (with_reducible repeat (first | apply Kd.N_alloc | apply Kd.N_drewN | apply Kd.N_drew)); exact HO541.out) hb)
                  have n4_ := Aside0.mk (Kd.V_below (by (with_reducible repeat (first | apply Kd.V_alloc | apply Kd.V_drewN | apply Kd.V_drew)); exact HO544.out) hb)
                  have n5_ := Aside0.mk (Kd.N_below (by (with_reducible repeat (first | apply Kd.N_alloc | apply Kd.N_drewN | apply Kd.N_drew)); exact HO547.out) hb)
                  have n6_ := Aside0.mk (Kd.V_below (by (with_reducible repeat (first | apply Kd.V_alloc | apply Kd.V_drewN | apply Kd.V_drew)); exact HO550.out) hb)
                  have n7_ := Aside0.mk (Kd.V_below (by (with_reducible repeat (first | apply Kd.V_alloc | apply Kd.V_drewN | apply Kd.V_drew)); exact HO553.out) hb)
                  have n8_ := Aside0.mk (Kd.V_below (by (with_reducible repeat (first | apply Kd.V_alloc | apply Kd.V_drewN | apply Kd.V_drew)); exact HO558.out) hb)
                  have n9_ := Aside0.mk (Kd.N_below (by (with_reducible repeat (first | apply Kd.N_alloc | apply Kd.N_drewN | apply Kd.N_drew)); exact HO561.out) hb)
                  have n10_ := Aside0.mk (Kd.V_below (by (with_reducible repeat (first | apply Kd.V_alloc | apply Kd.V_drewN | apply Kd.V_drew)); exact HO564.out) hb)
                  have n11_ := Aside0.mk (Kd.V_below (by (with_reducible repeat (first | apply Kd.V_alloc | apply Kd.V_drewN | apply Kd.V_drew)); exact HO567.out) hb)
                  have n12_ := Aside0.mk (Kd.V_below (by (with_reducible repeat (first | apply Kd.V_alloc | apply Kd.V_drewN | apply Kd.V_drew)); exact HO572.out) hb)
                  have n13_ := Aside0.mk (Kd.N_below (by (with_reducible repeat (first | apply Kd.N_alloc | apply Kd.N_drewN | apply Kd.N_drew)); exact HO575.out) hb)
                  have n14_ := Aside0.mk (Kd.V_below (by (with_reducible repeat (first | apply Kd.V_alloc | apply Kd.V_drewN | apply Kd.V_drew)); exact HO578.out) hb)
                  have n15_ := Aside0.mk (Kd.V_lower (Kd.V_mono (ok' := fun k_ => k_ ≠ gb526) (Kd.R_V (Kd.R_bound ho0)) (fun k_ hk_ => (Kd.freshB (g := gb526) (o := .cells #[.int .i64 a2_0, .int .i64 a2_1, .int .i64 a2_2] 45 (0, 0)) (by (with_reducible repeat (first | refine blk_drewN ?_ _ | refine blk_drew ?_ | refine blk_alloc ?_ _)); exact BK526.out) k_ hk_.2.1))) (below_size (by repeat (first | (with_reducible first | exact HB.out | apply below_alloc | apply pw_below_drewN | apply below_drew1 | refine below_set ?_ GE526.out) | exact HB.out))))
                  have n16_ := Aside0.mk (blk_below (g := gb526) (o := .cells #[.int .i64 a2_0, .int .i64 a2_1, .int .i64 a2_2] 45 (0, 0)) (by (with_reducible repeat (first | refine blk_drewN ?_ _ | refine blk_drew ?_ | refine blk_alloc ?_ _)); exact BK526.out) hb)
                  have n17_ := Aside0.mk (below_step (by repeat (first | (with_reducible first | exact HB.out | apply below_alloc | apply pw_below_drewN | apply below_drew1 | refine below_set ?_ GE526.out) | exact HB.out)) hb)
                  clear HO529
                  clear HO533
                  clear HO536
                  clear HO541
                  clear HO544
                  clear HO547
                  clear HO550
                  clear HO553
                  clear HO558
                  clear HO561
                  clear HO564
                  clear HO567
                  clear HO572
                  clear HO575
                  clear HO578
                  clear BK526
                  clear HB
                  have HO529 := n0_
                  have HO533 := n1_
                  have HO536 := n2_
                  have HO541 := n3_
                  have HO544 := n4_
                  have HO547 := n5_
                  have HO550 := n6_
                  have HO553 := n7_
                  have HO558 := n8_
                  have HO561 := n9_
                  have HO564 := n10_
                  have HO567 := n11_
                  have HO572 := n12_
                  have HO575 := n13_
                  have HO578 := n14_
                  have HO581 := n15_
                  have BK526 := n16_
                  have HB := n17_
                  clear n0_ n1_ n2_ n3_ n4_ n5_ n6_ n7_ n8_ n9_ n10_ n11_ n12_ n13_ n14_ n15_ n16_ n17_
                  (try clear hb)
                  (try clear hb2)
                  (try clear hk)
                  (try clear hi)
                  (try clear ho0)
                  obtain ⟨Ao73, co73, eo73⟩ := Kd.V_slice HO578.out
                  (first | subst eo73 | (injection eo73 with f1_ f2_ f3_; have f4_ := f1_.symm; have f5_ := f3_.symm; clear f1_ f2_ f3_; subst f4_; subst f5_))
                  obtain ⟨Ao74, co74, eo74⟩ := Kd.V_slice HO581.out
                  (first | subst eo74 | (injection eo74 with f1_ f2_ f3_; have f4_ := f1_.symm; have f5_ := f3_.symm; clear f1_ f2_ f3_; subst f4_; subst f5_))
                  refine hK.out _ _ ⟨(blk_cell BK526.out 0).trans rfl, (blk_cell BK526.out 1).trans rfl, (blk_cell BK526.out 2).trans rfl⟩ (fun hHeld => ?_)
                  clear hK K
                  refine norm_ (a' := ?_) ?_ ?_
                  rotate_left
                  · show Act.put _ (some 61) _ = _
                    simp only [Act.put, List.setIfInBounds_toArray, List.set_cons_zero, List.set_cons_succ, i64_w, i32_w]
                    rfl
                  refine one_ (i := 6) (N := some 62) #[true, true, true, true, true, true, true, false, false, false, false, false] rfl rfl (one_of HT_.out (by kernel_rfl)) (by decide) (fun K hK => ?_)
                  refine goes_ Tryd.func24 (by kernel_rfl) rfl #[.slice Ao73 t576.length co73, .slice Ao74 t579.length co74] (by rfl) rfl rfl (by (try simp only [List.map_toArray, List.map_cons, List.map_nil]); first | done | rfl | (simp only [List.length_drop, List.length_take]; rfl)) ?_
                  with_reducible refine (expr_Eval.calls k _ _ t576 _ _ t579 t582 t583 _ ?side1 ?side2 ?side3 ?side4 ?side5 A20.out).mono ?_
                  (case side1 => repeat (first | exact (Kd.V_reads' HO578.out).2.2 | (with_reducible refine Kd.C_alloc ?_ _) | (with_reducible refine Kd.C_drewN ?_ _) | (with_reducible refine Kd.C_drew ?_)))
                  (case side2 => exact (Kd.V_reads' HO578.out).2.1)
                  (case side3 => repeat (first | exact (Kd.V_reads' HO581.out).2.2 | (with_reducible refine Kd.C_alloc ?_ _) | (with_reducible refine Kd.C_drewN ?_ _) | (with_reducible refine Kd.C_drew ?_)))
                  (case side4 => exact (Kd.V_reads' HO581.out).2.1)
                  (case side5 => first | exact hG_ | exact Glob.drewN hG_ _ | exact Glob.below hG_ (by repeat (first | (with_reducible first | exact HB.out | apply below_alloc | apply pw_below_drewN | apply below_drew1 | refine below_set ?_ GE526.out) | exact HB.out)))
                  rintro e w75 ⟨rfl, hb⟩
                  refine ⟨_, rfl, ?_⟩
                  have n0_ := Aside0.mk (Kd.V_below (by (with_reducible repeat (first | apply Kd.V_alloc | apply Kd.V_drewN | apply Kd.V_drew)); exact HO529.out) hb)
                  have n1_ := Aside0.mk (Kd.V_below (by (with_reducible repeat (first | apply Kd.V_alloc | apply Kd.V_drewN | apply Kd.V_drew)); exact HO533.out) hb)
                  have n2_ := Aside0.mk (Kd.V_below (by (with_reducible repeat (first | apply Kd.V_alloc | apply Kd.V_drewN | apply Kd.V_drew)); exact HO536.out) hb)
                  have n3_ := Aside0.mk (Kd.N_below (by (with_reducible repeat (first | apply Kd.N_alloc | apply Kd.N_drewN | apply Kd.N_drew)); exact HO541.out) hb)
                  have n4_ := Aside0.mk (Kd.V_below (by (with_reducible repeat (first | apply Kd.V_alloc | apply Kd.V_drewN | apply Kd.V_drew)); exact HO544.out) hb)
                  have n5_ := Aside0.mk (Kd.N_below (by (with_reducible repeat (first | apply Kd.N_alloc | apply Kd.N_drewN | apply Kd.N_drew)); exact HO547.out) hb)
                  have n6_ := Aside0.mk (Kd.V_below (by (with_reducible repeat (first | apply Kd.V_alloc | apply Kd.V_drewN | apply Kd.V_drew)); exact HO550.out) hb)
                  have n7_ := Aside0.mk (Kd.V_below (by (with_reducible repeat (first | apply Kd.V_alloc | apply Kd.V_drewN | apply Kd.V_drew)); exact HO553.out) hb)
                  have n8_ := Aside0.mk (Kd.V_below (by (with_reducible repeat (first | apply Kd.V_alloc | apply Kd.V_drewN | apply Kd.V_drew)); exact HO558.out) hb)
                  have n9_ := Aside0.mk (Kd.N_below (by (with_reducible repeat (first | apply Kd.N_alloc | apply Kd.N_drewN | apply Kd.N_drew)); exact HO561.out) hb)
                  have n10_ := Aside0.mk (Kd.V_below (by (with_reducible repeat (first | apply Kd.V_alloc | apply Kd.V_drewN | apply Kd.V_drew)); exact HO564.out) hb)
                  have n11_ := Aside0.mk (Kd.V_below (by (with_reducible repeat (first | apply Kd.V_alloc | apply Kd.V_drewN | apply Kd.V_drew)); exact HO567.out) hb)
                  have n12_ := Aside0.mk (Kd.V_below (by (with_reducible repeat (first | apply Kd.V_alloc | apply Kd.V_drewN | apply Kd.V_drew)); exact HO572.out) hb)
                  have n13_ := Aside0.mk (Kd.N_below (by (with_reducible repeat (first | apply Kd.N_alloc | apply Kd.N_drewN | apply Kd.N_drew)); exact HO575.out) hb)
                  have n14_ := Aside0.mk (Kd.V_below (by (with_reducible repeat (first | apply Kd.V_alloc | apply Kd.V_drewN | apply Kd.V_drew)); exact HO578.out) hb)
                  have n15_ := Aside0.mk (Kd.V_below (by (with_reducible repeat (first | apply Kd.V_alloc | apply Kd.V_drewN | apply Kd.V_drew)); exact HO581.out) hb)
                  have n16_ := Aside0.mk (blk_below (g := gb526) (o := .cells #[.int .i64 a2_0, .int .i64 a2_1, .int .i64 a2_2] 45 (0, 0)) (by (with_reducible repeat (first | refine blk_drewN ?_ _ | refine blk_drew ?_ | refine blk_alloc ?_ _)); exact BK526.out) hb)
                  have n17_ := Aside0.mk (below_step (by repeat (first | (with_reducible first | exact HB.out | apply below_alloc | apply pw_below_drewN | apply below_drew1 | refine below_set ?_ GE526.out) | exact HB.out)) hb)
                  clear HO529
                  clear HO533
                  clear HO536
                  clear HO541
                  clear HO544
                  clear HO547
                  clear HO550
                  clear HO553
                  clear HO558
                  clear HO561
                  clear HO564
                  clear HO567
                  clear HO572
                  clear HO575
                  clear HO578
                  clear HO581
                  clear BK526
                  clear HB
                  have HO529 := n0_
                  have HO533 := n1_
                  have HO536 := n2_
                  have HO541 := n3_
                  have HO544 := n4_
                  have HO547 := n5_
                  have HO550 := n6_
                  have HO553 := n7_
                  have HO558 := n8_
                  have HO561 := n9_
                  have HO564 := n10_
                  have HO567 := n11_
                  have HO572 := n12_
                  have HO575 := n13_
                  have HO578 := n14_
                  have HO581 := n15_
                  have BK526 := n16_
                  have HB := n17_
                  clear n0_ n1_ n2_ n3_ n4_ n5_ n6_ n7_ n8_ n9_ n10_ n11_ n12_ n13_ n14_ n15_ n16_ n17_
                  (try clear hb)
                  (try clear hb2)
                  (try clear hk)
                  (try clear hi)
                  refine hK.out _ _ ⟨(blk_cell BK526.out 0).trans rfl, (blk_cell BK526.out 1).trans rfl, (blk_cell BK526.out 2).trans rfl⟩ (fun hHeld => ?_)
                  clear hK K
                  refine norm_ (a' := ?_) ?_ ?_
                  rotate_left
                  · show Act.put _ (some 62) _ = _
                    simp only [Act.put, List.setIfInBounds_toArray, List.set_cons_zero, List.set_cons_succ, i64_w, i32_w]
                    rfl
                  refine pure_ (i := 7) (N := some 55) (v := ?_) (a' := ?_) #[true, true, true, true, true, true, true, true, false, false, false, false] rfl rfl (any_of HT_.out (by kernel_rfl)) (fun _ _ _ h => h) (Or.inl ⟨by rfl, ?_⟩) ?_ ?_
                  rotate_left
                  · intro w'
                    go_simp
                    with_reducible rfl
                  rotate_left
                  · simp only [Act.put, List.setIfInBounds_toArray, List.set_cons_zero, List.set_cons_succ, i64_w, i32_w]
                    rfl
                  refine pure_ (i := 8) (N := some 63) (v := ?_) (a' := ?_) #[true, true, true, true, true, true, true, true, true, false, false, false] rfl rfl (any_of HT_.out (by kernel_rfl)) (fun _ _ _ h => h) (Or.inl ⟨by rfl, ?_⟩) ?_ ?_
                  rotate_left
                  · intro w'
                    go_simp
                    with_reducible rfl
                  rotate_left
                  · simp only [Act.put, List.setIfInBounds_toArray, List.set_cons_zero, List.set_cons_succ, i64_w, i32_w]
                    rfl
                  refine pure_ (i := 9) (N := some 64) (v := ?_) (a' := ?_) #[true, true, true, true, true, true, true, true, true, true, false, false] rfl rfl (any_of HT_.out (by kernel_rfl)) (fun _ _ _ h => h) (Or.inl ⟨by rfl, ?_⟩) ?_ ?_
                  rotate_left
                  · intro w'
                    go_simp
                    with_reducible rfl
                  rotate_left
                  · simp only [Act.put, List.setIfInBounds_toArray, List.set_cons_zero, List.set_cons_succ, i64_w, i32_w]
                    rfl
                  refine pure_ (i := 10) (N := some 15) (v := ?_) (a' := ?_) #[true, true, true, true, true, true, true, true, true, true, true, false] rfl rfl (any_of HT_.out (by kernel_rfl)) (fun _ _ _ h => h) (Or.inl ⟨by rfl, ?_⟩) ?_ ?_
                  rotate_left
                  · intro w'
                    go_simp
                    with_reducible rfl
                  rotate_left
                  · simp only [Act.put, List.setIfInBounds_toArray, List.set_cons_zero, List.set_cons_succ, i64_w, i32_w]
                    rfl
                  refine pure_ (i := 11) (N := some 16) (v := ?_) (a' := ?_) #[true, true, true, true, true, true, true, true, true, true, true, true] rfl rfl (any_of HT_.out (by kernel_rfl)) (fun _ _ _ h => h) (Or.inl ⟨by rfl, ?_⟩) ?_ ?_
                  rotate_left
                  · intro w'
                    go_simp
                    with_reducible rfl
                  rotate_left
                  · simp only [Act.put, List.setIfInBounds_toArray, List.set_cons_zero, List.set_cons_succ, i64_w, i32_w]
                    rfl
                  refine done_ (done_of HT_.out (by kernel_rfl)) ?_
                  try go_wp2_with (first | ((with_reducible refine gate_callee (f := 24) rfl ?_); refine goesL_ (some 67) rfl rfl Tryd.func24 (by kernel_rfl) rfl #[.slice Ao39 t531.length co39, .slice none 0 0] rfl (by (try simp only [List.map_toArray, List.map_cons, List.map_nil]); first | done | rfl | (simp only [List.length_drop, List.length_take]; rfl)) ?_; (refine (expr_Eval.calls k _ _ t531 _ _ ([] : List Int) t584 t585 _ ?side1 ?side2 ?side3 ?side4 ?side5 A21.out).mono ?_); (case side1 => repeat (first | exact (Kd.V_reads' HO533.out).2.2 | (with_reducible refine Kd.C_alloc ?_ _) | (with_reducible refine Kd.C_drewN ?_ _) | (with_reducible refine Kd.C_drew ?_))); (case side2 => exact (Kd.V_reads' HO533.out).2.1); (case side3 => exact Kd.C_nil _ _); (case side4 => exact Nat.le_refl _); (case side5 => first | exact hG_ | exact Glob.drewN hG_ _ | exact Glob.below hG_ (by repeat (first | (with_reducible first | exact HB.out | apply below_alloc | apply pw_below_drewN | apply below_drew1 | refine below_set ?_ GE526.out) | exact HB.out))); rintro e w76 ⟨rfl, hb⟩; refine ⟨_, rfl, ?_⟩; have n0_ := Aside0.mk (Kd.V_below (by (with_reducible repeat (first | apply Kd.V_alloc | apply Kd.V_drewN | apply Kd.V_drew)); exact HO529.out) hb); have n1_ := Aside0.mk (Kd.V_below (by (with_reducible repeat (first | apply Kd.V_alloc | apply Kd.V_drewN | apply Kd.V_drew)); exact HO533.out) hb); have n2_ := Aside0.mk (Kd.V_below (by (with_reducible repeat (first | apply Kd.V_alloc | apply Kd.V_drewN | apply Kd.V_drew)); exact HO536.out) hb); have n3_ := Aside0.mk (Kd.N_below (by (with_reducible repeat (first | apply Kd.N_alloc | apply Kd.N_drewN | apply Kd.N_drew)); exact HO541.out) hb); have n4_ := Aside0.mk (Kd.V_below (by (with_reducible repeat (first | apply Kd.V_alloc | apply Kd.V_drewN | apply Kd.V_drew)); exact HO544.out) hb); have n5_ := Aside0.mk (Kd.N_below (by (with_reducible repeat (first | apply Kd.N_alloc | apply Kd.N_drewN | apply Kd.N_drew)); exact HO547.out) hb); have n6_ := Aside0.mk (Kd.V_below (by (with_reducible repeat (first | apply Kd.V_alloc | apply Kd.V_drewN | apply Kd.V_drew)); exact HO550.out) hb); have n7_ := Aside0.mk (Kd.V_below (by (with_reducible repeat (first | apply Kd.V_alloc | apply Kd.V_drewN | apply Kd.V_drew)); exact HO553.out) hb); have n8_ := Aside0.mk (Kd.V_below (by (with_reducible repeat (first | apply Kd.V_alloc | apply Kd.V_drewN | apply Kd.V_drew)); exact HO558.out) hb); have n9_ := Aside0.mk (Kd.N_below (by (with_reducible repeat (first | apply Kd.N_alloc | apply Kd.N_drewN | apply Kd.N_drew)); exact HO561.out) hb); have n10_ := Aside0.mk (Kd.V_below (by (with_reducible repeat (first | apply Kd.V_alloc | apply Kd.V_drewN | apply Kd.V_drew)); exact HO564.out) hb); have n11_ := Aside0.mk (Kd.V_below (by (with_reducible repeat (first | apply Kd.V_alloc | apply Kd.V_drewN | apply Kd.V_drew)); exact HO567.out) hb); have n12_ := Aside0.mk (Kd.V_below (by (with_reducible repeat (first | apply Kd.V_alloc | apply Kd.V_drewN | apply Kd.V_drew)); exact HO572.out) hb); have n13_ := Aside0.mk (Kd.N_below (by (with_reducible repeat (first | apply Kd.N_alloc | apply Kd.N_drewN | apply Kd.N_drew)); exact HO575.out) hb); have n14_ := Aside0.mk (Kd.V_below (by (with_reducible repeat (first | apply Kd.V_alloc | apply Kd.V_drewN | apply Kd.V_drew)); exact HO578.out) hb); have n15_ := Aside0.mk (Kd.V_below (by (with_reducible repeat (first | apply Kd.V_alloc | apply Kd.V_drewN | apply Kd.V_drew)); exact HO581.out) hb); have n16_ := Aside0.mk (blk_below (g := gb526) (o := .cells #[.int .i64 a2_0, .int .i64 a2_1, .int .i64 a2_2] 45 (0, 0)) (by (with_reducible repeat (first | refine blk_drewN ?_ _ | refine blk_drew ?_ | refine blk_alloc ?_ _)); exact BK526.out) hb); have n17_ := Aside0.mk (below_step (by repeat (first | (with_reducible first | exact HB.out | apply below_alloc | apply pw_below_drewN | apply below_drew1 | refine below_set ?_ GE526.out) | exact HB.out)) hb); clear HO529; clear HO533; clear HO536; clear HO541; clear HO544; clear HO547; clear HO550; clear HO553; clear HO558; clear HO561; clear HO564; clear HO567; clear HO572; clear HO575; clear HO578; clear HO581; clear BK526; clear HB; have HO529 := n0_; have HO533 := n1_; have HO536 := n2_; have HO541 := n3_; have HO544 := n4_; have HO547 := n5_; have HO550 := n6_; have HO553 := n7_; have HO558 := n8_; have HO561 := n9_; have HO564 := n10_; have HO567 := n11_; have HO572 := n12_; have HO575 := n13_; have HO578 := n14_; have HO581 := n15_; have BK526 := n16_; have HB := n17_; clear n0_ n1_ n2_ n3_ n4_ n5_ n6_ n7_ n8_ n9_ n10_ n11_ n12_ n13_ n14_ n15_ n16_ n17_; (try clear hb); (try clear hb2); (try clear hk); (try clear hi)) | (go_at_call 16; (with_reducible refine (foretellkeep_picked.calls a1 2001 t586 _ A30.out).mono ?_); rintro e w' ⟨rfl, ⟨nd, rfl⟩⟩))
                  go_ret
                  exact ⟨by first | rfl | (simp [errW_none, errW_some] <;> rfl) | (simp [*, errW_none, errW_some] <;> rfl), by repeat (first | (with_reducible first | exact HB.out | apply below_alloc | apply pw_below_drewN | apply below_drew1 | refine below_set ?_ GE526.out) | exact HB.out)⟩
                · rw [if_neg c29] at H
                  exact absurd ((Option.some.inj H).trans hr_.out) (by decide)
              · rw [if_neg c28] at H
                exact absurd ((Option.some.inj H).trans hr_.out) (by decide)
            · rw [if_neg c27] at H
              exact absurd ((Option.some.inj H).trans hr_.out) (by decide)
          · rw [if_neg c26] at H
            exact absurd ((Option.some.inj H).trans hr_.out) (by decide)
        · rw [if_neg c25] at H
          exact absurd ((Option.some.inj H).trans hr_.out) (by decide)
      · rw [if_neg c24] at H
        exact absurd ((Option.some.inj H).trans hr_.out) (by decide)
    · rw [if_neg c23] at H
      exact absurd ((Option.some.inj H).trans hr_.out) (by decide)
  · rw [if_neg c22] at H
    exact absurd ((Option.some.inj H).trans hr_.out) (by decide)

end Go.Proofs.YtlejdidngmjicaaDoor.P
