-- a walk, laid out by a program of this repo over the seat's translation
import Derived.Test.YtlejdidngmjicaaDoorF0
import Derived.Test.YtlejdidngmjicaaDoorFForetellkeepTruth
import Derived.Test.YtlejdidngmjicaaDoorFForetellkeepJoined
import Derived.Test.YtlejdidngmjicaaDoorFExprEval
import Derived.Test.YtlejdidngmjicaaDoorFForetellkeepEnv
namespace Go.Proofs.YtlejdidngmjicaaDoor.P
open Go.RowKit Go.Proofs.YtlejdidngmjicaaDoorW.PrintWords Go.Proofs.YtlejdidngmjicaaDoorW.PrintLast Go.Proofs.YtlejdidngmjicaaDoorW.PrintMore Go.Proofs.YtlejdidngmjicaaDoor.G
attribute [local go_sem] max2_int min2_int max_two min_two max_three min_three max_four min_four   -- for this text's walks alone
set_option linter.unusedVariables false
set_option linter.unusedSimpArgs false

/-! ### foretellkeep_EvalOver: function 11 -/
def foretellkeep_EvalOver.f (k : Nat) (l0 : List (S69)) (a1_0 : Int) (a1_1 : Int) (a1_2 : Int) : Option (Bool) := (foretellkeep_Truth.f k l0 3).bind fun t460 => ((foretellkeep_joined.f k 5 (([(([(⟨1, 1000⟩ : S32)] : List (S32))), (([(⟨1, 1000⟩ : S32)] : List (S32)))] : List (List (S32))))).bind fun t472 => ((foretellkeep_joined.f k 5 (([t472, (([(⟨1, 2⟩ : S32)] : List (S32)))] : List (List (S32))))).bind fun t481 => ((foretellkeep_joined.f k 7 (([t481, t481] : List (List (S32))))).bind fun t487 => ((foretellkeep_joined.f k 9 (([t460, t487] : List (List (S32))))).bind fun t493 => ((foretellkeep_env.f a1_0 a1_1 a1_2).bind fun t496 => ((expr_Eval.f k t493 t496).bind fun bt499 => ((foretellkeep_joined.f k 7 (([t481, t481] : List (List (S32))))).bind fun t504 => ((foretellkeep_joined.f k 9 (([t504, t460] : List (List (S32))))).bind fun t510 => ((foretellkeep_env.f a1_0 a1_1 a1_2).bind fun t513 => ((expr_Eval.f k t510 t513).bind fun bt516 => ((foretellkeep_env.f a1_0 a1_1 a1_2).bind fun t518 => ((expr_Eval.f k t460 t518).bind fun bt521 => (if bt499.2 = 8 then (if bt516.2 = 8 then (some (bt521.2 == 0)) else (some false)) else (some false))))))))))))))
theorem foretellkeep_EvalOver.mono : ∀ a0 a1 a2 a3 k, LeO (foretellkeep_EvalOver.f k a0 a1 a2 a3) (foretellkeep_EvalOver.f (k + 1) a0 a1 a2 a3) := by
  intro a0 a1 a2 a3 k
  unfold foretellkeep_EvalOver.f
  repeat' first
      | (with_reducible exact expr_Eval.mono _ _ _)
      | (with_reducible exact foretellkeep_Truth.mono _ _ _)
      | (with_reducible exact foretellkeep_joined.mono _ _ _)
      | (with_reducible exact LeO.refl _)
      | (with_reducible exact LeO.none _)
      | (with_reducible refine LeO.ite ?_ ?_)
      | (with_reducible refine LeO.bind ?_ (fun _ => ?_))
      | exact expr_Eval.mono _ _ _
      | exact foretellkeep_Truth.mono _ _ _
      | exact foretellkeep_joined.mono _ _ _
      | exact LeO.none _
      | refine LeO.ite ?_ ?_
      | refine LeO.bind ?_ (fun _ => ?_)
def foretellkeep_EvalOver.T3 : Bool × List (List Nat × List Nat) := (true, [([], []), ([], []), ([], []), ([1, 2], [1, 2]), ([3], [3]), ([0, 4], [0, 4]), ([5, 4], [5]), ([], []), ([7, 6], [7]), ([6, 8, 8], [6, 8]), ([9], [9]), ([10], [10]), ([10], [10]), ([11, 9, 0, 1, 2, 3, 4, 5, 6, 7, 8, 9, 10, 11], [11]), ([12, 13, 0, 1, 2, 3, 4, 5, 6, 7, 8, 9, 10, 11, 12, 13], [12])])
def foretellkeep_EvalOver.B3 : List Nat := [0, 0, 0, 6, 14, 31, 63, 0, 255, 511, 1023, 2047, 2047, 4095, 16383]
theorem foretellkeep_EvalOver.tab3 : rtab .any (opsOf Tryd.f11 3) = foretellkeep_EvalOver.T3 := by kernel_rfl
theorem foretellkeep_EvalOver.bits3 : waitsOk foretellkeep_EvalOver.T3.2 foretellkeep_EvalOver.B3 = true := by kernel_rfl
def foretellkeep_EvalOver.T4 : Bool × List (List Nat × List Nat) := (true, [([], []), ([], []), ([0, 1], [0, 1]), ([2], [2]), ([], []), ([3, 4], [3, 4]), ([5, 3], [5]), ([], []), ([7, 6], [7]), ([6, 8, 8], [6, 8]), ([9], [9]), ([10], [10]), ([10], [10]), ([11, 9, 0, 1, 2, 3, 4, 5, 6, 7, 8, 9, 10, 11], [11]), ([12, 13, 0, 1, 2, 3, 4, 5, 6, 7, 8, 9, 10, 11, 12, 13], [12])])
def foretellkeep_EvalOver.B4 : List Nat := [0, 0, 3, 7, 0, 31, 63, 0, 255, 511, 1023, 2047, 2047, 4095, 16383]
theorem foretellkeep_EvalOver.tab4 : rtab .any (opsOf Tryd.f11 4) = foretellkeep_EvalOver.T4 := by kernel_rfl
theorem foretellkeep_EvalOver.bits4 : waitsOk foretellkeep_EvalOver.T4.2 foretellkeep_EvalOver.B4 = true := by kernel_rfl
set_option maxHeartbeats 8000000 in
set_option maxRecDepth 100000 in
theorem foretellkeep_EvalOver.calls (k : Nat) (A0 : Option Addr) (c0 : Nat) (l0 : List (S69)) (a1_0 : Int) (a1_1 : Int) (a1_2 : Int) (r : Bool) (w : World) (hr0 : Kd.C k69 w A0 l0.length l0) (hc0 : l0.length ≤ c0) (hG_ : Glob w) (hr_ : Aside0 (r = true)) (h : foretellkeep_EvalOver.f k l0 a1_0 a1_1 a1_2 = some r) :
    Calls Tryd.prog 11 #[.slice A0 l0.length c0, .agg #[.int .i64 a1_0, .int .i64 a1_1, .int .i64 a1_2]] w fun e w' => e = .returned (.bool r) ∧ Below w.heap.size w w' := by
  have hu45 := Tryd.underlying45
  have hu32 := Tryd.underlying32
  have HR0 := Aside0.mk hr0
  have HC0 := Aside0.mk hc0
  clear hr0 hc0
  have HB := Aside0.mk (Below.refl w.heap.size w)
  have H : ((foretellkeep_Truth.f k l0 3).bind fun t460 => ((foretellkeep_joined.f k 5 (([(([(⟨1, 1000⟩ : S32)] : List (S32))), (([(⟨1, 1000⟩ : S32)] : List (S32)))] : List (List (S32))))).bind fun t472 => ((foretellkeep_joined.f k 5 (([t472, (([(⟨1, 2⟩ : S32)] : List (S32)))] : List (List (S32))))).bind fun t481 => ((foretellkeep_joined.f k 7 (([t481, t481] : List (List (S32))))).bind fun t487 => ((foretellkeep_joined.f k 9 (([t460, t487] : List (List (S32))))).bind fun t493 => ((foretellkeep_env.f a1_0 a1_1 a1_2).bind fun t496 => ((expr_Eval.f k t493 t496).bind fun bt499 => ((foretellkeep_joined.f k 7 (([t481, t481] : List (List (S32))))).bind fun t504 => ((foretellkeep_joined.f k 9 (([t504, t460] : List (List (S32))))).bind fun t510 => ((foretellkeep_env.f a1_0 a1_1 a1_2).bind fun t513 => ((expr_Eval.f k t510 t513).bind fun bt516 => ((foretellkeep_env.f a1_0 a1_1 a1_2).bind fun t518 => ((expr_Eval.f k t460 t518).bind fun bt521 => (if bt499.2 = 8 then (if bt516.2 = 8 then (some (bt521.2 == 0)) else (some false)) else (some false))))))))))))))) = some r := h
  clear h
  replace H := Option.bind_eq_some_iff.mp H
  obtain ⟨t460, A30, H⟩ := H
  replace H : ((foretellkeep_joined.f k 5 (([(([(⟨1, 1000⟩ : S32)] : List (S32))), (([(⟨1, 1000⟩ : S32)] : List (S32)))] : List (List (S32))))).bind fun t472 => ((foretellkeep_joined.f k 5 (([t472, (([(⟨1, 2⟩ : S32)] : List (S32)))] : List (List (S32))))).bind fun t481 => ((foretellkeep_joined.f k 7 (([t481, t481] : List (List (S32))))).bind fun t487 => ((foretellkeep_joined.f k 9 (([t460, t487] : List (List (S32))))).bind fun t493 => ((foretellkeep_env.f a1_0 a1_1 a1_2).bind fun t496 => ((expr_Eval.f k t493 t496).bind fun bt499 => ((foretellkeep_joined.f k 7 (([t481, t481] : List (List (S32))))).bind fun t504 => ((foretellkeep_joined.f k 9 (([t504, t460] : List (List (S32))))).bind fun t510 => ((foretellkeep_env.f a1_0 a1_1 a1_2).bind fun t513 => ((expr_Eval.f k t510 t513).bind fun bt516 => ((foretellkeep_env.f a1_0 a1_1 a1_2).bind fun t518 => ((expr_Eval.f k t460 t518).bind fun bt521 => (if bt499.2 = 8 then (if bt516.2 = 8 then (some (bt521.2 == 0)) else (some false)) else (some false)))))))))))))) = some r := H
  have A3 := Aside0.mk A30
  clear A30
  obtain ⟨y463, hy463⟩ : ∃ y_ : List (S32), y_ = (([(⟨1, 1000⟩ : S32)] : List (S32))) := ⟨_, rfl⟩
  replace H : ((foretellkeep_joined.f k 5 (([y463, (([(⟨1, 1000⟩ : S32)] : List (S32)))] : List (List (S32))))).bind fun t472 => ((foretellkeep_joined.f k 5 (([t472, (([(⟨1, 2⟩ : S32)] : List (S32)))] : List (List (S32))))).bind fun t481 => ((foretellkeep_joined.f k 7 (([t481, t481] : List (List (S32))))).bind fun t487 => ((foretellkeep_joined.f k 9 (([t460, t487] : List (List (S32))))).bind fun t493 => ((foretellkeep_env.f a1_0 a1_1 a1_2).bind fun t496 => ((expr_Eval.f k t493 t496).bind fun bt499 => ((foretellkeep_joined.f k 7 (([t481, t481] : List (List (S32))))).bind fun t504 => ((foretellkeep_joined.f k 9 (([t504, t460] : List (List (S32))))).bind fun t510 => ((foretellkeep_env.f a1_0 a1_1 a1_2).bind fun t513 => ((expr_Eval.f k t510 t513).bind fun bt516 => ((foretellkeep_env.f a1_0 a1_1 a1_2).bind fun t518 => ((expr_Eval.f k t460 t518).bind fun bt521 => (if bt499.2 = 8 then (if bt516.2 = 8 then (some (bt521.2 == 0)) else (some false)) else (some false)))))))))))))) = some r := by first | (rw [hy463]; with_reducible exact H) | (have H2_ := (Option.bind_some _ _).symm.trans H; rw [hy463]; with_reducible exact H2_) | (have H2_ := (Option.bind_some _ _).symm.trans H; with_reducible exact H2_) | with_reducible exact H | (rw [hy463]; exact H) | exact H
  have Ny463 := Aside0.mk hy463
  clear hy463
  obtain ⟨y466, hy466⟩ : ∃ y_ : List (S32), y_ = (([(⟨1, 1000⟩ : S32)] : List (S32))) := ⟨_, rfl⟩
  replace H : ((foretellkeep_joined.f k 5 (([y463, y466] : List (List (S32))))).bind fun t472 => ((foretellkeep_joined.f k 5 (([t472, (([(⟨1, 2⟩ : S32)] : List (S32)))] : List (List (S32))))).bind fun t481 => ((foretellkeep_joined.f k 7 (([t481, t481] : List (List (S32))))).bind fun t487 => ((foretellkeep_joined.f k 9 (([t460, t487] : List (List (S32))))).bind fun t493 => ((foretellkeep_env.f a1_0 a1_1 a1_2).bind fun t496 => ((expr_Eval.f k t493 t496).bind fun bt499 => ((foretellkeep_joined.f k 7 (([t481, t481] : List (List (S32))))).bind fun t504 => ((foretellkeep_joined.f k 9 (([t504, t460] : List (List (S32))))).bind fun t510 => ((foretellkeep_env.f a1_0 a1_1 a1_2).bind fun t513 => ((expr_Eval.f k t510 t513).bind fun bt516 => ((foretellkeep_env.f a1_0 a1_1 a1_2).bind fun t518 => ((expr_Eval.f k t460 t518).bind fun bt521 => (if bt499.2 = 8 then (if bt516.2 = 8 then (some (bt521.2 == 0)) else (some false)) else (some false)))))))))))))) = some r := by first | (rw [hy466]; with_reducible exact H) | (have H2_ := (Option.bind_some _ _).symm.trans H; rw [hy466]; with_reducible exact H2_) | (have H2_ := (Option.bind_some _ _).symm.trans H; with_reducible exact H2_) | with_reducible exact H | (rw [hy466]; exact H) | exact H
  have Ny466 := Aside0.mk hy466
  clear hy466
  obtain ⟨y469, hy469⟩ : ∃ y_ : List (List (S32)), y_ = (([y463, y466] : List (List (S32)))) := ⟨_, rfl⟩
  replace H : ((foretellkeep_joined.f k 5 y469).bind fun t472 => ((foretellkeep_joined.f k 5 (([t472, (([(⟨1, 2⟩ : S32)] : List (S32)))] : List (List (S32))))).bind fun t481 => ((foretellkeep_joined.f k 7 (([t481, t481] : List (List (S32))))).bind fun t487 => ((foretellkeep_joined.f k 9 (([t460, t487] : List (List (S32))))).bind fun t493 => ((foretellkeep_env.f a1_0 a1_1 a1_2).bind fun t496 => ((expr_Eval.f k t493 t496).bind fun bt499 => ((foretellkeep_joined.f k 7 (([t481, t481] : List (List (S32))))).bind fun t504 => ((foretellkeep_joined.f k 9 (([t504, t460] : List (List (S32))))).bind fun t510 => ((foretellkeep_env.f a1_0 a1_1 a1_2).bind fun t513 => ((expr_Eval.f k t510 t513).bind fun bt516 => ((foretellkeep_env.f a1_0 a1_1 a1_2).bind fun t518 => ((expr_Eval.f k t460 t518).bind fun bt521 => (if bt499.2 = 8 then (if bt516.2 = 8 then (some (bt521.2 == 0)) else (some false)) else (some false)))))))))))))) = some r := by first | (rw [hy469]; with_reducible exact H) | (have H2_ := (Option.bind_some _ _).symm.trans H; rw [hy469]; with_reducible exact H2_) | (have H2_ := (Option.bind_some _ _).symm.trans H; with_reducible exact H2_) | with_reducible exact H | (rw [hy469]; exact H) | exact H
  have Ny469 := Aside0.mk hy469
  clear hy469
  replace H := Option.bind_eq_some_iff.mp H
  obtain ⟨t472, A40, H⟩ := H
  replace H : ((foretellkeep_joined.f k 5 (([t472, (([(⟨1, 2⟩ : S32)] : List (S32)))] : List (List (S32))))).bind fun t481 => ((foretellkeep_joined.f k 7 (([t481, t481] : List (List (S32))))).bind fun t487 => ((foretellkeep_joined.f k 9 (([t460, t487] : List (List (S32))))).bind fun t493 => ((foretellkeep_env.f a1_0 a1_1 a1_2).bind fun t496 => ((expr_Eval.f k t493 t496).bind fun bt499 => ((foretellkeep_joined.f k 7 (([t481, t481] : List (List (S32))))).bind fun t504 => ((foretellkeep_joined.f k 9 (([t504, t460] : List (List (S32))))).bind fun t510 => ((foretellkeep_env.f a1_0 a1_1 a1_2).bind fun t513 => ((expr_Eval.f k t510 t513).bind fun bt516 => ((foretellkeep_env.f a1_0 a1_1 a1_2).bind fun t518 => ((expr_Eval.f k t460 t518).bind fun bt521 => (if bt499.2 = 8 then (if bt516.2 = 8 then (some (bt521.2 == 0)) else (some false)) else (some false))))))))))))) = some r := H
  have A4 := Aside0.mk A40
  clear A40
  obtain ⟨y475, hy475⟩ : ∃ y_ : List (S32), y_ = (([(⟨1, 2⟩ : S32)] : List (S32))) := ⟨_, rfl⟩
  replace H : ((foretellkeep_joined.f k 5 (([t472, y475] : List (List (S32))))).bind fun t481 => ((foretellkeep_joined.f k 7 (([t481, t481] : List (List (S32))))).bind fun t487 => ((foretellkeep_joined.f k 9 (([t460, t487] : List (List (S32))))).bind fun t493 => ((foretellkeep_env.f a1_0 a1_1 a1_2).bind fun t496 => ((expr_Eval.f k t493 t496).bind fun bt499 => ((foretellkeep_joined.f k 7 (([t481, t481] : List (List (S32))))).bind fun t504 => ((foretellkeep_joined.f k 9 (([t504, t460] : List (List (S32))))).bind fun t510 => ((foretellkeep_env.f a1_0 a1_1 a1_2).bind fun t513 => ((expr_Eval.f k t510 t513).bind fun bt516 => ((foretellkeep_env.f a1_0 a1_1 a1_2).bind fun t518 => ((expr_Eval.f k t460 t518).bind fun bt521 => (if bt499.2 = 8 then (if bt516.2 = 8 then (some (bt521.2 == 0)) else (some false)) else (some false))))))))))))) = some r := by first | (rw [hy475]; with_reducible exact H) | (have H2_ := (Option.bind_some _ _).symm.trans H; rw [hy475]; with_reducible exact H2_) | (have H2_ := (Option.bind_some _ _).symm.trans H; with_reducible exact H2_) | with_reducible exact H | (rw [hy475]; exact H) | exact H
  have Ny475 := Aside0.mk hy475
  clear hy475
  obtain ⟨y478, hy478⟩ : ∃ y_ : List (List (S32)), y_ = (([t472, y475] : List (List (S32)))) := ⟨_, rfl⟩
  replace H : ((foretellkeep_joined.f k 5 y478).bind fun t481 => ((foretellkeep_joined.f k 7 (([t481, t481] : List (List (S32))))).bind fun t487 => ((foretellkeep_joined.f k 9 (([t460, t487] : List (List (S32))))).bind fun t493 => ((foretellkeep_env.f a1_0 a1_1 a1_2).bind fun t496 => ((expr_Eval.f k t493 t496).bind fun bt499 => ((foretellkeep_joined.f k 7 (([t481, t481] : List (List (S32))))).bind fun t504 => ((foretellkeep_joined.f k 9 (([t504, t460] : List (List (S32))))).bind fun t510 => ((foretellkeep_env.f a1_0 a1_1 a1_2).bind fun t513 => ((expr_Eval.f k t510 t513).bind fun bt516 => ((foretellkeep_env.f a1_0 a1_1 a1_2).bind fun t518 => ((expr_Eval.f k t460 t518).bind fun bt521 => (if bt499.2 = 8 then (if bt516.2 = 8 then (some (bt521.2 == 0)) else (some false)) else (some false))))))))))))) = some r := by first | (rw [hy478]; with_reducible exact H) | (have H2_ := (Option.bind_some _ _).symm.trans H; rw [hy478]; with_reducible exact H2_) | (have H2_ := (Option.bind_some _ _).symm.trans H; with_reducible exact H2_) | with_reducible exact H | (rw [hy478]; exact H) | exact H
  have Ny478 := Aside0.mk hy478
  clear hy478
  replace H := Option.bind_eq_some_iff.mp H
  obtain ⟨t481, A50, H⟩ := H
  replace H : ((foretellkeep_joined.f k 7 (([t481, t481] : List (List (S32))))).bind fun t487 => ((foretellkeep_joined.f k 9 (([t460, t487] : List (List (S32))))).bind fun t493 => ((foretellkeep_env.f a1_0 a1_1 a1_2).bind fun t496 => ((expr_Eval.f k t493 t496).bind fun bt499 => ((foretellkeep_joined.f k 7 (([t481, t481] : List (List (S32))))).bind fun t504 => ((foretellkeep_joined.f k 9 (([t504, t460] : List (List (S32))))).bind fun t510 => ((foretellkeep_env.f a1_0 a1_1 a1_2).bind fun t513 => ((expr_Eval.f k t510 t513).bind fun bt516 => ((foretellkeep_env.f a1_0 a1_1 a1_2).bind fun t518 => ((expr_Eval.f k t460 t518).bind fun bt521 => (if bt499.2 = 8 then (if bt516.2 = 8 then (some (bt521.2 == 0)) else (some false)) else (some false)))))))))))) = some r := H
  have A5 := Aside0.mk A50
  clear A50
  obtain ⟨y484, hy484⟩ : ∃ y_ : List (List (S32)), y_ = (([t481, t481] : List (List (S32)))) := ⟨_, rfl⟩
  replace H : ((foretellkeep_joined.f k 7 y484).bind fun t487 => ((foretellkeep_joined.f k 9 (([t460, t487] : List (List (S32))))).bind fun t493 => ((foretellkeep_env.f a1_0 a1_1 a1_2).bind fun t496 => ((expr_Eval.f k t493 t496).bind fun bt499 => ((foretellkeep_joined.f k 7 (([t481, t481] : List (List (S32))))).bind fun t504 => ((foretellkeep_joined.f k 9 (([t504, t460] : List (List (S32))))).bind fun t510 => ((foretellkeep_env.f a1_0 a1_1 a1_2).bind fun t513 => ((expr_Eval.f k t510 t513).bind fun bt516 => ((foretellkeep_env.f a1_0 a1_1 a1_2).bind fun t518 => ((expr_Eval.f k t460 t518).bind fun bt521 => (if bt499.2 = 8 then (if bt516.2 = 8 then (some (bt521.2 == 0)) else (some false)) else (some false)))))))))))) = some r := by first | (rw [hy484]; with_reducible exact H) | (have H2_ := (Option.bind_some _ _).symm.trans H; rw [hy484]; with_reducible exact H2_) | (have H2_ := (Option.bind_some _ _).symm.trans H; with_reducible exact H2_) | with_reducible exact H | (rw [hy484]; exact H) | exact H
  have Ny484 := Aside0.mk hy484
  clear hy484
  replace H := Option.bind_eq_some_iff.mp H
  obtain ⟨t487, A60, H⟩ := H
  replace H : ((foretellkeep_joined.f k 9 (([t460, t487] : List (List (S32))))).bind fun t493 => ((foretellkeep_env.f a1_0 a1_1 a1_2).bind fun t496 => ((expr_Eval.f k t493 t496).bind fun bt499 => ((foretellkeep_joined.f k 7 (([t481, t481] : List (List (S32))))).bind fun t504 => ((foretellkeep_joined.f k 9 (([t504, t460] : List (List (S32))))).bind fun t510 => ((foretellkeep_env.f a1_0 a1_1 a1_2).bind fun t513 => ((expr_Eval.f k t510 t513).bind fun bt516 => ((foretellkeep_env.f a1_0 a1_1 a1_2).bind fun t518 => ((expr_Eval.f k t460 t518).bind fun bt521 => (if bt499.2 = 8 then (if bt516.2 = 8 then (some (bt521.2 == 0)) else (some false)) else (some false))))))))))) = some r := H
  have A6 := Aside0.mk A60
  clear A60
  obtain ⟨y490, hy490⟩ : ∃ y_ : List (List (S32)), y_ = (([t460, t487] : List (List (S32)))) := ⟨_, rfl⟩
  replace H : ((foretellkeep_joined.f k 9 y490).bind fun t493 => ((foretellkeep_env.f a1_0 a1_1 a1_2).bind fun t496 => ((expr_Eval.f k t493 t496).bind fun bt499 => ((foretellkeep_joined.f k 7 (([t481, t481] : List (List (S32))))).bind fun t504 => ((foretellkeep_joined.f k 9 (([t504, t460] : List (List (S32))))).bind fun t510 => ((foretellkeep_env.f a1_0 a1_1 a1_2).bind fun t513 => ((expr_Eval.f k t510 t513).bind fun bt516 => ((foretellkeep_env.f a1_0 a1_1 a1_2).bind fun t518 => ((expr_Eval.f k t460 t518).bind fun bt521 => (if bt499.2 = 8 then (if bt516.2 = 8 then (some (bt521.2 == 0)) else (some false)) else (some false))))))))))) = some r := by first | (rw [hy490]; with_reducible exact H) | (have H2_ := (Option.bind_some _ _).symm.trans H; rw [hy490]; with_reducible exact H2_) | (have H2_ := (Option.bind_some _ _).symm.trans H; with_reducible exact H2_) | with_reducible exact H | (rw [hy490]; exact H) | exact H
  have Ny490 := Aside0.mk hy490
  clear hy490
  replace H := Option.bind_eq_some_iff.mp H
  obtain ⟨t493, A70, H⟩ := H
  replace H : ((foretellkeep_env.f a1_0 a1_1 a1_2).bind fun t496 => ((expr_Eval.f k t493 t496).bind fun bt499 => ((foretellkeep_joined.f k 7 (([t481, t481] : List (List (S32))))).bind fun t504 => ((foretellkeep_joined.f k 9 (([t504, t460] : List (List (S32))))).bind fun t510 => ((foretellkeep_env.f a1_0 a1_1 a1_2).bind fun t513 => ((expr_Eval.f k t510 t513).bind fun bt516 => ((foretellkeep_env.f a1_0 a1_1 a1_2).bind fun t518 => ((expr_Eval.f k t460 t518).bind fun bt521 => (if bt499.2 = 8 then (if bt516.2 = 8 then (some (bt521.2 == 0)) else (some false)) else (some false)))))))))) = some r := H
  have A7 := Aside0.mk A70
  clear A70
  replace H := Option.bind_eq_some_iff.mp H
  obtain ⟨t496, A80, H⟩ := H
  replace H : ((expr_Eval.f k t493 t496).bind fun bt499 => ((foretellkeep_joined.f k 7 (([t481, t481] : List (List (S32))))).bind fun t504 => ((foretellkeep_joined.f k 9 (([t504, t460] : List (List (S32))))).bind fun t510 => ((foretellkeep_env.f a1_0 a1_1 a1_2).bind fun t513 => ((expr_Eval.f k t510 t513).bind fun bt516 => ((foretellkeep_env.f a1_0 a1_1 a1_2).bind fun t518 => ((expr_Eval.f k t460 t518).bind fun bt521 => (if bt499.2 = 8 then (if bt516.2 = 8 then (some (bt521.2 == 0)) else (some false)) else (some false))))))))) = some r := H
  have A8 := Aside0.mk A80
  clear A80
  replace H := Option.bind_eq_some_iff.mp H
  obtain ⟨⟨t499, t500⟩, A90, H⟩ := H
  replace H : ((foretellkeep_joined.f k 7 (([t481, t481] : List (List (S32))))).bind fun t504 => ((foretellkeep_joined.f k 9 (([t504, t460] : List (List (S32))))).bind fun t510 => ((foretellkeep_env.f a1_0 a1_1 a1_2).bind fun t513 => ((expr_Eval.f k t510 t513).bind fun bt516 => ((foretellkeep_env.f a1_0 a1_1 a1_2).bind fun t518 => ((expr_Eval.f k t460 t518).bind fun bt521 => (if t500 = 8 then (if bt516.2 = 8 then (some (bt521.2 == 0)) else (some false)) else (some false)))))))) = some r := H
  have A9 := Aside0.mk A90
  clear A90
  obtain ⟨y501, hy501⟩ : ∃ y_ : List (List (S32)), y_ = (([t481, t481] : List (List (S32)))) := ⟨_, rfl⟩
  replace H : ((foretellkeep_joined.f k 7 y501).bind fun t504 => ((foretellkeep_joined.f k 9 (([t504, t460] : List (List (S32))))).bind fun t510 => ((foretellkeep_env.f a1_0 a1_1 a1_2).bind fun t513 => ((expr_Eval.f k t510 t513).bind fun bt516 => ((foretellkeep_env.f a1_0 a1_1 a1_2).bind fun t518 => ((expr_Eval.f k t460 t518).bind fun bt521 => (if t500 = 8 then (if bt516.2 = 8 then (some (bt521.2 == 0)) else (some false)) else (some false)))))))) = some r := by first | (rw [hy501]; with_reducible exact H) | (have H2_ := (Option.bind_some _ _).symm.trans H; rw [hy501]; with_reducible exact H2_) | (have H2_ := (Option.bind_some _ _).symm.trans H; with_reducible exact H2_) | with_reducible exact H | (rw [hy501]; exact H) | exact H
  have Ny501 := Aside0.mk hy501
  clear hy501
  replace H := Option.bind_eq_some_iff.mp H
  obtain ⟨t504, A100, H⟩ := H
  replace H : ((foretellkeep_joined.f k 9 (([t504, t460] : List (List (S32))))).bind fun t510 => ((foretellkeep_env.f a1_0 a1_1 a1_2).bind fun t513 => ((expr_Eval.f k t510 t513).bind fun bt516 => ((foretellkeep_env.f a1_0 a1_1 a1_2).bind fun t518 => ((expr_Eval.f k t460 t518).bind fun bt521 => (if t500 = 8 then (if bt516.2 = 8 then (some (bt521.2 == 0)) else (some false)) else (some false))))))) = some r := H
  have A10 := Aside0.mk A100
  clear A100
  obtain ⟨y507, hy507⟩ : ∃ y_ : List (List (S32)), y_ = (([t504, t460] : List (List (S32)))) := ⟨_, rfl⟩
  replace H : ((foretellkeep_joined.f k 9 y507).bind fun t510 => ((foretellkeep_env.f a1_0 a1_1 a1_2).bind fun t513 => ((expr_Eval.f k t510 t513).bind fun bt516 => ((foretellkeep_env.f a1_0 a1_1 a1_2).bind fun t518 => ((expr_Eval.f k t460 t518).bind fun bt521 => (if t500 = 8 then (if bt516.2 = 8 then (some (bt521.2 == 0)) else (some false)) else (some false))))))) = some r := by first | (rw [hy507]; with_reducible exact H) | (have H2_ := (Option.bind_some _ _).symm.trans H; rw [hy507]; with_reducible exact H2_) | (have H2_ := (Option.bind_some _ _).symm.trans H; with_reducible exact H2_) | with_reducible exact H | (rw [hy507]; exact H) | exact H
  have Ny507 := Aside0.mk hy507
  clear hy507
  replace H := Option.bind_eq_some_iff.mp H
  obtain ⟨t510, A110, H⟩ := H
  replace H : ((foretellkeep_env.f a1_0 a1_1 a1_2).bind fun t513 => ((expr_Eval.f k t510 t513).bind fun bt516 => ((foretellkeep_env.f a1_0 a1_1 a1_2).bind fun t518 => ((expr_Eval.f k t460 t518).bind fun bt521 => (if t500 = 8 then (if bt516.2 = 8 then (some (bt521.2 == 0)) else (some false)) else (some false)))))) = some r := H
  have A11 := Aside0.mk A110
  clear A110
  replace H := Option.bind_eq_some_iff.mp H
  obtain ⟨t513, A120, H⟩ := H
  replace H : ((expr_Eval.f k t510 t513).bind fun bt516 => ((foretellkeep_env.f a1_0 a1_1 a1_2).bind fun t518 => ((expr_Eval.f k t460 t518).bind fun bt521 => (if t500 = 8 then (if bt516.2 = 8 then (some (bt521.2 == 0)) else (some false)) else (some false))))) = some r := H
  have A12 := Aside0.mk A120
  clear A120
  replace H := Option.bind_eq_some_iff.mp H
  obtain ⟨⟨t516, t517⟩, A130, H⟩ := H
  replace H : ((foretellkeep_env.f a1_0 a1_1 a1_2).bind fun t518 => ((expr_Eval.f k t460 t518).bind fun bt521 => (if t500 = 8 then (if t517 = 8 then (some (bt521.2 == 0)) else (some false)) else (some false)))) = some r := H
  have A13 := Aside0.mk A130
  clear A130
  replace H := Option.bind_eq_some_iff.mp H
  obtain ⟨t518, A140, H⟩ := H
  replace H : ((expr_Eval.f k t460 t518).bind fun bt521 => (if t500 = 8 then (if t517 = 8 then (some (bt521.2 == 0)) else (some false)) else (some false))) = some r := H
  have A14 := Aside0.mk A140
  clear A140
  replace H := Option.bind_eq_some_iff.mp H
  obtain ⟨⟨t521, t522⟩, A150, H⟩ := H
  replace H : (if t500 = 8 then (if t517 = 8 then (some (t522 == 0)) else (some false)) else (some false)) = some r := H
  have A15 := Aside0.mk A150
  clear A150
  by_cases c16 : t500 = 8
  · rw [if_pos c16] at H
    have c16b0 : (t500 == 8) = true := beq_iff_eq.mpr c16
    have c16b1 : (t500 != 8) = false := bne_eq_false_iff_eq.mpr c16
    clear c16
    by_cases c17 : t517 = 8
    · rw [if_pos c17] at H
      have c17b0 : (t517 == 8) = true := beq_iff_eq.mpr c17
      have c17b1 : (t517 != 8) = false := bne_eq_false_iff_eq.mpr c17
      clear c17
      obtain rfl := Option.some.inj H
      go_enter Tryd.func11, Tryd.ntmps11
      try go_wp2_with (first | ((with_reducible refine gate_dst (N := 3) rfl ?_); refine box_event ?hg (N := 3) ?hd (cs := #[.int .i64 a1_0, .int .i64 a1_1, .int .i64 a1_2]) (t := 45) ?hr ?_; (case hd => rfl); (case hg => rfl); (case hr => first | (go_simp; done) | (go_simp; rfl)); intro gb459 hg w18 hbox hb; have n0_ := Aside0.mk (below_step (by repeat (first | (with_reducible first | exact HB.out | apply below_alloc | apply pw_below_drewN | apply below_drew1) | exact HB.out)) hb); have n1_ := Aside0.mk (hbox); have n2_ := Aside0.mk ((by rw [hg]; exact (below_size (by repeat (first | (with_reducible first | exact HB.out | apply below_alloc | apply pw_below_drewN | apply below_drew1) | exact HB.out))) : w.heap.size ≤ gb459)); have n3_ := Aside0.mk ((by rw [hg]; exact (below_size (by repeat (first | (with_reducible first | exact HB.out | apply below_alloc | apply pw_below_drewN | apply below_drew1) | exact HB.out))) : w.heap.size ≤ gb459)); clear HB; have HB := n0_; have BK459 := n1_; have GW459 := n2_; have GE459 := n3_; clear n0_ n1_ n2_ n3_; clear hb hbox hg) | ((with_reducible refine gate_callee (f := 14) rfl ?_); refine goesL_ (some 14) rfl rfl Tryd.func14 (by kernel_rfl) rfl #[.slice A0 l0.length c0, .int .i64 3] rfl (by (try simp only [List.map_toArray, List.map_cons, List.map_nil]); first | done | rfl | (simp only [List.length_drop, List.length_take]; rfl)) ?_; (with_reducible refine (foretellkeep_Truth.calls k _ _ l0 3 t460 _ ?side1 ?side2 A3.out).mono ?_); (case side1 => repeat (first | exact (Kd.C_below HR0.out HB.out) | (with_reducible refine Kd.C_alloc ?_ _) | (with_reducible refine Kd.C_drewN ?_ _) | (with_reducible refine Kd.C_drew ?_))); (case side2 => exact HC0.out); rintro e w19 ⟨v461, rfl, ho0, hb⟩; refine ⟨_, rfl, ?_⟩; have n0_ := Aside0.mk (Kd.V_lower (Kd.V_mono (ok' := fun k_ => k_ ≠ gb459) (Kd.R_V (Kd.R_bound ho0)) (fun k_ hk_ => (Kd.freshB (g := gb459) (o := .cells #[.int .i64 a1_0, .int .i64 a1_1, .int .i64 a1_2] 45 (0, 0)) (by (with_reducible repeat (first | refine blk_drewN ?_ _ | refine blk_drew ?_ | refine blk_alloc ?_ _)); exact BK459.out) k_ hk_.2.1))) (below_size (by repeat (first | (with_reducible first | exact HB.out | apply below_alloc | apply pw_below_drewN | apply below_drew1 | refine below_set ?_ GE459.out) | exact HB.out)))); have n1_ := Aside0.mk (blk_below (g := gb459) (o := .cells #[.int .i64 a1_0, .int .i64 a1_1, .int .i64 a1_2] 45 (0, 0)) (by (with_reducible repeat (first | refine blk_drewN ?_ _ | refine blk_drew ?_ | refine blk_alloc ?_ _)); exact BK459.out) hb); have n2_ := Aside0.mk (below_step (by repeat (first | (with_reducible first | exact HB.out | apply below_alloc | apply pw_below_drewN | apply below_drew1 | refine below_set ?_ GE459.out) | exact HB.out)) hb); clear BK459; clear HB; have HO462 := n0_; have BK459 := n1_; have HB := n2_; clear n0_ n1_ n2_; (try clear hb); (try clear hb2); (try clear hk); (try clear hi); (try clear ho0)) | ((with_reducible refine gate_dst (N := 16) rfl ?_); refine Kd.R_lit k32 _ 32 ?hg (N := 16) ?hd (xs := ([(⟨1, 1000⟩ : S32)] : List (S32))) (inner := [.int .i64 1, .int .i64 1000]) (ok := fun _ => True) (okp := fun _ => True) ?hr ?hp (fun _ hk => hk) trivial (Below.refl _ _) (Nat.le_refl _) (by simp) ?_; (case hd => rfl); (case hg => rfl); (case hr => first | (go_simp; done) | (go_simp; rfl)); (case hp => exact (Reps.c2 (show Kd.M k32 _ _ _ (⟨1, 1000⟩ : S32) [.int .i64 1, .int .i64 1000] from (k32_mkM _ _ _ (⟨1, 1000⟩ : S32) )) (Reps.none _ _))); intro v464 w20 ho21 hb hg_ hnew_; clear hg_ hnew_; (first | rw [← Ny463.out] at ho21 | (simp only [Int.reduceToNat] at ho21; rw [← Ny463.out] at ho21)); have n0_ := Aside0.mk (Kd.V_elder' (by (with_reducible repeat (first | apply Kd.V_alloc | apply Kd.V_drewN | apply Kd.V_drew)); exact HO462.out) (Kd.R_base ho21) hb); have n1_ := Aside0.mk (Kd.R_lower ho21 (below_size (by repeat (first | (with_reducible first | exact HB.out | apply below_alloc | apply pw_below_drewN | apply below_drew1 | refine below_set ?_ GE459.out) | exact HB.out)))); have n2_ := Aside0.mk (blk_below (g := gb459) (o := .cells #[.int .i64 a1_0, .int .i64 a1_1, .int .i64 a1_2] 45 (0, 0)) (by (with_reducible repeat (first | refine blk_drewN ?_ _ | refine blk_drew ?_ | refine blk_alloc ?_ _)); exact BK459.out) hb); have n3_ := Aside0.mk (below_step (by repeat (first | (with_reducible first | exact HB.out | apply below_alloc | apply pw_below_drewN | apply below_drew1 | refine below_set ?_ GE459.out) | exact HB.out)) hb); clear HO462; clear BK459; clear HB; have HO462 := n0_; have HO465 := n1_; have BK459 := n2_; have HB := n3_; clear n0_ n1_ n2_ n3_; clear hb ho21) | ((with_reducible refine gate_dst (N := 18) rfl ?_); refine Kd.R_lit k32 _ 32 ?hg (N := 18) ?hd (xs := ([(⟨1, 1000⟩ : S32)] : List (S32))) (inner := [.int .i64 1, .int .i64 1000]) (ok := fun _ => True) (okp := fun _ => True) ?hr ?hp (fun _ hk => hk) trivial (Below.refl _ _) (Nat.le_refl _) (by simp) ?_; (case hd => rfl); (case hg => rfl); (case hr => first | (go_simp; done) | (go_simp; rfl)); (case hp => exact (Reps.c2 (show Kd.M k32 _ _ _ (⟨1, 1000⟩ : S32) [.int .i64 1, .int .i64 1000] from (k32_mkM _ _ _ (⟨1, 1000⟩ : S32) )) (Reps.none _ _))); intro v467 w22 ho23 hb hg_ hnew_; clear hg_ hnew_; (first | rw [← Ny466.out] at ho23 | (simp only [Int.reduceToNat] at ho23; rw [← Ny466.out] at ho23)); have n0_ := Aside0.mk (Kd.V_elder' (by (with_reducible repeat (first | apply Kd.V_alloc | apply Kd.V_drewN | apply Kd.V_drew)); exact HO462.out) (Kd.R_base ho23) hb); have n1_ := Aside0.mk (Kd.R_elder' (by (with_reducible repeat (first | apply Kd.R_alloc | apply Kd.R_drewN | apply Kd.R_drew)); exact HO465.out) (Kd.R_base ho23) hb); have n2_ := Aside0.mk (Kd.R_lower (Kd.R_new' ho23 (Kd.R_lt (by (with_reducible repeat (first | apply Kd.R_alloc | apply Kd.R_drewN | apply Kd.R_drew)); exact HO465.out))) (below_size (by repeat (first | (with_reducible first | exact HB.out | apply below_alloc | apply pw_below_drewN | apply below_drew1 | refine below_set ?_ GE459.out) | exact HB.out)))); have n3_ := Aside0.mk (blk_below (g := gb459) (o := .cells #[.int .i64 a1_0, .int .i64 a1_1, .int .i64 a1_2] 45 (0, 0)) (by (with_reducible repeat (first | refine blk_drewN ?_ _ | refine blk_drew ?_ | refine blk_alloc ?_ _)); exact BK459.out) hb); have n4_ := Aside0.mk (below_step (by repeat (first | (with_reducible first | exact HB.out | apply below_alloc | apply pw_below_drewN | apply below_drew1 | refine below_set ?_ GE459.out) | exact HB.out)) hb); clear HO462; clear HO465; clear BK459; clear HB; have HO462 := n0_; have HO465 := n1_; have HO468 := n2_; have BK459 := n3_; have HB := n4_; clear n0_ n1_ n2_ n3_ n4_; clear hb ho23; obtain ⟨Ao24, co24, eo24⟩ := Kd.R_slice HO465.out; subst eo24; obtain ⟨Ao25, co25, eo25⟩ := Kd.R_slice HO468.out; subst eo25) | ((with_reducible refine gate_dst (N := 19) rfl ?_); refine Kd.N_lit (Kd.slice 32 k32) _ 23 ?hg (N' := 19) ?hd (xs := ([y463, y466] : List (List (S32)))) (inner := [.slice Ao24 y463.length co24, .slice Ao25 y466.length co25]) (ok := (fun k_ => k_ ≠ gb459)) (okp := (fun k_ => k_ ≠ gb459)) ?hr ?hp (fun _ hk => hk) ((show ∀ k_, w22.heap.size ≤ k_ → (fun k_ => k_ ≠ gb459) k_ from fun k_ hk => Kd.freshB (g := gb459) (o := .cells #[.int .i64 a1_0, .int .i64 a1_1, .int .i64 a1_2] 45 (0, 0)) (by (with_reducible repeat (first | refine blk_drewN ?_ _ | refine blk_drew ?_ | refine blk_alloc ?_ _)); exact BK459.out) k_ hk) _ (Nat.le_refl _)) (Below.refl _ _) (Nat.le_refl _) (by simp) ?_; (case hd => rfl); (case hg => rfl); (case hr => first | (go_simp; done) | (go_simp; rfl)); (case hp => exact (Reps.one (show Kd.FK (Kd.slice 32 k32) _ _ y463 [.slice Ao24 y463.length co24] from (Kd.FK_slice_mk (Kd.R_reads' (Kd.R_mono (ok' := (fun k_ => k_ ≠ gb459)) (Kd.R_types (HO465.out) BK459.out (by decide)) (fun k_ hk => hk.2))).2.1 (Kd.R_F (Kd.R_mono (ok' := (fun k_ => k_ ≠ gb459)) (Kd.R_types (HO465.out) BK459.out (by decide)) (fun k_ hk => hk.2))))) (Reps.one (show Kd.FK (Kd.slice 32 k32) _ _ y466 [.slice Ao25 y466.length co25] from (Kd.FK_slice_mk (Kd.R_reads' (Kd.R_mono (ok' := (fun k_ => k_ ≠ gb459)) (Kd.R_types (HO468.out) BK459.out (by decide)) (fun k_ hk => hk.2))).2.1 (Kd.R_F (Kd.R_mono (ok' := (fun k_ => k_ ≠ gb459)) (Kd.R_types (HO468.out) BK459.out (by decide)) (fun k_ hk => hk.2))))) (Reps.none _ _)))); intro v470 w26 ho27 hb hg_ hnew_; clear hg_ hnew_; (first | rw [← Ny469.out] at ho27 | (simp only [Int.reduceToNat] at ho27; rw [← Ny469.out] at ho27)); have n0_ := Aside0.mk (Kd.V_elder' (by (with_reducible repeat (first | apply Kd.V_alloc | apply Kd.V_drewN | apply Kd.V_drew)); exact HO462.out) (by first | exact Kd.N_base ho27 | exact Kd.S_base ho27 | exact Kd.R_base ho27) hb); have n1_ := Aside0.mk (Kd.N_lower ho27 (below_size (by repeat (first | (with_reducible first | exact HB.out | apply below_alloc | apply pw_below_drewN | apply below_drew1 | refine below_set ?_ GE459.out) | exact HB.out)))); have n2_ := Aside0.mk (blk_below (g := gb459) (o := .cells #[.int .i64 a1_0, .int .i64 a1_1, .int .i64 a1_2] 45 (0, 0)) (by (with_reducible repeat (first | refine blk_drewN ?_ _ | refine blk_drew ?_ | refine blk_alloc ?_ _)); exact BK459.out) hb); have n3_ := Aside0.mk (below_step (by repeat (first | (with_reducible first | exact HB.out | apply below_alloc | apply pw_below_drewN | apply below_drew1 | refine below_set ?_ GE459.out) | exact HB.out)) hb); clear HO462; clear BK459; clear HB; clear HO465; clear HO468; have HO462 := n0_; have HO471 := n1_; have BK459 := n2_; have HB := n3_; clear n0_ n1_ n2_ n3_; clear hb ho27; obtain ⟨Ao28, co28, eo28⟩ := Kd.N_slice HO471.out; subst eo28) | ((with_reducible refine gate_callee (f := 21) rfl ?_); refine goesL_ (some 20) rfl rfl Tryd.func21 (by kernel_rfl) rfl #[.int .i64 5, .slice Ao28 y469.length co28] rfl (by (try simp only [List.map_toArray, List.map_cons, List.map_nil]); first | done | rfl | (simp only [List.length_drop, List.length_take]; rfl)) ?_; (with_reducible refine (foretellkeep_joined.calls k 5 _ _ y469 t472 _ ?side1 ?side2 A4.out).mono ?_); (case side1 => repeat (first | exact (Kd.N_reads' HO471.out).2.2 | (with_reducible refine Kd.C_alloc ?_ _) | (with_reducible refine Kd.C_drewN ?_ _) | (with_reducible refine Kd.C_drew ?_))); (case side2 => exact (Kd.N_reads' HO471.out).2.1); rintro e w29 ⟨v473, rfl, ho0, hb⟩; refine ⟨_, rfl, ?_⟩; have n0_ := Aside0.mk (Kd.V_below (by (with_reducible repeat (first | apply Kd.V_alloc | apply Kd.V_drewN | apply Kd.V_drew)); exact HO462.out) hb); have n1_ := Aside0.mk (Kd.N_below (by (with_reducible repeat (first | apply Kd.N_alloc | apply Kd.N_drewN | apply Kd.N_drew)); exact HO471.out) hb); have n2_ := Aside0.mk (Kd.V_lower (Kd.V_mono (ok' := fun k_ => k_ ≠ gb459) (Kd.R_V (Kd.R_bound ho0)) (fun k_ hk_ => (Kd.freshB (g := gb459) (o := .cells #[.int .i64 a1_0, .int .i64 a1_1, .int .i64 a1_2] 45 (0, 0)) (by (with_reducible repeat (first | refine blk_drewN ?_ _ | refine blk_drew ?_ | refine blk_alloc ?_ _)); exact BK459.out) k_ hk_.2.1))) (below_size (by repeat (first | (with_reducible first | exact HB.out | apply below_alloc | apply pw_below_drewN | apply below_drew1 | refine below_set ?_ GE459.out) | exact HB.out)))); have n3_ := Aside0.mk (blk_below (g := gb459) (o := .cells #[.int .i64 a1_0, .int .i64 a1_1, .int .i64 a1_2] 45 (0, 0)) (by (with_reducible repeat (first | refine blk_drewN ?_ _ | refine blk_drew ?_ | refine blk_alloc ?_ _)); exact BK459.out) hb); have n4_ := Aside0.mk (below_step (by repeat (first | (with_reducible first | exact HB.out | apply below_alloc | apply pw_below_drewN | apply below_drew1 | refine below_set ?_ GE459.out) | exact HB.out)) hb); clear HO462; clear HO471; clear BK459; clear HB; have HO462 := n0_; have HO471 := n1_; have HO474 := n2_; have BK459 := n3_; have HB := n4_; clear n0_ n1_ n2_ n3_ n4_; (try clear hb); (try clear hb2); (try clear hk); (try clear hi); (try clear ho0)) | ((with_reducible refine gate_dst (N := 22) rfl ?_); refine Kd.R_lit k32 _ 32 ?hg (N := 22) ?hd (xs := ([(⟨1, 2⟩ : S32)] : List (S32))) (inner := [.int .i64 1, .int .i64 2]) (ok := fun _ => True) (okp := fun _ => True) ?hr ?hp (fun _ hk => hk) trivial (Below.refl _ _) (Nat.le_refl _) (by simp) ?_; (case hd => rfl); (case hg => rfl); (case hr => first | (go_simp; done) | (go_simp; rfl)); (case hp => exact (Reps.c2 (show Kd.M k32 _ _ _ (⟨1, 2⟩ : S32) [.int .i64 1, .int .i64 2] from (k32_mkM _ _ _ (⟨1, 2⟩ : S32) )) (Reps.none _ _))); intro v476 w30 ho31 hb hg_ hnew_; clear hg_ hnew_; (first | rw [← Ny475.out] at ho31 | (simp only [Int.reduceToNat] at ho31; rw [← Ny475.out] at ho31)); have n0_ := Aside0.mk (Kd.V_elder' (by (with_reducible repeat (first | apply Kd.V_alloc | apply Kd.V_drewN | apply Kd.V_drew)); exact HO462.out) (Kd.R_base ho31) hb); have n1_ := Aside0.mk (Kd.N_elder' (by (with_reducible repeat (first | apply Kd.N_alloc | apply Kd.N_drewN | apply Kd.N_drew)); exact HO471.out) (Kd.R_base ho31) hb); have n2_ := Aside0.mk (Kd.V_elder' (by (with_reducible repeat (first | apply Kd.V_alloc | apply Kd.V_drewN | apply Kd.V_drew)); exact HO474.out) (Kd.R_base ho31) hb); have n3_ := Aside0.mk (Kd.R_lower ho31 (below_size (by repeat (first | (with_reducible first | exact HB.out | apply below_alloc | apply pw_below_drewN | apply below_drew1 | refine below_set ?_ GE459.out) | exact HB.out)))); have n4_ := Aside0.mk (blk_below (g := gb459) (o := .cells #[.int .i64 a1_0, .int .i64 a1_1, .int .i64 a1_2] 45 (0, 0)) (by (with_reducible repeat (first | refine blk_drewN ?_ _ | refine blk_drew ?_ | refine blk_alloc ?_ _)); exact BK459.out) hb); have n5_ := Aside0.mk (below_step (by repeat (first | (with_reducible first | exact HB.out | apply below_alloc | apply pw_below_drewN | apply below_drew1 | refine below_set ?_ GE459.out) | exact HB.out)) hb); clear HO462; clear HO471; clear HO474; clear BK459; clear HB; have HO462 := n0_; have HO471 := n1_; have HO474 := n2_; have HO477 := n3_; have BK459 := n4_; have HB := n5_; clear n0_ n1_ n2_ n3_ n4_ n5_; clear hb ho31; obtain ⟨Ao32, co32, eo32⟩ := Kd.V_slice HO474.out; subst eo32; obtain ⟨Ao33, co33, eo33⟩ := Kd.R_slice HO477.out; subst eo33) | ((with_reducible refine gate_dst (N := 23) rfl ?_); refine Kd.N_lit (Kd.slice 32 k32) _ 23 ?hg (N' := 23) ?hd (xs := ([t472, y475] : List (List (S32)))) (inner := [.slice Ao32 t472.length co32, .slice Ao33 y475.length co33]) (ok := (fun k_ => k_ ≠ gb459)) (okp := (fun k_ => k_ ≠ gb459)) ?hr ?hp (fun _ hk => hk) ((show ∀ k_, w30.heap.size ≤ k_ → (fun k_ => k_ ≠ gb459) k_ from fun k_ hk => Kd.freshB (g := gb459) (o := .cells #[.int .i64 a1_0, .int .i64 a1_1, .int .i64 a1_2] 45 (0, 0)) (by (with_reducible repeat (first | refine blk_drewN ?_ _ | refine blk_drew ?_ | refine blk_alloc ?_ _)); exact BK459.out) k_ hk) _ (Nat.le_refl _)) (Below.refl _ _) (Nat.le_refl _) (by simp) ?_; (case hd => rfl); (case hg => rfl); (case hr => first | (go_simp; done) | (go_simp; rfl)); (case hp => exact (Reps.one (show Kd.FK (Kd.slice 32 k32) _ _ t472 [.slice Ao32 t472.length co32] from (Kd.FK_slice_mk (Kd.V_reads' (Kd.V_mono (ok' := (fun k_ => k_ ≠ gb459)) (HO474.out) (fun k_ hk => hk.1))).2.1 (Kd.V_F (Kd.V_mono (ok' := (fun k_ => k_ ≠ gb459)) (HO474.out) (fun k_ hk => hk.1))))) (Reps.one (show Kd.FK (Kd.slice 32 k32) _ _ y475 [.slice Ao33 y475.length co33] from (Kd.FK_slice_mk (Kd.R_reads' (Kd.R_mono (ok' := (fun k_ => k_ ≠ gb459)) (Kd.R_types (HO477.out) BK459.out (by decide)) (fun k_ hk => hk.2))).2.1 (Kd.R_F (Kd.R_mono (ok' := (fun k_ => k_ ≠ gb459)) (Kd.R_types (HO477.out) BK459.out (by decide)) (fun k_ hk => hk.2))))) (Reps.none _ _)))); intro v479 w34 ho35 hb hg_ hnew_; clear hg_ hnew_; (first | rw [← Ny478.out] at ho35 | (simp only [Int.reduceToNat] at ho35; rw [← Ny478.out] at ho35)); have n0_ := Aside0.mk (Kd.V_elder' (by (with_reducible repeat (first | apply Kd.V_alloc | apply Kd.V_drewN | apply Kd.V_drew)); exact HO462.out) (by first | exact Kd.N_base ho35 | exact Kd.S_base ho35 | exact Kd.R_base ho35) hb); have n1_ := Aside0.mk (Kd.N_elder' (by (with_reducible repeat (first | apply Kd.N_alloc | apply Kd.N_drewN | apply Kd.N_drew)); exact HO471.out) (by first | exact Kd.N_base ho35 | exact Kd.S_base ho35 | exact Kd.R_base ho35) hb); have n2_ := Aside0.mk (Kd.V_elder' (by (with_reducible repeat (first | apply Kd.V_alloc | apply Kd.V_drewN | apply Kd.V_drew)); exact HO474.out) (by first | exact Kd.N_base ho35 | exact Kd.S_base ho35 | exact Kd.R_base ho35) hb); have n3_ := Aside0.mk (Kd.N_lower ho35 (below_size (by repeat (first | (with_reducible first | exact HB.out | apply below_alloc | apply pw_below_drewN | apply below_drew1 | refine below_set ?_ GE459.out) | exact HB.out)))); have n4_ := Aside0.mk (blk_below (g := gb459) (o := .cells #[.int .i64 a1_0, .int .i64 a1_1, .int .i64 a1_2] 45 (0, 0)) (by (with_reducible repeat (first | refine blk_drewN ?_ _ | refine blk_drew ?_ | refine blk_alloc ?_ _)); exact BK459.out) hb); have n5_ := Aside0.mk (below_step (by repeat (first | (with_reducible first | exact HB.out | apply below_alloc | apply pw_below_drewN | apply below_drew1 | refine below_set ?_ GE459.out) | exact HB.out)) hb); clear HO462; clear HO471; clear HO474; clear BK459; clear HB; clear HO477; have HO462 := n0_; have HO471 := n1_; have HO474 := n2_; have HO480 := n3_; have BK459 := n4_; have HB := n5_; clear n0_ n1_ n2_ n3_ n4_ n5_; clear hb ho35; obtain ⟨Ao36, co36, eo36⟩ := Kd.N_slice HO480.out; subst eo36) | ((with_reducible refine gate_callee (f := 21) rfl ?_); refine goesL_ (some 24) rfl rfl Tryd.func21 (by kernel_rfl) rfl #[.int .i64 5, .slice Ao36 y478.length co36] rfl (by (try simp only [List.map_toArray, List.map_cons, List.map_nil]); first | done | rfl | (simp only [List.length_drop, List.length_take]; rfl)) ?_; (with_reducible refine (foretellkeep_joined.calls k 5 _ _ y478 t481 _ ?side1 ?side2 A5.out).mono ?_); (case side1 => repeat (first | exact (Kd.N_reads' HO480.out).2.2 | (with_reducible refine Kd.C_alloc ?_ _) | (with_reducible refine Kd.C_drewN ?_ _) | (with_reducible refine Kd.C_drew ?_))); (case side2 => exact (Kd.N_reads' HO480.out).2.1); rintro e w37 ⟨v482, rfl, ho0, hb⟩; refine ⟨_, rfl, ?_⟩; have n0_ := Aside0.mk (Kd.V_below (by (with_reducible repeat (first | apply Kd.V_alloc | apply Kd.V_drewN | apply Kd.V_drew)); exact HO462.out) hb); have n1_ := Aside0.mk (Kd.N_below (by (with_reducible repeat (first | apply Kd.N_alloc | apply Kd.N_drewN | apply Kd.N_drew)); exact HO471.out) hb); have n2_ := Aside0.mk (Kd.V_below (by (with_reducible repeat (first | apply Kd.V_alloc | apply Kd.V_drewN | apply Kd.V_drew)); exact HO474.out) hb); have n3_ := Aside0.mk (Kd.N_below (by (with_reducible repeat (first | apply Kd.N_alloc | apply Kd.N_drewN | apply Kd.N_drew)); exact HO480.out) hb); have n4_ := Aside0.mk (Kd.V_lower (Kd.V_mono (ok' := fun k_ => k_ ≠ gb459) (Kd.R_V (Kd.R_bound ho0)) (fun k_ hk_ => (Kd.freshB (g := gb459) (o := .cells #[.int .i64 a1_0, .int .i64 a1_1, .int .i64 a1_2] 45 (0, 0)) (by (with_reducible repeat (first | refine blk_drewN ?_ _ | refine blk_drew ?_ | refine blk_alloc ?_ _)); exact BK459.out) k_ hk_.2.1))) (below_size (by repeat (first | (with_reducible first | exact HB.out | apply below_alloc | apply pw_below_drewN | apply below_drew1 | refine below_set ?_ GE459.out) | exact HB.out)))); have n5_ := Aside0.mk (blk_below (g := gb459) (o := .cells #[.int .i64 a1_0, .int .i64 a1_1, .int .i64 a1_2] 45 (0, 0)) (by (with_reducible repeat (first | refine blk_drewN ?_ _ | refine blk_drew ?_ | refine blk_alloc ?_ _)); exact BK459.out) hb); have n6_ := Aside0.mk (below_step (by repeat (first | (with_reducible first | exact HB.out | apply below_alloc | apply pw_below_drewN | apply below_drew1 | refine below_set ?_ GE459.out) | exact HB.out)) hb); clear HO462; clear HO471; clear HO474; clear HO480; clear BK459; clear HB; have HO462 := n0_; have HO471 := n1_; have HO474 := n2_; have HO480 := n3_; have HO483 := n4_; have BK459 := n5_; have HB := n6_; clear n0_ n1_ n2_ n3_ n4_ n5_ n6_; (try clear hb); (try clear hb2); (try clear hk); (try clear hi); (try clear ho0); obtain ⟨Ao38, co38, eo38⟩ := Kd.V_slice HO462.out; subst eo38; obtain ⟨Ao39, co39, eo39⟩ := Kd.V_slice HO483.out; subst eo39))
      have n0_ := Aside0.mk (Kd.V_drew HO462.out)
      have n1_ := Aside0.mk (Kd.N_drew HO471.out)
      have n2_ := Aside0.mk (Kd.V_drew HO474.out)
      have n3_ := Aside0.mk (Kd.N_drew HO480.out)
      have n4_ := Aside0.mk (Kd.V_drew HO483.out)
      have n5_ := Aside0.mk (blk_drew BK459.out)
      have n6_ := Aside0.mk (below_drew1 HB.out)
      clear HO462
      clear HO471
      clear HO474
      clear HO480
      clear HO483
      clear BK459
      clear HB
      have HO462 := n0_
      have HO471 := n1_
      have HO474 := n2_
      have HO480 := n3_
      have HO483 := n4_
      have BK459 := n5_
      have HB := n6_
      clear n0_ n1_ n2_ n3_ n4_ n5_ n6_
      refine start_ (n := 15) (S := fun w' => w'.cell? ⟨gb459, 0, none⟩ = some (.int .i64 a1_0) ∧ w'.cell? ⟨gb459, 1, none⟩ = some (.int .i64 a1_1) ∧ w'.cell? ⟨gb459, 2, none⟩ = some (.int .i64 a1_2)) (ds := []) #[false, false, false, false, false, false, false, false, false, false, false, false, false, false, false] (by kernel_rfl) rfl rfl ⟨(blk_cell BK459.out 0).trans rfl, (blk_cell BK459.out 1).trans rfl, (blk_cell BK459.out 2).trans rfl⟩ (fun hHeld => ?_); refine with_tabW foretellkeep_EvalOver.tab3 foretellkeep_EvalOver.bits3 (fun HT_ HW_ => ?_)
      generalize w37.drew = w40 at HO462 HO471 HO474 HO480 HO483 BK459 HB hHeld ⊢
      refine pure_ (i := 0) (N := some 26) (v := ?_) (a' := ?_) #[true, false, false, false, false, false, false, false, false, false, false, false, false, false, false] rfl rfl (any_of HT_.out (by kernel_rfl)) (fun _ _ _ h => h) (Or.inl ⟨by rfl, ?_⟩) ?_ ?_
      rotate_left
      · intro w'
        go_simp
        with_reducible rfl
      rotate_left
      · simp only [Act.put, List.setIfInBounds_toArray, List.set_cons_zero, List.set_cons_succ, i64_w, i32_w]
        rfl
      refine pure_ (i := 1) (N := some 27) (v := ?_) (a' := ?_) #[true, true, false, false, false, false, false, false, false, false, false, false, false, false, false] rfl rfl (any_of HT_.out (by kernel_rfl)) (fun _ _ _ h => h) (Or.inl ⟨by rfl, ?_⟩) ?_ ?_
      rotate_left
      · intro w'
        go_simp
        with_reducible rfl
      rotate_left
      · simp only [Act.put, List.setIfInBounds_toArray, List.set_cons_zero, List.set_cons_succ, i64_w, i32_w]
        rfl
      refine pure_ (i := 2) (N := some 28) (v := ?_) (a' := ?_) #[true, true, true, false, false, false, false, false, false, false, false, false, false, false, false] rfl rfl (any_of HT_.out (by kernel_rfl)) (fun _ _ _ h => h) (Or.inl ⟨by rfl, ?_⟩) ?_ ?_
      rotate_left
      · intro w'
        go_simp
        with_reducible rfl
      rotate_left
      · simp only [Act.put, List.setIfInBounds_toArray, List.set_cons_zero, List.set_cons_succ, i64_w, i32_w]
        rfl
      refine take_ (i := 7) (N := some 33) (v := ?_) (a' := ?_) #[true, true, true, false, false, false, false, true, false, false, false, false, false, false, false] rfl rfl (take_ofW HT_.out HW_.out (by kernel_rfl)) (fun _ _ _ h => h) (Or.inl ⟨by rfl, ?_⟩) hHeld ?_ ?_
      rotate_left
      · rintro w' ⟨s0, s1, s2⟩
        go_simp
        with_reducible rfl
      rotate_left
      · simp only [Act.put, List.setIfInBounds_toArray, List.set_cons_zero, List.set_cons_succ, i64_w, i32_w]
        rfl
      refine one_ (i := 3) (N := some 29) #[true, true, true, true, false, false, false, true, false, false, false, false, false, false, false] rfl rfl (one_of HT_.out (by kernel_rfl)) (by decide) (fun K hK => ?_)
      refine Kd.N_lit_step (Kd.slice 32 k32) _ 23 ?hg (N' := 29) ?hd (xs := ([t481, t481] : List (List (S32)))) (inner := [.slice Ao39 t481.length co39, .slice Ao39 t481.length co39]) (ok := (fun k_ => k_ ≠ gb459)) (okp := (fun k_ => k_ ≠ gb459)) ?hr ?hp (fun _ hk => hk) ((show ∀ k_, w40.heap.size ≤ k_ → (fun k_ => k_ ≠ gb459) k_ from fun k_ hk => Kd.freshB (g := gb459) (o := .cells #[.int .i64 a1_0, .int .i64 a1_1, .int .i64 a1_2] 45 (0, 0)) (by (with_reducible repeat (first | refine blk_drewN ?_ _ | refine blk_drew ?_ | refine blk_alloc ?_ _)); exact BK459.out) k_ hk) _ (Nat.le_refl _)) (Below.refl _ _) (Nat.le_refl _) (by simp) ?_; (case hd => rfl); (case hg => rfl); (case hr => first | (go_simp; done) | (go_simp; rfl)); (case hp => exact (Reps.one (show Kd.FK (Kd.slice 32 k32) _ _ t481 [.slice Ao39 t481.length co39] from (Kd.FK_slice_mk (Kd.V_reads' (Kd.V_mono (ok' := (fun k_ => k_ ≠ gb459)) (HO483.out) (fun k_ hk => hk))).2.1 (Kd.V_F (Kd.V_mono (ok' := (fun k_ => k_ ≠ gb459)) (HO483.out) (fun k_ hk => hk))))) (Reps.one (show Kd.FK (Kd.slice 32 k32) _ _ t481 [.slice Ao39 t481.length co39] from (Kd.FK_slice_mk (Kd.V_reads' (Kd.V_mono (ok' := (fun k_ => k_ ≠ gb459)) (HO483.out) (fun k_ hk => hk))).2.1 (Kd.V_F (Kd.V_mono (ok' := (fun k_ => k_ ≠ gb459)) (HO483.out) (fun k_ hk => hk))))) (Reps.none _ _))))
      intro v485 w41 ho42 hb hg_ hnew_
      clear hg_ hnew_
      (first | rw [← Ny484.out] at ho42 | (simp only [Int.reduceToNat] at ho42; rw [← Ny484.out] at ho42))
      have n0_ := Aside0.mk (Kd.V_elder' (by (with_reducible repeat (first | apply Kd.V_alloc | apply Kd.V_drewN | apply Kd.V_drew)); exact HO462.out) (by first | exact Kd.N_base ho42 | exact Kd.S_base ho42 | exact Kd.R_base ho42) hb)
      have n1_ := Aside0.mk (Kd.N_elder' (by (with_reducible repeat (first | apply Kd.N_alloc | apply Kd.N_drewN | apply Kd.N_drew)); exact HO471.out) (by first | exact Kd.N_base ho42 | exact Kd.S_base ho42 | exact Kd.R_base ho42) hb)
      have n2_ := Aside0.mk (Kd.V_elder' (by (with_reducible repeat (first | apply Kd.V_alloc | apply Kd.V_drewN | apply Kd.V_drew)); exact HO474.out) (by first | exact Kd.N_base ho42 | exact Kd.S_base ho42 | exact Kd.R_base ho42) hb)
      have n3_ := Aside0.mk (Kd.N_elder' (by (with_reducible repeat (first | apply Kd.N_alloc | apply Kd.N_drewN | apply Kd.N_drew)); exact HO480.out) (by first | exact Kd.N_base ho42 | exact Kd.S_base ho42 | exact Kd.R_base ho42) hb)
      have n4_ := Aside0.mk (Kd.V_elder' (by (with_reducible repeat (first | apply Kd.V_alloc | apply Kd.V_drewN | apply Kd.V_drew)); exact HO483.out) (by first | exact Kd.N_base ho42 | exact Kd.S_base ho42 | exact Kd.R_base ho42) hb)
      have n5_ := Aside0.mk (Kd.N_lower ho42 (below_size (by repeat (first | (with_reducible first | exact HB.out | apply below_alloc | apply pw_below_drewN | apply below_drew1 | refine below_set ?_ GE459.out) | exact HB.out))))
      have n6_ := Aside0.mk (blk_below (g := gb459) (o := .cells #[.int .i64 a1_0, .int .i64 a1_1, .int .i64 a1_2] 45 (0, 0)) (by (with_reducible repeat (first | refine blk_drewN ?_ _ | refine blk_drew ?_ | refine blk_alloc ?_ _)); exact BK459.out) hb)
      have n7_ := Aside0.mk (below_step (by repeat (first | (with_reducible first | exact HB.out | apply below_alloc | apply pw_below_drewN | apply below_drew1 | refine below_set ?_ GE459.out) | exact HB.out)) hb)
      clear HO462
      clear HO471
      clear HO474
      clear HO480
      clear HO483
      clear BK459
      clear HB
      have HO462 := n0_
      have HO471 := n1_
      have HO474 := n2_
      have HO480 := n3_
      have HO483 := n4_
      have HO486 := n5_
      have BK459 := n6_
      have HB := n7_
      clear n0_ n1_ n2_ n3_ n4_ n5_ n6_ n7_
      clear hb ho42
      obtain ⟨Ao43, co43, eo43⟩ := Kd.N_slice HO486.out
      (first | subst eo43 | (injection eo43 with f1_ f2_ f3_; have f4_ := f1_.symm; have f5_ := f3_.symm; clear f1_ f2_ f3_; subst f4_; subst f5_))
      refine hK.out _ _ ⟨(blk_cell BK459.out 0).trans rfl, (blk_cell BK459.out 1).trans rfl, (blk_cell BK459.out 2).trans rfl⟩ (fun hHeld => ?_)
      clear hK K
      refine norm_ (a' := ?_) ?_ ?_
      rotate_left
      · show Act.put _ (some 29) _ = _
        simp only [Act.put, List.setIfInBounds_toArray, List.set_cons_zero, List.set_cons_succ, i64_w, i32_w]
        rfl
      refine one_ (i := 4) (N := some 30) #[true, true, true, true, true, false, false, true, false, false, false, false, false, false, false] rfl rfl (one_of HT_.out (by kernel_rfl)) (by decide) (fun K hK => ?_)
      refine goes_ Tryd.func21 (by kernel_rfl) rfl #[.int .i64 7, .slice Ao43 y484.length co43] (by rfl) rfl rfl (by (try simp only [List.map_toArray, List.map_cons, List.map_nil]); first | done | rfl | (simp only [List.length_drop, List.length_take]; rfl)) ?_
      with_reducible refine (foretellkeep_joined.calls k 7 _ _ y484 t487 _ ?side1 ?side2 A6.out).mono ?_
      (case side1 => repeat (first | exact (Kd.N_reads' HO486.out).2.2 | (with_reducible refine Kd.C_alloc ?_ _) | (with_reducible refine Kd.C_drewN ?_ _) | (with_reducible refine Kd.C_drew ?_)))
      (case side2 => exact (Kd.N_reads' HO486.out).2.1)
      rintro e w44 ⟨v488, rfl, ho0, hb⟩
      refine ⟨_, rfl, ?_⟩
      have n0_ := Aside0.mk (Kd.V_below (by (with_reducible repeat (first | apply Kd.V_alloc | apply Kd.V_drewN | apply Kd.V_drew)); exact HO462.out) hb)
      have n1_ := Aside0.mk (Kd.N_below (by (with_reducible repeat (first | apply Kd.N_alloc | apply Kd.N_drewN | apply Kd.N_drew)); exact HO471.out) hb)
      have n2_ := Aside0.mk (Kd.V_below (by (with_reducible repeat (first | apply Kd.V_alloc | apply Kd.V_drewN | apply Kd.V_drew)); exact HO474.out) hb)
      have n3_ := Aside0.mk (Kd.N_below (by (with_reducible repeat (first | apply Kd.N_alloc | apply Kd.N_drewN | apply Kd.N_drew)); exact HO480.out) hb)
      have n4_ := Aside0.mk (Kd.V_below (by (with_reducible repeat (first | apply Kd.V_alloc | apply Kd.V_drewN | apply Kd.V_drew)); exact HO483.out) hb)
      have n5_ := Aside0.mk (Kd.N_below (by (with_reducible repeat (first | apply Kd.N_alloc | apply Kd.N_drewN | apply Kd.N_drew)); exact HO486.out) hb)
      have n6_ := Aside0.mk (Kd.V_lower (Kd.V_mono (ok' := fun k_ => k_ ≠ gb459) (Kd.R_V (Kd.R_bound ho0)) (fun k_ hk_ => (Kd.freshB (g := gb459) (o := .cells #[.int .i64 a1_0, .int .i64 a1_1, .int .i64 a1_2] 45 (0, 0)) (by (with_reducible repeat (first | refine blk_drewN ?_ _ | refine blk_drew ?_ | refine blk_alloc ?_ _)); exact BK459.out) k_ hk_.2.1))) (below_size (by repeat (first | (with_reducible first | exact HB.out | apply below_alloc | apply pw_below_drewN | apply below_drew1 | refine below_set ?_ GE459.out) | exact HB.out))))
      have n7_ := Aside0.mk (blk_below (g := gb459) (o := .cells #[.int .i64 a1_0, .int .i64 a1_1, .int .i64 a1_2] 45 (0, 0)) (by (with_reducible repeat (first | refine blk_drewN ?_ _ | refine blk_drew ?_ | refine blk_alloc ?_ _)); exact BK459.out) hb)
      have n8_ := Aside0.mk (below_step (by repeat (first | (with_reducible first | exact HB.out | apply below_alloc | apply pw_below_drewN | apply below_drew1 | refine below_set ?_ GE459.out) | exact HB.out)) hb)
      clear HO462
      clear HO471
      clear HO474
      clear HO480
      clear HO483
      clear HO486
      clear BK459
      clear HB
      have HO462 := n0_
      have HO471 := n1_
      have HO474 := n2_
      have HO480 := n3_
      have HO483 := n4_
      have HO486 := n5_
      have HO489 := n6_
      have BK459 := n7_
      have HB := n8_
      clear n0_ n1_ n2_ n3_ n4_ n5_ n6_ n7_ n8_
      (try clear hb)
      (try clear hb2)
      (try clear hk)
      (try clear hi)
      (try clear ho0)
      obtain ⟨Ao45, co45, eo45⟩ := Kd.V_slice HO489.out
      (first | subst eo45 | (injection eo45 with f1_ f2_ f3_; have f4_ := f1_.symm; have f5_ := f3_.symm; clear f1_ f2_ f3_; subst f4_; subst f5_))
      refine hK.out _ _ ⟨(blk_cell BK459.out 0).trans rfl, (blk_cell BK459.out 1).trans rfl, (blk_cell BK459.out 2).trans rfl⟩ (fun hHeld => ?_)
      clear hK K
      refine norm_ (a' := ?_) ?_ ?_
      rotate_left
      · show Act.put _ (some 30) _ = _
        simp only [Act.put, List.setIfInBounds_toArray, List.set_cons_zero, List.set_cons_succ, i64_w, i32_w]
        rfl
      refine one_ (i := 5) (N := some 31) #[true, true, true, true, true, true, false, true, false, false, false, false, false, false, false] rfl rfl (one_of HT_.out (by kernel_rfl)) (by decide) (fun K hK => ?_)
      refine Kd.N_lit_step (Kd.slice 32 k32) _ 23 ?hg (N' := 31) ?hd (xs := ([t460, t487] : List (List (S32)))) (inner := [.slice Ao38 t460.length co38, .slice Ao45 t487.length co45]) (ok := (fun k_ => k_ ≠ gb459)) (okp := (fun k_ => k_ ≠ gb459)) ?hr ?hp (fun _ hk => hk) ((show ∀ k_, w44.heap.size ≤ k_ → (fun k_ => k_ ≠ gb459) k_ from fun k_ hk => Kd.freshB (g := gb459) (o := .cells #[.int .i64 a1_0, .int .i64 a1_1, .int .i64 a1_2] 45 (0, 0)) (by (with_reducible repeat (first | refine blk_drewN ?_ _ | refine blk_drew ?_ | refine blk_alloc ?_ _)); exact BK459.out) k_ hk) _ (Nat.le_refl _)) (Below.refl _ _) (Nat.le_refl _) (by simp) ?_; (case hd => rfl); (case hg => rfl); (case hr => first | (go_simp; done) | (go_simp; rfl)); (case hp => exact (Reps.one (show Kd.FK (Kd.slice 32 k32) _ _ t460 [.slice Ao38 t460.length co38] from (Kd.FK_slice_mk (Kd.V_reads' (Kd.V_mono (ok' := (fun k_ => k_ ≠ gb459)) (HO462.out) (fun k_ hk => hk.1.1.1.1.1.1))).2.1 (Kd.V_F (Kd.V_mono (ok' := (fun k_ => k_ ≠ gb459)) (HO462.out) (fun k_ hk => hk.1.1.1.1.1.1))))) (Reps.one (show Kd.FK (Kd.slice 32 k32) _ _ t487 [.slice Ao45 t487.length co45] from (Kd.FK_slice_mk (Kd.V_reads' (Kd.V_mono (ok' := (fun k_ => k_ ≠ gb459)) (HO489.out) (fun k_ hk => hk))).2.1 (Kd.V_F (Kd.V_mono (ok' := (fun k_ => k_ ≠ gb459)) (HO489.out) (fun k_ hk => hk))))) (Reps.none _ _))))
      intro v491 w46 ho47 hb hg_ hnew_
      clear hg_ hnew_
      (first | rw [← Ny490.out] at ho47 | (simp only [Int.reduceToNat] at ho47; rw [← Ny490.out] at ho47))
      have n0_ := Aside0.mk (Kd.V_elder' (by (with_reducible repeat (first | apply Kd.V_alloc | apply Kd.V_drewN | apply Kd.V_drew)); exact HO462.out) (by first | exact Kd.N_base ho47 | exact Kd.S_base ho47 | exact Kd.R_base ho47) hb)
      have n1_ := Aside0.mk (Kd.N_elder' (by (with_reducible repeat (first | apply Kd.N_alloc | apply Kd.N_drewN | apply Kd.N_drew)); exact HO471.out) (by first | exact Kd.N_base ho47 | exact Kd.S_base ho47 | exact Kd.R_base ho47) hb)
      have n2_ := Aside0.mk (Kd.V_elder' (by (with_reducible repeat (first | apply Kd.V_alloc | apply Kd.V_drewN | apply Kd.V_drew)); exact HO474.out) (by first | exact Kd.N_base ho47 | exact Kd.S_base ho47 | exact Kd.R_base ho47) hb)
      have n3_ := Aside0.mk (Kd.N_elder' (by (with_reducible repeat (first | apply Kd.N_alloc | apply Kd.N_drewN | apply Kd.N_drew)); exact HO480.out) (by first | exact Kd.N_base ho47 | exact Kd.S_base ho47 | exact Kd.R_base ho47) hb)
      have n4_ := Aside0.mk (Kd.V_elder' (by (with_reducible repeat (first | apply Kd.V_alloc | apply Kd.V_drewN | apply Kd.V_drew)); exact HO483.out) (by first | exact Kd.N_base ho47 | exact Kd.S_base ho47 | exact Kd.R_base ho47) hb)
      have n5_ := Aside0.mk (Kd.N_elder' (by (with_reducible repeat (first | apply Kd.N_alloc | apply Kd.N_drewN | apply Kd.N_drew)); exact HO486.out) (by first | exact Kd.N_base ho47 | exact Kd.S_base ho47 | exact Kd.R_base ho47) hb)
      have n6_ := Aside0.mk (Kd.V_elder' (by (with_reducible repeat (first | apply Kd.V_alloc | apply Kd.V_drewN | apply Kd.V_drew)); exact HO489.out) (by first | exact Kd.N_base ho47 | exact Kd.S_base ho47 | exact Kd.R_base ho47) hb)
      have n7_ := Aside0.mk (Kd.N_lower ho47 (below_size (by repeat (first | (with_reducible first | exact HB.out | apply below_alloc | apply pw_below_drewN | apply below_drew1 | refine below_set ?_ GE459.out) | exact HB.out))))
      have n8_ := Aside0.mk (blk_below (g := gb459) (o := .cells #[.int .i64 a1_0, .int .i64 a1_1, .int .i64 a1_2] 45 (0, 0)) (by (with_reducible repeat (first | refine blk_drewN ?_ _ | refine blk_drew ?_ | refine blk_alloc ?_ _)); exact BK459.out) hb)
      have n9_ := Aside0.mk (below_step (by repeat (first | (with_reducible first | exact HB.out | apply below_alloc | apply pw_below_drewN | apply below_drew1 | refine below_set ?_ GE459.out) | exact HB.out)) hb)
      clear HO462
      clear HO471
      clear HO474
      clear HO480
      clear HO483
      clear HO486
      clear HO489
      clear BK459
      clear HB
      have HO462 := n0_
      have HO471 := n1_
      have HO474 := n2_
      have HO480 := n3_
      have HO483 := n4_
      have HO486 := n5_
      have HO489 := n6_
      have HO492 := n7_
      have BK459 := n8_
      have HB := n9_
      clear n0_ n1_ n2_ n3_ n4_ n5_ n6_ n7_ n8_ n9_
      clear hb ho47
      obtain ⟨Ao48, co48, eo48⟩ := Kd.N_slice HO492.out
      (first | subst eo48 | (injection eo48 with f1_ f2_ f3_; have f4_ := f1_.symm; have f5_ := f3_.symm; clear f1_ f2_ f3_; subst f4_; subst f5_))
      refine hK.out _ _ ⟨(blk_cell BK459.out 0).trans rfl, (blk_cell BK459.out 1).trans rfl, (blk_cell BK459.out 2).trans rfl⟩ (fun hHeld => ?_)
      clear hK K
      refine norm_ (a' := ?_) ?_ ?_
      rotate_left
      · show Act.put _ (some 31) _ = _
        simp only [Act.put, List.setIfInBounds_toArray, List.set_cons_zero, List.set_cons_succ, i64_w, i32_w]
        rfl
      refine one_ (i := 6) (N := some 32) #[true, true, true, true, true, true, true, true, false, false, false, false, false, false, false] rfl rfl (one_of HT_.out (by kernel_rfl)) (by decide) (fun K hK => ?_)
      refine goes_ Tryd.func21 (by kernel_rfl) rfl #[.int .i64 9, .slice Ao48 y490.length co48] (by rfl) rfl rfl (by (try simp only [List.map_toArray, List.map_cons, List.map_nil]); first | done | rfl | (simp only [List.length_drop, List.length_take]; rfl)) ?_
      with_reducible refine (foretellkeep_joined.calls k 9 _ _ y490 t493 _ ?side1 ?side2 A7.out).mono ?_
      (case side1 => repeat (first | exact (Kd.N_reads' HO492.out).2.2 | (with_reducible refine Kd.C_alloc ?_ _) | (with_reducible refine Kd.C_drewN ?_ _) | (with_reducible refine Kd.C_drew ?_)))
      (case side2 => exact (Kd.N_reads' HO492.out).2.1)
      rintro e w49 ⟨v494, rfl, ho0, hb⟩
      refine ⟨_, rfl, ?_⟩
      have n0_ := Aside0.mk (Kd.V_below (by (with_reducible repeat (first | apply Kd.V_alloc | apply Kd.V_drewN | apply Kd.V_drew)); exact HO462.out) hb)
      have n1_ := Aside0.mk (Kd.N_below (by (with_reducible repeat (first | apply Kd.N_alloc | apply Kd.N_drewN | apply Kd.N_drew)); exact HO471.out) hb)
      have n2_ := Aside0.mk (Kd.V_below (by (with_reducible repeat (first | apply Kd.V_alloc | apply Kd.V_drewN | apply Kd.V_drew)); exact HO474.out) hb)
      have n3_ := Aside0.mk (Kd.N_below (by (with_reducible repeat (first | apply Kd.N_alloc | apply Kd.N_drewN | apply Kd.N_drew)); exact HO480.out) hb)
      have n4_ := Aside0.mk (Kd.V_below (by (with_reducible repeat (first | apply Kd.V_alloc | apply Kd.V_drewN | apply Kd.V_drew)); exact HO483.out) hb)
      have n5_ := Aside0.mk (Kd.N_below (by (with_reducible repeat (first | apply Kd.N_alloc | apply Kd.N_drewN | apply Kd.N_drew)); exact HO486.out) hb)
      have n6_ := Aside0.mk (Kd.V_below (by (with_reducible repeat (first | apply Kd.V_alloc | apply Kd.V_drewN | apply Kd.V_drew)); exact HO489.out) hb)
      have n7_ := Aside0.mk (Kd.N_below (by (with_reducible repeat (first | apply Kd.N_alloc | apply Kd.N_drewN | apply Kd.N_drew)); exact HO492.out) hb)
      have n8_ := Aside0.mk (Kd.V_lower (Kd.V_mono (ok' := fun k_ => k_ ≠ gb459) (Kd.R_V (Kd.R_bound ho0)) (fun k_ hk_ => (Kd.freshB (g := gb459) (o := .cells #[.int .i64 a1_0, .int .i64 a1_1, .int .i64 a1_2] 45 (0, 0)) (by (with_reducible repeat (first | refine blk_drewN ?_ _ | refine blk_drew ?_ | refine blk_alloc ?_ _)); exact BK459.out) k_ hk_.2.1))) (below_size (by repeat (first | (with_reducible first | exact HB.out | apply below_alloc | apply pw_below_drewN | apply below_drew1 | refine below_set ?_ GE459.out) | exact HB.out))))
      have n9_ := Aside0.mk (blk_below (g := gb459) (o := .cells #[.int .i64 a1_0, .int .i64 a1_1, .int .i64 a1_2] 45 (0, 0)) (by (with_reducible repeat (first | refine blk_drewN ?_ _ | refine blk_drew ?_ | refine blk_alloc ?_ _)); exact BK459.out) hb)
      have n10_ := Aside0.mk (below_step (by repeat (first | (with_reducible first | exact HB.out | apply below_alloc | apply pw_below_drewN | apply below_drew1 | refine below_set ?_ GE459.out) | exact HB.out)) hb)
      clear HO462
      clear HO471
      clear HO474
      clear HO480
      clear HO483
      clear HO486
      clear HO489
      clear HO492
      clear BK459
      clear HB
      have HO462 := n0_
      have HO471 := n1_
      have HO474 := n2_
      have HO480 := n3_
      have HO483 := n4_
      have HO486 := n5_
      have HO489 := n6_
      have HO492 := n7_
      have HO495 := n8_
      have BK459 := n9_
      have HB := n10_
      clear n0_ n1_ n2_ n3_ n4_ n5_ n6_ n7_ n8_ n9_ n10_
      (try clear hb)
      (try clear hb2)
      (try clear hk)
      (try clear hi)
      (try clear ho0)
      refine hK.out _ _ ⟨(blk_cell BK459.out 0).trans rfl, (blk_cell BK459.out 1).trans rfl, (blk_cell BK459.out 2).trans rfl⟩ (fun hHeld => ?_)
      clear hK K
      refine norm_ (a' := ?_) ?_ ?_
      rotate_left
      · show Act.put _ (some 32) _ = _
        simp only [Act.put, List.setIfInBounds_toArray, List.set_cons_zero, List.set_cons_succ, i64_w, i32_w]
        rfl
      refine one_ (i := 8) (N := some 34) #[true, true, true, true, true, true, true, true, true, false, false, false, false, false, false] rfl rfl (one_of HT_.out (by kernel_rfl)) (by decide) (fun K hK => ?_)
      refine goes_ Tryd.func25 (by kernel_rfl) rfl #[.agg #[.int .i64 a1_0, .int .i64 a1_1, .int .i64 a1_2]] (by rfl) rfl rfl (by (try simp only [List.map_toArray, List.map_cons, List.map_nil]); first | done | rfl | (simp only [List.length_drop, List.length_take]; rfl)) ?_
      with_reducible refine (foretellkeep_env.calls a1_0 a1_1 a1_2 t496 _ A8.out).mono ?_
      rintro e w50 ⟨v497, rfl, ho0, hb⟩
      refine ⟨_, rfl, ?_⟩
      have n0_ := Aside0.mk (Kd.V_below (by (with_reducible repeat (first | apply Kd.V_alloc | apply Kd.V_drewN | apply Kd.V_drew)); exact HO462.out) hb)
      have n1_ := Aside0.mk (Kd.N_below (by (with_reducible repeat (first | apply Kd.N_alloc | apply Kd.N_drewN | apply Kd.N_drew)); exact HO471.out) hb)
      have n2_ := Aside0.mk (Kd.V_below (by (with_reducible repeat (first | apply Kd.V_alloc | apply Kd.V_drewN | apply Kd.V_drew)); exact HO474.out) hb)
      have n3_ := Aside0.mk (Kd.N_below (by (with_reducible repeat (first | apply Kd.N_alloc | apply Kd.N_drewN | apply Kd.N_drew)); exact HO480.out) hb)
      have n4_ := Aside0.mk (Kd.V_below (by (with_reducible repeat (first | apply Kd.V_alloc | apply Kd.V_drewN | apply Kd.V_drew)); exact HO483.out) hb)
      have n5_ := Aside0.mk (Kd.N_below (by (with_reducible repeat (first | apply Kd.N_alloc | apply Kd.N_drewN | apply Kd.N_drew)); exact HO486.out) hb)
      have n6_ := Aside0.mk (Kd.V_below (by (with_reducible repeat (first | apply Kd.V_alloc | apply Kd.V_drewN | apply Kd.V_drew)); exact HO489.out) hb)
      have n7_ := Aside0.mk (Kd.N_below (by (with_reducible repeat (first | apply Kd.N_alloc | apply Kd.N_drewN | apply Kd.N_drew)); exact HO492.out) hb)
      have n8_ := Aside0.mk (Kd.V_below (by (with_reducible repeat (first | apply Kd.V_alloc | apply Kd.V_drewN | apply Kd.V_drew)); exact HO495.out) hb)
      have n9_ := Aside0.mk (Kd.V_lower (Kd.V_mono (ok' := fun k_ => k_ ≠ gb459) (Kd.R_V (Kd.R_bound ho0)) (fun k_ hk_ => (Kd.freshB (g := gb459) (o := .cells #[.int .i64 a1_0, .int .i64 a1_1, .int .i64 a1_2] 45 (0, 0)) (by (with_reducible repeat (first | refine blk_drewN ?_ _ | refine blk_drew ?_ | refine blk_alloc ?_ _)); exact BK459.out) k_ hk_.2.1))) (below_size (by repeat (first | (with_reducible first | exact HB.out | apply below_alloc | apply pw_below_drewN | apply below_drew1 | refine below_set ?_ GE459.out) | exact HB.out))))
      have n10_ := Aside0.mk (blk_below (g := gb459) (o := .cells #[.int .i64 a1_0, .int .i64 a1_1, .int .i64 a1_2] 45 (0, 0)) (by (with_reducible repeat (first | refine blk_drewN ?_ _ | refine blk_drew ?_ | refine blk_alloc ?_ _)); exact BK459.out) hb)
      have n11_ := Aside0.mk (below_step (by repeat (first | (with_reducible first | exact HB.out | apply below_alloc | apply pw_below_drewN | apply below_drew1 | refine below_set ?_ GE459.out) | exact HB.out)) hb)
      clear HO462
      clear HO471
      clear HO474
      clear HO480
      clear HO483
      clear HO486
      clear HO489
      clear HO492
      clear HO495
      clear BK459
      clear HB
      have HO462 := n0_
      have HO471 := n1_
      have HO474 := n2_
      have HO480 := n3_
      have HO483 := n4_
      have HO486 := n5_
      have HO489 := n6_
      have HO492 := n7_
      have HO495 := n8_
      have HO498 := n9_
      have BK459 := n10_
      have HB := n11_
      clear n0_ n1_ n2_ n3_ n4_ n5_ n6_ n7_ n8_ n9_ n10_ n11_
      (try clear hb)
      (try clear hb2)
      (try clear hk)
      (try clear hi)
      (try clear ho0)
      obtain ⟨Ao51, co51, eo51⟩ := Kd.V_slice HO495.out
      (first | subst eo51 | (injection eo51 with f1_ f2_ f3_; have f4_ := f1_.symm; have f5_ := f3_.symm; clear f1_ f2_ f3_; subst f4_; subst f5_))
      obtain ⟨Ao52, co52, eo52⟩ := Kd.V_slice HO498.out
      (first | subst eo52 | (injection eo52 with f1_ f2_ f3_; have f4_ := f1_.symm; have f5_ := f3_.symm; clear f1_ f2_ f3_; subst f4_; subst f5_))
      refine hK.out _ _ ⟨(blk_cell BK459.out 0).trans rfl, (blk_cell BK459.out 1).trans rfl, (blk_cell BK459.out 2).trans rfl⟩ (fun hHeld => ?_)
      clear hK K
      refine norm_ (a' := ?_) ?_ ?_
      rotate_left
      · show Act.put _ (some 34) _ = _
        simp only [Act.put, List.setIfInBounds_toArray, List.set_cons_zero, List.set_cons_succ, i64_w, i32_w]
        rfl
      refine one_ (i := 9) (N := some 35) #[true, true, true, true, true, true, true, true, true, true, false, false, false, false, false] rfl rfl (one_of HT_.out (by kernel_rfl)) (by decide) (fun K hK => ?_)
      refine goes_ Tryd.func24 (by kernel_rfl) rfl #[.slice Ao51 t493.length co51, .slice Ao52 t496.length co52] (by rfl) rfl rfl (by (try simp only [List.map_toArray, List.map_cons, List.map_nil]); first | done | rfl | (simp only [List.length_drop, List.length_take]; rfl)) ?_
      with_reducible refine (expr_Eval.calls k _ _ t493 _ _ t496 t499 t500 _ ?side1 ?side2 ?side3 ?side4 ?side5 A9.out).mono ?_
      (case side1 => repeat (first | exact (Kd.V_reads' HO495.out).2.2 | (with_reducible refine Kd.C_alloc ?_ _) | (with_reducible refine Kd.C_drewN ?_ _) | (with_reducible refine Kd.C_drew ?_)))
      (case side2 => exact (Kd.V_reads' HO495.out).2.1)
      (case side3 => repeat (first | exact (Kd.V_reads' HO498.out).2.2 | (with_reducible refine Kd.C_alloc ?_ _) | (with_reducible refine Kd.C_drewN ?_ _) | (with_reducible refine Kd.C_drew ?_)))
      (case side4 => exact (Kd.V_reads' HO498.out).2.1)
      (case side5 => first | exact hG_ | exact Glob.drewN hG_ _ | exact Glob.below hG_ (by repeat (first | (with_reducible first | exact HB.out | apply below_alloc | apply pw_below_drewN | apply below_drew1 | refine below_set ?_ GE459.out) | exact HB.out)))
      rintro e w53 ⟨rfl, hb⟩
      refine ⟨_, rfl, ?_⟩
      have n0_ := Aside0.mk (Kd.V_below (by (with_reducible repeat (first | apply Kd.V_alloc | apply Kd.V_drewN | apply Kd.V_drew)); exact HO462.out) hb)
      have n1_ := Aside0.mk (Kd.N_below (by (with_reducible repeat (first | apply Kd.N_alloc | apply Kd.N_drewN | apply Kd.N_drew)); exact HO471.out) hb)
      have n2_ := Aside0.mk (Kd.V_below (by (with_reducible repeat (first | apply Kd.V_alloc | apply Kd.V_drewN | apply Kd.V_drew)); exact HO474.out) hb)
      have n3_ := Aside0.mk (Kd.N_below (by (with_reducible repeat (first | apply Kd.N_alloc | apply Kd.N_drewN | apply Kd.N_drew)); exact HO480.out) hb)
      have n4_ := Aside0.mk (Kd.V_below (by (with_reducible repeat (first | apply Kd.V_alloc | apply Kd.V_drewN | apply Kd.V_drew)); exact HO483.out) hb)
      have n5_ := Aside0.mk (Kd.N_below (by (with_reducible repeat (first | apply Kd.N_alloc | apply Kd.N_drewN | apply Kd.N_drew)); exact HO486.out) hb)
      have n6_ := Aside0.mk (Kd.V_below (by (with_reducible repeat (first | apply Kd.V_alloc | apply Kd.V_drewN | apply Kd.V_drew)); exact HO489.out) hb)
      have n7_ := Aside0.mk (Kd.N_below (by (with_reducible repeat (first | apply Kd.N_alloc | apply Kd.N_drewN | apply Kd.N_drew)); exact HO492.out) hb)
      have n8_ := Aside0.mk (Kd.V_below (by (with_reducible repeat (first | apply Kd.V_alloc | apply Kd.V_drewN | apply Kd.V_drew)); exact HO495.out) hb)
      have n9_ := Aside0.mk (Kd.V_below (by (with_reducible repeat (first | apply Kd.V_alloc | apply Kd.V_drewN | apply Kd.V_drew)); exact HO498.out) hb)
      have n10_ := Aside0.mk (blk_below (g := gb459) (o := .cells #[.int .i64 a1_0, .int .i64 a1_1, .int .i64 a1_2] 45 (0, 0)) (by (with_reducible repeat (first | refine blk_drewN ?_ _ | refine blk_drew ?_ | refine blk_alloc ?_ _)); exact BK459.out) hb)
      have n11_ := Aside0.mk (below_step (by repeat (first | (with_reducible first | exact HB.out | apply below_alloc | apply pw_below_drewN | apply below_drew1 | refine below_set ?_ GE459.out) | exact HB.out)) hb)
      clear HO462
      clear HO471
      clear HO474
      clear HO480
      clear HO483
      clear HO486
      clear HO489
      clear HO492
      clear HO495
      clear HO498
      clear BK459
      clear HB
      have HO462 := n0_
      have HO471 := n1_
      have HO474 := n2_
      have HO480 := n3_
      have HO483 := n4_
      have HO486 := n5_
      have HO489 := n6_
      have HO492 := n7_
      have HO495 := n8_
      have HO498 := n9_
      have BK459 := n10_
      have HB := n11_
      clear n0_ n1_ n2_ n3_ n4_ n5_ n6_ n7_ n8_ n9_ n10_ n11_
      (try clear hb)
      (try clear hb2)
      (try clear hk)
      (try clear hi)
      refine hK.out _ _ ⟨(blk_cell BK459.out 0).trans rfl, (blk_cell BK459.out 1).trans rfl, (blk_cell BK459.out 2).trans rfl⟩ (fun hHeld => ?_)
      clear hK K
      refine norm_ (a' := ?_) ?_ ?_
      rotate_left
      · show Act.put _ (some 35) _ = _
        simp only [Act.put, List.setIfInBounds_toArray, List.set_cons_zero, List.set_cons_succ, i64_w, i32_w]
        rfl
      refine pure_ (i := 10) (N := some 25) (v := ?_) (a' := ?_) #[true, true, true, true, true, true, true, true, true, true, true, false, false, false, false] rfl rfl (any_of HT_.out (by kernel_rfl)) (fun _ _ _ h => h) (Or.inl ⟨by rfl, ?_⟩) ?_ ?_
      rotate_left
      · intro w'
        go_simp
        with_reducible rfl
      rotate_left
      · simp only [Act.put, List.setIfInBounds_toArray, List.set_cons_zero, List.set_cons_succ, i64_w, i32_w]
        rfl
      refine pure_ (i := 11) (N := some 36) (v := ?_) (a' := ?_) #[true, true, true, true, true, true, true, true, true, true, true, true, false, false, false] rfl rfl (any_of HT_.out (by kernel_rfl)) (fun _ _ _ h => h) (Or.inl ⟨by rfl, ?_⟩) ?_ ?_
      rotate_left
      · intro w'
        go_simp
        with_reducible rfl
      rotate_left
      · simp only [Act.put, List.setIfInBounds_toArray, List.set_cons_zero, List.set_cons_succ, i64_w, i32_w]
        rfl
      refine pure_ (i := 12) (N := some 37) (v := ?_) (a' := ?_) #[true, true, true, true, true, true, true, true, true, true, true, true, true, false, false] rfl rfl (any_of HT_.out (by kernel_rfl)) (fun _ _ _ h => h) (Or.inl ⟨by rfl, ?_⟩) ?_ ?_
      rotate_left
      · intro w'
        go_simp
        with_reducible rfl
      rotate_left
      · simp only [Act.put, List.setIfInBounds_toArray, List.set_cons_zero, List.set_cons_succ, i64_w, i32_w]
        rfl
      refine pure_ (i := 13) (N := some 7) (v := ?_) (a' := ?_) #[true, true, true, true, true, true, true, true, true, true, true, true, true, true, false] rfl rfl (any_of HT_.out (by kernel_rfl)) (fun _ _ _ h => h) (Or.inl ⟨by rfl, ?_⟩) ?_ ?_
      rotate_left
      · intro w'
        go_simp
        with_reducible rfl
      rotate_left
      · simp only [Act.put, List.setIfInBounds_toArray, List.set_cons_zero, List.set_cons_succ, i64_w, i32_w]
        rfl
      refine pure_ (i := 14) (N := some 8) (v := ?_) (a' := ?_) #[true, true, true, true, true, true, true, true, true, true, true, true, true, true, true] rfl rfl (any_of HT_.out (by kernel_rfl)) (fun _ _ _ h => h) (Or.inl ⟨by rfl, ?_⟩) ?_ ?_
      rotate_left
      · intro w'
        go_simp
        with_reducible rfl
      rotate_left
      · simp only [Act.put, List.setIfInBounds_toArray, List.set_cons_zero, List.set_cons_succ, i64_w, i32_w]
        rfl
      refine done_ (done_of HT_.out (by kernel_rfl)) ?_
      try go_wp2
      have n0_ := Aside0.mk (Kd.V_drew HO462.out)
      have n1_ := Aside0.mk (Kd.N_drew HO471.out)
      have n2_ := Aside0.mk (Kd.V_drew HO474.out)
      have n3_ := Aside0.mk (Kd.N_drew HO480.out)
      have n4_ := Aside0.mk (Kd.V_drew HO483.out)
      have n5_ := Aside0.mk (Kd.N_drew HO486.out)
      have n6_ := Aside0.mk (Kd.V_drew HO489.out)
      have n7_ := Aside0.mk (Kd.N_drew HO492.out)
      have n8_ := Aside0.mk (Kd.V_drew HO495.out)
      have n9_ := Aside0.mk (Kd.V_drew HO498.out)
      have n10_ := Aside0.mk (blk_drew BK459.out)
      have n11_ := Aside0.mk (below_drew1 HB.out)
      clear HO462
      clear HO471
      clear HO474
      clear HO480
      clear HO483
      clear HO486
      clear HO489
      clear HO492
      clear HO495
      clear HO498
      clear BK459
      clear HB
      have HO462 := n0_
      have HO471 := n1_
      have HO474 := n2_
      have HO480 := n3_
      have HO483 := n4_
      have HO486 := n5_
      have HO489 := n6_
      have HO492 := n7_
      have HO495 := n8_
      have HO498 := n9_
      have BK459 := n10_
      have HB := n11_
      clear n0_ n1_ n2_ n3_ n4_ n5_ n6_ n7_ n8_ n9_ n10_ n11_
      refine start_ (n := 15) (S := fun w' => w'.cell? ⟨gb459, 0, none⟩ = some (.int .i64 a1_0) ∧ w'.cell? ⟨gb459, 1, none⟩ = some (.int .i64 a1_1) ∧ w'.cell? ⟨gb459, 2, none⟩ = some (.int .i64 a1_2)) (ds := []) #[false, false, false, false, false, false, false, false, false, false, false, false, false, false, false] (by kernel_rfl) rfl rfl ⟨(blk_cell BK459.out 0).trans rfl, (blk_cell BK459.out 1).trans rfl, (blk_cell BK459.out 2).trans rfl⟩ (fun hHeld => ?_); refine with_tabW foretellkeep_EvalOver.tab4 foretellkeep_EvalOver.bits4 (fun HT_ HW_ => ?_)
      generalize w53.drew = w54 at HO462 HO471 HO474 HO480 HO483 HO486 HO489 HO492 HO495 HO498 BK459 HB hHeld ⊢
      refine pure_ (i := 0) (N := some 39) (v := ?_) (a' := ?_) #[true, false, false, false, false, false, false, false, false, false, false, false, false, false, false] rfl rfl (any_of HT_.out (by kernel_rfl)) (fun _ _ _ h => h) (Or.inl ⟨by rfl, ?_⟩) ?_ ?_
      rotate_left
      · intro w'
        go_simp
        with_reducible rfl
      rotate_left
      · simp only [Act.put, List.setIfInBounds_toArray, List.set_cons_zero, List.set_cons_succ, i64_w, i32_w]
        rfl
      refine pure_ (i := 1) (N := some 40) (v := ?_) (a' := ?_) #[true, true, false, false, false, false, false, false, false, false, false, false, false, false, false] rfl rfl (any_of HT_.out (by kernel_rfl)) (fun _ _ _ h => h) (Or.inl ⟨by rfl, ?_⟩) ?_ ?_
      rotate_left
      · intro w'
        go_simp
        with_reducible rfl
      rotate_left
      · simp only [Act.put, List.setIfInBounds_toArray, List.set_cons_zero, List.set_cons_succ, i64_w, i32_w]
        rfl
      refine pure_ (i := 4) (N := some 43) (v := ?_) (a' := ?_) #[true, true, false, false, true, false, false, false, false, false, false, false, false, false, false] rfl rfl (any_of HT_.out (by kernel_rfl)) (fun _ _ _ h => h) (Or.inl ⟨by rfl, ?_⟩) ?_ ?_
      rotate_left
      · intro w'
        go_simp
        with_reducible rfl
      rotate_left
      · simp only [Act.put, List.setIfInBounds_toArray, List.set_cons_zero, List.set_cons_succ, i64_w, i32_w]
        rfl
      refine take_ (i := 7) (N := some 46) (v := ?_) (a' := ?_) #[true, true, false, false, true, false, false, true, false, false, false, false, false, false, false] rfl rfl (take_ofW HT_.out HW_.out (by kernel_rfl)) (fun _ _ _ h => h) (Or.inl ⟨by rfl, ?_⟩) hHeld ?_ ?_
      rotate_left
      · rintro w' ⟨s0, s1, s2⟩
        go_simp
        with_reducible rfl
      rotate_left
      · simp only [Act.put, List.setIfInBounds_toArray, List.set_cons_zero, List.set_cons_succ, i64_w, i32_w]
        rfl
      refine one_ (i := 2) (N := some 41) #[true, true, true, false, true, false, false, true, false, false, false, false, false, false, false] rfl rfl (one_of HT_.out (by kernel_rfl)) (by decide) (fun K hK => ?_)
      refine Kd.N_lit_step (Kd.slice 32 k32) _ 23 ?hg (N' := 41) ?hd (xs := ([t481, t481] : List (List (S32)))) (inner := [.slice Ao39 t481.length co39, .slice Ao39 t481.length co39]) (ok := (fun k_ => some k_ ≠ (.slice Ao43 y484.length co43 : Value).ownBlock ∧ some k_ ≠ (.slice Ao48 y490.length co48 : Value).ownBlock ∧ k_ ≠ gb459)) (okp := (fun k_ => some k_ ≠ (.slice Ao43 y484.length co43 : Value).ownBlock ∧ some k_ ≠ (.slice Ao48 y490.length co48 : Value).ownBlock ∧ k_ ≠ gb459)) ?hr ?hp (fun _ hk => hk) ((show ∀ k_, w54.heap.size ≤ k_ → (fun k_ => some k_ ≠ (.slice Ao43 y484.length co43 : Value).ownBlock ∧ some k_ ≠ (.slice Ao48 y490.length co48 : Value).ownBlock ∧ k_ ≠ gb459) k_ from fun k_ hk => ⟨Kd.fresh' (Kd.N_lt (by (with_reducible repeat (first | apply Kd.N_alloc | apply Kd.N_drewN | apply Kd.N_drew)); exact HO486.out)) k_ hk, Kd.fresh' (Kd.N_lt (by (with_reducible repeat (first | apply Kd.N_alloc | apply Kd.N_drewN | apply Kd.N_drew)); exact HO492.out)) k_ hk, Kd.freshB (g := gb459) (o := .cells #[.int .i64 a1_0, .int .i64 a1_1, .int .i64 a1_2] 45 (0, 0)) (by (with_reducible repeat (first | refine blk_drewN ?_ _ | refine blk_drew ?_ | refine blk_alloc ?_ _)); exact BK459.out) k_ hk⟩) _ (Nat.le_refl _)) (Below.refl _ _) (Nat.le_refl _) (by simp) ?_; (case hd => rfl); (case hg => rfl); (case hr => first | (go_simp; done) | (go_simp; rfl)); (case hp => exact (Reps.one (show Kd.FK (Kd.slice 32 k32) _ _ t481 [.slice Ao39 t481.length co39] from (Kd.FK_slice_mk (Kd.V_reads' (Kd.V_mono (ok' := (fun k_ => some k_ ≠ (.slice Ao43 y484.length co43 : Value).ownBlock ∧ some k_ ≠ (.slice Ao48 y490.length co48 : Value).ownBlock ∧ k_ ≠ gb459)) (HO483.out) (fun k_ hk => ⟨hk.1.2, ⟨hk.2, hk.1.1⟩⟩))).2.1 (Kd.V_F (Kd.V_mono (ok' := (fun k_ => some k_ ≠ (.slice Ao43 y484.length co43 : Value).ownBlock ∧ some k_ ≠ (.slice Ao48 y490.length co48 : Value).ownBlock ∧ k_ ≠ gb459)) (HO483.out) (fun k_ hk => ⟨hk.1.2, ⟨hk.2, hk.1.1⟩⟩))))) (Reps.one (show Kd.FK (Kd.slice 32 k32) _ _ t481 [.slice Ao39 t481.length co39] from (Kd.FK_slice_mk (Kd.V_reads' (Kd.V_mono (ok' := (fun k_ => some k_ ≠ (.slice Ao43 y484.length co43 : Value).ownBlock ∧ some k_ ≠ (.slice Ao48 y490.length co48 : Value).ownBlock ∧ k_ ≠ gb459)) (HO483.out) (fun k_ hk => ⟨hk.1.2, ⟨hk.2, hk.1.1⟩⟩))).2.1 (Kd.V_F (Kd.V_mono (ok' := (fun k_ => some k_ ≠ (.slice Ao43 y484.length co43 : Value).ownBlock ∧ some k_ ≠ (.slice Ao48 y490.length co48 : Value).ownBlock ∧ k_ ≠ gb459)) (HO483.out) (fun k_ hk => ⟨hk.1.2, ⟨hk.2, hk.1.1⟩⟩))))) (Reps.none _ _))))
      intro v502 w55 ho56 hb hg_ hnew_
      clear hg_ hnew_
      (first | rw [← Ny501.out] at ho56 | (simp only [Int.reduceToNat] at ho56; rw [← Ny501.out] at ho56))
      have n0_ := Aside0.mk (Kd.V_elder' (by (with_reducible repeat (first | apply Kd.V_alloc | apply Kd.V_drewN | apply Kd.V_drew)); exact HO462.out) (by first | exact Kd.N_base ho56 | exact Kd.S_base ho56 | exact Kd.R_base ho56) hb)
      have n1_ := Aside0.mk (Kd.N_elder' (by (with_reducible repeat (first | apply Kd.N_alloc | apply Kd.N_drewN | apply Kd.N_drew)); exact HO471.out) (by first | exact Kd.N_base ho56 | exact Kd.S_base ho56 | exact Kd.R_base ho56) hb)
      have n2_ := Aside0.mk (Kd.V_elder' (by (with_reducible repeat (first | apply Kd.V_alloc | apply Kd.V_drewN | apply Kd.V_drew)); exact HO474.out) (by first | exact Kd.N_base ho56 | exact Kd.S_base ho56 | exact Kd.R_base ho56) hb)
      have n3_ := Aside0.mk (Kd.N_elder' (by (with_reducible repeat (first | apply Kd.N_alloc | apply Kd.N_drewN | apply Kd.N_drew)); exact HO480.out) (by first | exact Kd.N_base ho56 | exact Kd.S_base ho56 | exact Kd.R_base ho56) hb)
      have n4_ := Aside0.mk (Kd.V_elder' (by (with_reducible repeat (first | apply Kd.V_alloc | apply Kd.V_drewN | apply Kd.V_drew)); exact HO483.out) (by first | exact Kd.N_base ho56 | exact Kd.S_base ho56 | exact Kd.R_base ho56) hb)
      have n5_ := Aside0.mk (Kd.N_elder' (by (with_reducible repeat (first | apply Kd.N_alloc | apply Kd.N_drewN | apply Kd.N_drew)); exact HO486.out) (by first | exact Kd.N_base ho56 | exact Kd.S_base ho56 | exact Kd.R_base ho56) hb)
      have n6_ := Aside0.mk (Kd.V_elder' (by (with_reducible repeat (first | apply Kd.V_alloc | apply Kd.V_drewN | apply Kd.V_drew)); exact HO489.out) (by first | exact Kd.N_base ho56 | exact Kd.S_base ho56 | exact Kd.R_base ho56) hb)
      have n7_ := Aside0.mk (Kd.N_elder' (by (with_reducible repeat (first | apply Kd.N_alloc | apply Kd.N_drewN | apply Kd.N_drew)); exact HO492.out) (by first | exact Kd.N_base ho56 | exact Kd.S_base ho56 | exact Kd.R_base ho56) hb)
      have n8_ := Aside0.mk (Kd.V_elder' (by (with_reducible repeat (first | apply Kd.V_alloc | apply Kd.V_drewN | apply Kd.V_drew)); exact HO495.out) (by first | exact Kd.N_base ho56 | exact Kd.S_base ho56 | exact Kd.R_base ho56) hb)
      have n9_ := Aside0.mk (Kd.V_elder' (by (with_reducible repeat (first | apply Kd.V_alloc | apply Kd.V_drewN | apply Kd.V_drew)); exact HO498.out) (by first | exact Kd.N_base ho56 | exact Kd.S_base ho56 | exact Kd.R_base ho56) hb)
      have n10_ := Aside0.mk (Kd.N_lower ho56 (below_size (by repeat (first | (with_reducible first | exact HB.out | apply below_alloc | apply pw_below_drewN | apply below_drew1 | refine below_set ?_ GE459.out) | exact HB.out))))
      have n11_ := Aside0.mk (blk_below (g := gb459) (o := .cells #[.int .i64 a1_0, .int .i64 a1_1, .int .i64 a1_2] 45 (0, 0)) (by (with_reducible repeat (first | refine blk_drewN ?_ _ | refine blk_drew ?_ | refine blk_alloc ?_ _)); exact BK459.out) hb)
      have n12_ := Aside0.mk (below_step (by repeat (first | (with_reducible first | exact HB.out | apply below_alloc | apply pw_below_drewN | apply below_drew1 | refine below_set ?_ GE459.out) | exact HB.out)) hb)
      clear HO462
      clear HO471
      clear HO474
      clear HO480
      clear HO483
      clear HO486
      clear HO489
      clear HO492
      clear HO495
      clear HO498
      clear BK459
      clear HB
      have HO462 := n0_
      have HO471 := n1_
      have HO474 := n2_
      have HO480 := n3_
      have HO483 := n4_
      have HO486 := n5_
      have HO489 := n6_
      have HO492 := n7_
      have HO495 := n8_
      have HO498 := n9_
      have HO503 := n10_
      have BK459 := n11_
      have HB := n12_
      clear n0_ n1_ n2_ n3_ n4_ n5_ n6_ n7_ n8_ n9_ n10_ n11_ n12_
      clear hb ho56
      obtain ⟨Ao57, co57, eo57⟩ := Kd.N_slice HO503.out
      (first | subst eo57 | (injection eo57 with f1_ f2_ f3_; have f4_ := f1_.symm; have f5_ := f3_.symm; clear f1_ f2_ f3_; subst f4_; subst f5_))
      refine hK.out _ _ ⟨(blk_cell BK459.out 0).trans rfl, (blk_cell BK459.out 1).trans rfl, (blk_cell BK459.out 2).trans rfl⟩ (fun hHeld => ?_)
      clear hK K
      refine norm_ (a' := ?_) ?_ ?_
      rotate_left
      · show Act.put _ (some 41) _ = _
        simp only [Act.put, List.setIfInBounds_toArray, List.set_cons_zero, List.set_cons_succ, i64_w, i32_w]
        rfl
      refine one_ (i := 3) (N := some 42) #[true, true, true, true, true, false, false, true, false, false, false, false, false, false, false] rfl rfl (one_of HT_.out (by kernel_rfl)) (by decide) (fun K hK => ?_)
      refine goes_ Tryd.func21 (by kernel_rfl) rfl #[.int .i64 7, .slice Ao57 y501.length co57] (by rfl) rfl rfl (by (try simp only [List.map_toArray, List.map_cons, List.map_nil]); first | done | rfl | (simp only [List.length_drop, List.length_take]; rfl)) ?_
      with_reducible refine (foretellkeep_joined.calls k 7 _ _ y501 t504 _ ?side1 ?side2 A10.out).mono ?_
      (case side1 => repeat (first | exact (Kd.N_reads' HO503.out).2.2 | (with_reducible refine Kd.C_alloc ?_ _) | (with_reducible refine Kd.C_drewN ?_ _) | (with_reducible refine Kd.C_drew ?_)))
      (case side2 => exact (Kd.N_reads' HO503.out).2.1)
      rintro e w58 ⟨v505, rfl, ho0, hb⟩
      refine ⟨_, rfl, ?_⟩
      have n0_ := Aside0.mk (Kd.V_below (by (with_reducible repeat (first | apply Kd.V_alloc | apply Kd.V_drewN | apply Kd.V_drew)); exact HO462.out) hb)
      have n1_ := Aside0.mk (Kd.N_below (by (with_reducible repeat (first | apply Kd.N_alloc | apply Kd.N_drewN | apply Kd.N_drew)); exact HO471.out) hb)
      have n2_ := Aside0.mk (Kd.V_below (by (with_reducible repeat (first | apply Kd.V_alloc | apply Kd.V_drewN | apply Kd.V_drew)); exact HO474.out) hb)
      have n3_ := Aside0.mk (Kd.N_below (by (with_reducible repeat (first | apply Kd.N_alloc | apply Kd.N_drewN | apply Kd.N_drew)); exact HO480.out) hb)
      have n4_ := Aside0.mk (Kd.V_below (by (with_reducible repeat (first | apply Kd.V_alloc | apply Kd.V_drewN | apply Kd.V_drew)); exact HO483.out) hb)
      have n5_ := Aside0.mk (Kd.N_below (by (with_reducible repeat (first | apply Kd.N_alloc | apply Kd.N_drewN | apply Kd.N_drew)); exact HO486.out) hb)
      have n6_ := Aside0.mk (Kd.V_below (by (with_reducible repeat (first | apply Kd.V_alloc | apply Kd.V_drewN | apply Kd.V_drew)); exact HO489.out) hb)
      have n7_ := Aside0.mk (Kd.N_below (by (with_reducible repeat (first | apply Kd.N_alloc | apply Kd.N_drewN | apply Kd.N_drew)); exact HO492.out) hb)
      have n8_ := Aside0.mk (Kd.V_below (by (with_reducible repeat (first | apply Kd.V_alloc | apply Kd.V_drewN | apply Kd.V_drew)); exact HO495.out) hb)
      have n9_ := Aside0.mk (Kd.V_below (by (with_reducible repeat (first | apply Kd.V_alloc | apply Kd.V_drewN | apply Kd.V_drew)); exact HO498.out) hb)
      have n10_ := Aside0.mk (Kd.N_below (by (with_reducible repeat (first | apply Kd.N_alloc | apply Kd.N_drewN | apply Kd.N_drew)); exact HO503.out) hb)
      have n11_ := Aside0.mk (Kd.V_lower (Kd.V_mono (ok' := fun k_ => k_ ≠ gb459) (Kd.R_V (Kd.R_bound ho0)) (fun k_ hk_ => (Kd.freshB (g := gb459) (o := .cells #[.int .i64 a1_0, .int .i64 a1_1, .int .i64 a1_2] 45 (0, 0)) (by (with_reducible repeat (first | refine blk_drewN ?_ _ | refine blk_drew ?_ | refine blk_alloc ?_ _)); exact BK459.out) k_ hk_.2.1))) (below_size (by repeat (first | (with_reducible first | exact HB.out | apply below_alloc | apply pw_below_drewN | apply below_drew1 | refine below_set ?_ GE459.out) | exact HB.out))))
      have n12_ := Aside0.mk (blk_below (g := gb459) (o := .cells #[.int .i64 a1_0, .int .i64 a1_1, .int .i64 a1_2] 45 (0, 0)) (by (with_reducible repeat (first | refine blk_drewN ?_ _ | refine blk_drew ?_ | refine blk_alloc ?_ _)); exact BK459.out) hb)
      have n13_ := Aside0.mk (below_step (by repeat (first | (with_reducible first | exact HB.out | apply below_alloc | apply pw_below_drewN | apply below_drew1 | refine below_set ?_ GE459.out) | exact HB.out)) hb)
      clear HO462
      clear HO471
      clear HO474
      clear HO480
      clear HO483
      clear HO486
      clear HO489
      clear HO492
      clear HO495
      clear HO498
      clear HO503
      clear BK459
      clear HB
      have HO462 := n0_
      have HO471 := n1_
      have HO474 := n2_
      have HO480 := n3_
      have HO483 := n4_
      have HO486 := n5_
      have HO489 := n6_
      have HO492 := n7_
      have HO495 := n8_
      have HO498 := n9_
      have HO503 := n10_
      have HO506 := n11_
      have BK459 := n12_
      have HB := n13_
      clear n0_ n1_ n2_ n3_ n4_ n5_ n6_ n7_ n8_ n9_ n10_ n11_ n12_ n13_
      (try clear hb)
      (try clear hb2)
      (try clear hk)
      (try clear hi)
      (try clear ho0)
      obtain ⟨Ao59, co59, eo59⟩ := Kd.V_slice HO506.out
      (first | subst eo59 | (injection eo59 with f1_ f2_ f3_; have f4_ := f1_.symm; have f5_ := f3_.symm; clear f1_ f2_ f3_; subst f4_; subst f5_))
      refine hK.out _ _ ⟨(blk_cell BK459.out 0).trans rfl, (blk_cell BK459.out 1).trans rfl, (blk_cell BK459.out 2).trans rfl⟩ (fun hHeld => ?_)
      clear hK K
      refine norm_ (a' := ?_) ?_ ?_
      rotate_left
      · show Act.put _ (some 42) _ = _
        simp only [Act.put, List.setIfInBounds_toArray, List.set_cons_zero, List.set_cons_succ, i64_w, i32_w]
        rfl
      refine one_ (i := 5) (N := some 44) #[true, true, true, true, true, true, false, true, false, false, false, false, false, false, false] rfl rfl (one_of HT_.out (by kernel_rfl)) (by decide) (fun K hK => ?_)
      refine Kd.N_lit_step (Kd.slice 32 k32) _ 23 ?hg (N' := 44) ?hd (xs := ([t504, t460] : List (List (S32)))) (inner := [.slice Ao59 t504.length co59, .slice Ao38 t460.length co38]) (ok := (fun k_ => k_ ≠ gb459)) (okp := (fun k_ => k_ ≠ gb459)) ?hr ?hp (fun _ hk => hk) ((show ∀ k_, w58.heap.size ≤ k_ → (fun k_ => k_ ≠ gb459) k_ from fun k_ hk => Kd.freshB (g := gb459) (o := .cells #[.int .i64 a1_0, .int .i64 a1_1, .int .i64 a1_2] 45 (0, 0)) (by (with_reducible repeat (first | refine blk_drewN ?_ _ | refine blk_drew ?_ | refine blk_alloc ?_ _)); exact BK459.out) k_ hk) _ (Nat.le_refl _)) (Below.refl _ _) (Nat.le_refl _) (by simp) ?_; (case hd => rfl); (case hg => rfl); (case hr => first | (go_simp; done) | (go_simp; rfl)); (case hp => exact (Reps.one (show Kd.FK (Kd.slice 32 k32) _ _ t504 [.slice Ao59 t504.length co59] from (Kd.FK_slice_mk (Kd.V_reads' (Kd.V_mono (ok' := (fun k_ => k_ ≠ gb459)) (HO506.out) (fun k_ hk => hk))).2.1 (Kd.V_F (Kd.V_mono (ok' := (fun k_ => k_ ≠ gb459)) (HO506.out) (fun k_ hk => hk))))) (Reps.one (show Kd.FK (Kd.slice 32 k32) _ _ t460 [.slice Ao38 t460.length co38] from (Kd.FK_slice_mk (Kd.V_reads' (Kd.V_mono (ok' := (fun k_ => k_ ≠ gb459)) (HO462.out) (fun k_ hk => hk.1.1.1.1.1.1.1.1))).2.1 (Kd.V_F (Kd.V_mono (ok' := (fun k_ => k_ ≠ gb459)) (HO462.out) (fun k_ hk => hk.1.1.1.1.1.1.1.1))))) (Reps.none _ _))))
      intro v508 w60 ho61 hb hg_ hnew_
      clear hg_ hnew_
      (first | rw [← Ny507.out] at ho61 | (simp only [Int.reduceToNat] at ho61; rw [← Ny507.out] at ho61))
      have n0_ := Aside0.mk (Kd.V_elder' (by (with_reducible repeat (first | apply Kd.V_alloc | apply Kd.V_drewN | apply Kd.V_drew)); exact HO462.out) (by first | exact Kd.N_base ho61 | exact Kd.S_base ho61 | exact Kd.R_base ho61) hb)
      have n1_ := Aside0.mk (Kd.N_elder' (by (with_reducible repeat (first | apply Kd.N_alloc | apply Kd.N_drewN | apply Kd.N_drew)); exact HO471.out) (by first | exact Kd.N_base ho61 | exact Kd.S_base ho61 | exact Kd.R_base ho61) hb)
      have n2_ := Aside0.mk (Kd.V_elder' (by (with_reducible repeat (first | apply Kd.V_alloc | apply Kd.V_drewN | apply Kd.V_drew)); exact HO474.out) (by first | exact Kd.N_base ho61 | exact Kd.S_base ho61 | exact Kd.R_base ho61) hb)
      have n3_ := Aside0.mk (Kd.N_elder' (by (with_reducible repeat (first | apply Kd.N_alloc | apply Kd.N_drewN | apply Kd.N_drew)); exact HO480.out) (by first | exact Kd.N_base ho61 | exact Kd.S_base ho61 | exact Kd.R_base ho61) hb)
      have n4_ := Aside0.mk (Kd.V_elder' (by (with_reducible repeat (first | apply Kd.V_alloc | apply Kd.V_drewN | apply Kd.V_drew)); exact HO483.out) (by first | exact Kd.N_base ho61 | exact Kd.S_base ho61 | exact Kd.R_base ho61) hb)
      have n5_ := Aside0.mk (Kd.N_elder' (by (with_reducible repeat (first | apply Kd.N_alloc | apply Kd.N_drewN | apply Kd.N_drew)); exact HO486.out) (by first | exact Kd.N_base ho61 | exact Kd.S_base ho61 | exact Kd.R_base ho61) hb)
      have n6_ := Aside0.mk (Kd.V_elder' (by (with_reducible repeat (first | apply Kd.V_alloc | apply Kd.V_drewN | apply Kd.V_drew)); exact HO489.out) (by first | exact Kd.N_base ho61 | exact Kd.S_base ho61 | exact Kd.R_base ho61) hb)
      have n7_ := Aside0.mk (Kd.N_elder' (by (with_reducible repeat (first | apply Kd.N_alloc | apply Kd.N_drewN | apply Kd.N_drew)); exact HO492.out) (by first | exact Kd.N_base ho61 | exact Kd.S_base ho61 | exact Kd.R_base ho61) hb)
      have n8_ := Aside0.mk (Kd.V_elder' (by (with_reducible repeat (first | apply Kd.V_alloc | apply Kd.V_drewN | apply Kd.V_drew)); exact HO495.out) (by first | exact Kd.N_base ho61 | exact Kd.S_base ho61 | exact Kd.R_base ho61) hb)
      have n9_ := Aside0.mk (Kd.V_elder' (by (with_reducible repeat (first | apply Kd.V_alloc | apply Kd.V_drewN | apply Kd.V_drew)); exact HO498.out) (by first | exact Kd.N_base ho61 | exact Kd.S_base ho61 | exact Kd.R_base ho61) hb)
      have n10_ := Aside0.mk (Kd.N_elder' (by (with_reducible repeat (first | apply Kd.N_alloc | apply Kd.N_drewN | apply Kd.N_drew)); exact HO503.out) (by first | exact Kd.N_base ho61 | exact Kd.S_base ho61 | exact Kd.R_base ho61) hb)
      have n11_ := Aside0.mk (Kd.V_elder' (by (with_reducible repeat (first | apply Kd.V_alloc | apply Kd.V_drewN | apply Kd.V_drew)); exact HO506.out) (by first | exact Kd.N_base ho61 | exact Kd.S_base ho61 | exact Kd.R_base ho61) hb)
      have n12_ := Aside0.mk (Kd.N_lower ho61 (below_size (by repeat (first | (with_reducible first | exact HB.out | apply below_alloc | apply pw_below_drewN | apply below_drew1 | refine below_set ?_ GE459.out) | exact HB.out))))
      have n13_ := Aside0.mk (blk_below (g := gb459) (o := .cells #[.int .i64 a1_0, .int .i64 a1_1, .int .i64 a1_2] 45 (0, 0)) (by (with_reducible repeat (first | refine blk_drewN ?_ _ | refine blk_drew ?_ | refine blk_alloc ?_ _)); exact BK459.out) hb)
      have n14_ := Aside0.mk (below_step (by repeat (first | (with_reducible first | exact HB.out | apply below_alloc | apply pw_below_drewN | apply below_drew1 | refine below_set ?_ GE459.out) | exact HB.out)) hb)
      clear HO462
      clear HO471
      clear HO474
      clear HO480
      clear HO483
      clear HO486
      clear HO489
      clear HO492
      clear HO495
      clear HO498
      clear HO503
      clear HO506
      clear BK459
      clear HB
      have HO462 := n0_
      have HO471 := n1_
      have HO474 := n2_
      have HO480 := n3_
      have HO483 := n4_
      have HO486 := n5_
      have HO489 := n6_
      have HO492 := n7_
      have HO495 := n8_
      have HO498 := n9_
      have HO503 := n10_
      have HO506 := n11_
      have HO509 := n12_
      have BK459 := n13_
      have HB := n14_
      clear n0_ n1_ n2_ n3_ n4_ n5_ n6_ n7_ n8_ n9_ n10_ n11_ n12_ n13_ n14_
      clear hb ho61
      obtain ⟨Ao62, co62, eo62⟩ := Kd.N_slice HO509.out
      (first | subst eo62 | (injection eo62 with f1_ f2_ f3_; have f4_ := f1_.symm; have f5_ := f3_.symm; clear f1_ f2_ f3_; subst f4_; subst f5_))
      refine hK.out _ _ ⟨(blk_cell BK459.out 0).trans rfl, (blk_cell BK459.out 1).trans rfl, (blk_cell BK459.out 2).trans rfl⟩ (fun hHeld => ?_)
      clear hK K
      refine norm_ (a' := ?_) ?_ ?_
      rotate_left
      · show Act.put _ (some 44) _ = _
        simp only [Act.put, List.setIfInBounds_toArray, List.set_cons_zero, List.set_cons_succ, i64_w, i32_w]
        rfl
      refine one_ (i := 6) (N := some 45) #[true, true, true, true, true, true, true, true, false, false, false, false, false, false, false] rfl rfl (one_of HT_.out (by kernel_rfl)) (by decide) (fun K hK => ?_)
      refine goes_ Tryd.func21 (by kernel_rfl) rfl #[.int .i64 9, .slice Ao62 y507.length co62] (by rfl) rfl rfl (by (try simp only [List.map_toArray, List.map_cons, List.map_nil]); first | done | rfl | (simp only [List.length_drop, List.length_take]; rfl)) ?_
      with_reducible refine (foretellkeep_joined.calls k 9 _ _ y507 t510 _ ?side1 ?side2 A11.out).mono ?_
      (case side1 => repeat (first | exact (Kd.N_reads' HO509.out).2.2 | (with_reducible refine Kd.C_alloc ?_ _) | (with_reducible refine Kd.C_drewN ?_ _) | (with_reducible refine Kd.C_drew ?_)))
      (case side2 => exact (Kd.N_reads' HO509.out).2.1)
      rintro e w63 ⟨v511, rfl, ho0, hb⟩
      refine ⟨_, rfl, ?_⟩
      have n0_ := Aside0.mk (Kd.V_below (by (with_reducible repeat (first | apply Kd.V_alloc | apply Kd.V_drewN | apply Kd.V_drew)); exact HO462.out) hb)
      have n1_ := Aside0.mk (Kd.N_below (by (with_reducible repeat (first | apply Kd.N_alloc | apply Kd.N_drewN | apply Kd.N_drew)); exact HO471.out) hb)
      have n2_ := Aside0.mk (Kd.V_below (by (with_reducible repeat (first | apply Kd.V_alloc | apply Kd.V_drewN | apply Kd.V_drew)); exact HO474.out) hb)
      have n3_ := Aside0.mk (Kd.N_below (by (with_reducible repeat (first | apply Kd.N_alloc | apply Kd.N_drewN | apply Kd.N_drew)); exact HO480.out) hb)
      have n4_ := Aside0.mk (Kd.V_below (by (with_reducible repeat (first | apply Kd.V_alloc | apply Kd.V_drewN | apply Kd.V_drew)); exact HO483.out) hb)
      have n5_ := Aside0.mk (Kd.N_below (by (with_reducible repeat (first | apply Kd.N_alloc | apply Kd.N_drewN | apply Kd.N_drew)); exact HO486.out) hb)
      have n6_ := Aside0.mk (Kd.V_below (by (with_reducible repeat (first | apply Kd.V_alloc | apply Kd.V_drewN | apply Kd.V_drew)); exact HO489.out) hb)
      have n7_ := Aside0.mk (Kd.N_below (by (with_reducible repeat (first | apply Kd.N_alloc | apply Kd.N_drewN | apply Kd.N_drew)); exact HO492.out) hb)
      have n8_ := Aside0.mk (Kd.V_below (by (with_reducible repeat (first | apply Kd.V_alloc | apply Kd.V_drewN | apply Kd.V_drew)); exact HO495.out) hb)
      have n9_ := Aside0.mk (Kd.V_below (by (with_reducible repeat (first | apply Kd.V_alloc | apply Kd.V_drewN | apply Kd.V_drew)); exact HO498.out) hb)
      have n10_ := Aside0.mk (Kd.N_below (by (with_reducible repeat (first | apply Kd.N_alloc | apply Kd.N_drewN | apply Kd.N_drew)); exact HO503.out) hb)
      have n11_ := Aside0.mk (Kd.V_below (by (with_reducible repeat (first | apply Kd.V_alloc | apply Kd.V_drewN | apply Kd.V_drew)); exact HO506.out) hb)
      have n12_ := Aside0.mk (Kd.N_below (by (with_reducible repeat (first | apply Kd.N_alloc | apply Kd.N_drewN | apply Kd.N_drew)); exact HO509.out) hb)
      have n13_ := Aside0.mk (Kd.V_lower (Kd.V_mono (ok' := fun k_ => k_ ≠ gb459) (Kd.R_V (Kd.R_bound ho0)) (fun k_ hk_ => (Kd.freshB (g := gb459) (o := .cells #[.int .i64 a1_0, .int .i64 a1_1, .int .i64 a1_2] 45 (0, 0)) (by (with_reducible repeat (first | refine blk_drewN ?_ _ | refine blk_drew ?_ | refine blk_alloc ?_ _)); exact BK459.out) k_ hk_.2.1))) (below_size (by repeat (first | (with_reducible first | exact HB.out | apply below_alloc | apply pw_below_drewN | apply below_drew1 | refine below_set ?_ GE459.out) | exact HB.out))))
      have n14_ := Aside0.mk (blk_below (g := gb459) (o := .cells #[.int .i64 a1_0, .int .i64 a1_1, .int .i64 a1_2] 45 (0, 0)) (by (with_reducible repeat (first | refine blk_drewN ?_ _ | refine blk_drew ?_ | refine blk_alloc ?_ _)); exact BK459.out) hb)
      have n15_ := Aside0.mk (below_step (by repeat (first | (with_reducible first | exact HB.out | apply below_alloc | apply pw_below_drewN | apply below_drew1 | refine below_set ?_ GE459.out) | exact HB.out)) hb)
      clear HO462
      clear HO471
      clear HO474
      clear HO480
      clear HO483
      clear HO486
      clear HO489
      clear HO492
      clear HO495
      clear HO498
      clear HO503
      clear HO506
      clear HO509
      clear BK459
      clear HB
      have HO462 := n0_
      have HO471 := n1_
      have HO474 := n2_
      have HO480 := n3_
      have HO483 := n4_
      have HO486 := n5_
      have HO489 := n6_
      have HO492 := n7_
      have HO495 := n8_
      have HO498 := n9_
      have HO503 := n10_
      have HO506 := n11_
      have HO509 := n12_
      have HO512 := n13_
      have BK459 := n14_
      have HB := n15_
      clear n0_ n1_ n2_ n3_ n4_ n5_ n6_ n7_ n8_ n9_ n10_ n11_ n12_ n13_ n14_ n15_
      (try clear hb)
      (try clear hb2)
      (try clear hk)
      (try clear hi)
      (try clear ho0)
      refine hK.out _ _ ⟨(blk_cell BK459.out 0).trans rfl, (blk_cell BK459.out 1).trans rfl, (blk_cell BK459.out 2).trans rfl⟩ (fun hHeld => ?_)
      clear hK K
      refine norm_ (a' := ?_) ?_ ?_
      rotate_left
      · show Act.put _ (some 45) _ = _
        simp only [Act.put, List.setIfInBounds_toArray, List.set_cons_zero, List.set_cons_succ, i64_w, i32_w]
        rfl
      refine one_ (i := 8) (N := some 47) #[true, true, true, true, true, true, true, true, true, false, false, false, false, false, false] rfl rfl (one_of HT_.out (by kernel_rfl)) (by decide) (fun K hK => ?_)
      refine goes_ Tryd.func25 (by kernel_rfl) rfl #[.agg #[.int .i64 a1_0, .int .i64 a1_1, .int .i64 a1_2]] (by rfl) rfl rfl (by (try simp only [List.map_toArray, List.map_cons, List.map_nil]); first | done | rfl | (simp only [List.length_drop, List.length_take]; rfl)) ?_
      with_reducible refine (foretellkeep_env.calls a1_0 a1_1 a1_2 t513 _ A12.out).mono ?_
      rintro e w64 ⟨v514, rfl, ho0, hb⟩
      refine ⟨_, rfl, ?_⟩
      have n0_ := Aside0.mk (Kd.V_below (by (with_reducible repeat (first | apply Kd.V_alloc | apply Kd.V_drewN | apply Kd.V_drew)); exact HO462.out) hb)
      have n1_ := Aside0.mk (Kd.N_below (by (with_reducible repeat (first | apply Kd.N_alloc | apply Kd.N_drewN | apply Kd.N_drew)); exact HO471.out) hb)
      have n2_ := Aside0.mk (Kd.V_below (by (with_reducible repeat (first | apply Kd.V_alloc | apply Kd.V_drewN | apply Kd.V_drew)); exact HO474.out) hb)
      have n3_ := Aside0.mk (Kd.N_below (by (with_reducible repeat (first | apply Kd.N_alloc | apply Kd.N_drewN | apply Kd.N_drew)); exact HO480.out) hb)
      have n4_ := Aside0.mk (Kd.V_below (by (with_reducible repeat (first | apply Kd.V_alloc | apply Kd.V_drewN | apply Kd.V_drew)); exact HO483.out) hb)
      have n5_ := Aside0.mk (Kd.N_below (by (with_reducible repeat (first | apply Kd.N_alloc | apply Kd.N_drewN | apply Kd.N_drew)); exact HO486.out) hb)
      have n6_ := Aside0.mk (Kd.V_below (by (with_reducible repeat (first | apply Kd.V_alloc | apply Kd.V_drewN | apply Kd.V_drew)); exact HO489.out) hb)
      have n7_ := Aside0.mk (Kd.N_below (by (with_reducible repeat (first | apply Kd.N_alloc | apply Kd.N_drewN | apply Kd.N_drew)); exact HO492.out) hb)
      have n8_ := Aside0.mk (Kd.V_below (by (with_reducible repeat (first | apply Kd.V_alloc | apply Kd.V_drewN | apply Kd.V_drew)); exact HO495.out) hb)
      have n9_ := Aside0.mk (Kd.V_below (by (with_reducible repeat (first | apply Kd.V_alloc | apply Kd.V_drewN | apply Kd.V_drew)); exact HO498.out) hb)
      have n10_ := Aside0.mk (Kd.N_below (by (with_reducible repeat (first | apply Kd.N_alloc | apply Kd.N_drewN | apply Kd.N_drew)); exact HO503.out) hb)
      have n11_ := Aside0.mk (Kd.V_below (by (with_reducible repeat (first | apply Kd.V_alloc | apply Kd.V_drewN | apply Kd.V_drew)); exact HO506.out) hb)
      have n12_ := Aside0.mk (Kd.N_below (by (with_reducible repeat (first | apply Kd.N_alloc | apply Kd.N_drewN | apply Kd.N_drew)); exact HO509.out) hb)
      have n13_ := Aside0.mk (Kd.V_below (by (with_reducible repeat (first | apply Kd.V_alloc | apply Kd.V_drewN | apply Kd.V_drew)); exact HO512.out) hb)
      have n14_ := Aside0.mk (Kd.V_lower (Kd.V_mono (ok' := fun k_ => k_ ≠ gb459) (Kd.R_V (Kd.R_bound ho0)) (fun k_ hk_ => (Kd.freshB (g := gb459) (o := .cells #[.int .i64 a1_0, .int .i64 a1_1, .int .i64 a1_2] 45 (0, 0)) (by (with_reducible repeat (first | refine blk_drewN ?_ _ | refine blk_drew ?_ | refine blk_alloc ?_ _)); exact BK459.out) k_ hk_.2.1))) (below_size (by repeat (first | (with_reducible first | exact HB.out | apply below_alloc | apply pw_below_drewN | apply below_drew1 | refine below_set ?_ GE459.out) | exact HB.out))))
      have n15_ := Aside0.mk (blk_below (g := gb459) (o := .cells #[.int .i64 a1_0, .int .i64 a1_1, .int .i64 a1_2] 45 (0, 0)) (by (with_reducible repeat (first | refine blk_drewN ?_ _ | refine blk_drew ?_ | refine blk_alloc ?_ _)); exact BK459.out) hb)
      have n16_ := Aside0.mk (below_step (by repeat (first | (with_reducible first | exact HB.out | apply below_alloc | apply pw_below_drewN | apply below_drew1 | refine below_set ?_ GE459.out) | exact HB.out)) hb)
      clear HO462
      clear HO471
      clear HO474
      clear HO480
      clear HO483
      clear HO486
      clear HO489
      clear HO492
      clear HO495
      clear HO498
      clear HO503
      clear HO506
      clear HO509
      clear HO512
      clear BK459
      clear HB
      have HO462 := n0_
      have HO471 := n1_
      have HO474 := n2_
      have HO480 := n3_
      have HO483 := n4_
      have HO486 := n5_
      have HO489 := n6_
      have HO492 := n7_
      have HO495 := n8_
      have HO498 := n9_
      have HO503 := n10_
      have HO506 := n11_
      have HO509 := n12_
      have HO512 := n13_
      have HO515 := n14_
      have BK459 := n15_
      have HB := n16_
      clear n0_ n1_ n2_ n3_ n4_ n5_ n6_ n7_ n8_ n9_ n10_ n11_ n12_ n13_ n14_ n15_ n16_
      (try clear hb)
      (try clear hb2)
      (try clear hk)
      (try clear hi)
      (try clear ho0)
      obtain ⟨Ao65, co65, eo65⟩ := Kd.V_slice HO512.out
      (first | subst eo65 | (injection eo65 with f1_ f2_ f3_; have f4_ := f1_.symm; have f5_ := f3_.symm; clear f1_ f2_ f3_; subst f4_; subst f5_))
      obtain ⟨Ao66, co66, eo66⟩ := Kd.V_slice HO515.out
      (first | subst eo66 | (injection eo66 with f1_ f2_ f3_; have f4_ := f1_.symm; have f5_ := f3_.symm; clear f1_ f2_ f3_; subst f4_; subst f5_))
      refine hK.out _ _ ⟨(blk_cell BK459.out 0).trans rfl, (blk_cell BK459.out 1).trans rfl, (blk_cell BK459.out 2).trans rfl⟩ (fun hHeld => ?_)
      clear hK K
      refine norm_ (a' := ?_) ?_ ?_
      rotate_left
      · show Act.put _ (some 47) _ = _
        simp only [Act.put, List.setIfInBounds_toArray, List.set_cons_zero, List.set_cons_succ, i64_w, i32_w]
        rfl
      refine one_ (i := 9) (N := some 48) #[true, true, true, true, true, true, true, true, true, true, false, false, false, false, false] rfl rfl (one_of HT_.out (by kernel_rfl)) (by decide) (fun K hK => ?_)
      refine goes_ Tryd.func24 (by kernel_rfl) rfl #[.slice Ao65 t510.length co65, .slice Ao66 t513.length co66] (by rfl) rfl rfl (by (try simp only [List.map_toArray, List.map_cons, List.map_nil]); first | done | rfl | (simp only [List.length_drop, List.length_take]; rfl)) ?_
      with_reducible refine (expr_Eval.calls k _ _ t510 _ _ t513 t516 t517 _ ?side1 ?side2 ?side3 ?side4 ?side5 A13.out).mono ?_
      (case side1 => repeat (first | exact (Kd.V_reads' HO512.out).2.2 | (with_reducible refine Kd.C_alloc ?_ _) | (with_reducible refine Kd.C_drewN ?_ _) | (with_reducible refine Kd.C_drew ?_)))
      (case side2 => exact (Kd.V_reads' HO512.out).2.1)
      (case side3 => repeat (first | exact (Kd.V_reads' HO515.out).2.2 | (with_reducible refine Kd.C_alloc ?_ _) | (with_reducible refine Kd.C_drewN ?_ _) | (with_reducible refine Kd.C_drew ?_)))
      (case side4 => exact (Kd.V_reads' HO515.out).2.1)
      (case side5 => first | exact hG_ | exact Glob.drewN hG_ _ | exact Glob.below hG_ (by repeat (first | (with_reducible first | exact HB.out | apply below_alloc | apply pw_below_drewN | apply below_drew1 | refine below_set ?_ GE459.out) | exact HB.out)))
      rintro e w67 ⟨rfl, hb⟩
      refine ⟨_, rfl, ?_⟩
      have n0_ := Aside0.mk (Kd.V_below (by (with_reducible repeat (first | apply Kd.V_alloc | apply Kd.V_drewN | apply Kd.V_drew)); exact HO462.out) hb)
      have n1_ := Aside0.mk (Kd.N_below (by (with_reducible repeat (first | apply Kd.N_alloc | apply Kd.N_drewN | apply Kd.N_drew)); exact HO471.out) hb)
      have n2_ := Aside0.mk (Kd.V_below (by (with_reducible repeat (first | apply Kd.V_alloc | apply Kd.V_drewN | apply Kd.V_drew)); exact HO474.out) hb)
      have n3_ := Aside0.mk (Kd.N_below (by (with_reducible repeat (first | apply Kd.N_alloc | apply Kd.N_drewN | apply Kd.N_drew)); exact HO480.out) hb)
      have n4_ := Aside0.mk (Kd.V_below (by (with_reducible repeat (first | apply Kd.V_alloc | apply Kd.V_drewN | apply Kd.V_drew)); exact HO483.out) hb)
      have n5_ := Aside0.mk (Kd.N_below (by (with_reducible repeat (first | apply Kd.N_alloc | apply Kd.N_drewN | apply Kd.N_drew)); exact HO486.out) hb)
      have n6_ := Aside0.mk (Kd.V_below (by (with_reducible repeat (first | apply Kd.V_alloc | apply Kd.V_drewN | apply Kd.V_drew)); exact HO489.out) hb)
      have n7_ := Aside0.mk (Kd.N_below (by (with_reducible repeat (first | apply Kd.N_alloc | apply Kd.N_drewN | apply Kd.N_drew)); exact HO492.out) hb)
      have n8_ := Aside0.mk (Kd.V_below (by (with_reducible repeat (first | apply Kd.V_alloc | apply Kd.V_drewN | apply Kd.V_drew)); exact HO495.out) hb)
      have n9_ := Aside0.mk (Kd.V_below (by (with_reducible repeat (first | apply Kd.V_alloc | apply Kd.V_drewN | apply Kd.V_drew)); exact HO498.out) hb)
      have n10_ := Aside0.mk (Kd.N_below (by (with_reducible repeat (first | apply Kd.N_alloc | apply Kd.N_drewN | apply Kd.N_drew)); exact HO503.out) hb)
      have n11_ := Aside0.mk (Kd.V_below (by (with_reducible repeat (first | apply Kd.V_alloc | apply Kd.V_drewN | apply Kd.V_drew)); exact HO506.out) hb)
      have n12_ := Aside0.mk (Kd.N_below (by (with_reducible repeat (first | apply Kd.N_alloc | apply Kd.N_drewN | apply Kd.N_drew)); exact HO509.out) hb)
      have n13_ := Aside0.mk (Kd.V_below (by (with_reducible repeat (first | apply Kd.V_alloc | apply Kd.V_drewN | apply Kd.V_drew)); exact HO512.out) hb)
      have n14_ := Aside0.mk (Kd.V_below (by (with_reducible repeat (first | apply Kd.V_alloc | apply Kd.V_drewN | apply Kd.V_drew)); exact HO515.out) hb)
      have n15_ := Aside0.mk (blk_below (g := gb459) (o := .cells #[.int .i64 a1_0, .int .i64 a1_1, .int .i64 a1_2] 45 (0, 0)) (by (with_reducible repeat (first | refine blk_drewN ?_ _ | refine blk_drew ?_ | refine blk_alloc ?_ _)); exact BK459.out) hb)
      have n16_ := Aside0.mk (below_step (by repeat (first | (with_reducible first | exact HB.out | apply below_alloc | apply pw_below_drewN | apply below_drew1 | refine below_set ?_ GE459.out) | exact HB.out)) hb)
      clear HO462
      clear HO471
      clear HO474
      clear HO480
      clear HO483
      clear HO486
      clear HO489
      clear HO492
      clear HO495
      clear HO498
      clear HO503
      clear HO506
      clear HO509
      clear HO512
      clear HO515
      clear BK459
      clear HB
      have HO462 := n0_
      have HO471 := n1_
      have HO474 := n2_
      have HO480 := n3_
      have HO483 := n4_
      have HO486 := n5_
      have HO489 := n6_
      have HO492 := n7_
      have HO495 := n8_
      have HO498 := n9_
      have HO503 := n10_
      have HO506 := n11_
      have HO509 := n12_
      have HO512 := n13_
      have HO515 := n14_
      have BK459 := n15_
      have HB := n16_
      clear n0_ n1_ n2_ n3_ n4_ n5_ n6_ n7_ n8_ n9_ n10_ n11_ n12_ n13_ n14_ n15_ n16_
      (try clear hb)
      (try clear hb2)
      (try clear hk)
      (try clear hi)
      refine hK.out _ _ ⟨(blk_cell BK459.out 0).trans rfl, (blk_cell BK459.out 1).trans rfl, (blk_cell BK459.out 2).trans rfl⟩ (fun hHeld => ?_)
      clear hK K
      refine norm_ (a' := ?_) ?_ ?_
      rotate_left
      · show Act.put _ (some 48) _ = _
        simp only [Act.put, List.setIfInBounds_toArray, List.set_cons_zero, List.set_cons_succ, i64_w, i32_w]
        rfl
      refine pure_ (i := 10) (N := some 38) (v := ?_) (a' := ?_) #[true, true, true, true, true, true, true, true, true, true, true, false, false, false, false] rfl rfl (any_of HT_.out (by kernel_rfl)) (fun _ _ _ h => h) (Or.inl ⟨by rfl, ?_⟩) ?_ ?_
      rotate_left
      · intro w'
        go_simp
        with_reducible rfl
      rotate_left
      · simp only [Act.put, List.setIfInBounds_toArray, List.set_cons_zero, List.set_cons_succ, i64_w, i32_w]
        rfl
      refine pure_ (i := 11) (N := some 49) (v := ?_) (a' := ?_) #[true, true, true, true, true, true, true, true, true, true, true, true, false, false, false] rfl rfl (any_of HT_.out (by kernel_rfl)) (fun _ _ _ h => h) (Or.inl ⟨by rfl, ?_⟩) ?_ ?_
      rotate_left
      · intro w'
        go_simp
        with_reducible rfl
      rotate_left
      · simp only [Act.put, List.setIfInBounds_toArray, List.set_cons_zero, List.set_cons_succ, i64_w, i32_w]
        rfl
      refine pure_ (i := 12) (N := some 50) (v := ?_) (a' := ?_) #[true, true, true, true, true, true, true, true, true, true, true, true, true, false, false] rfl rfl (any_of HT_.out (by kernel_rfl)) (fun _ _ _ h => h) (Or.inl ⟨by rfl, ?_⟩) ?_ ?_
      rotate_left
      · intro w'
        go_simp
        with_reducible rfl
      rotate_left
      · simp only [Act.put, List.setIfInBounds_toArray, List.set_cons_zero, List.set_cons_succ, i64_w, i32_w]
        rfl
      refine pure_ (i := 13) (N := some 9) (v := ?_) (a' := ?_) #[true, true, true, true, true, true, true, true, true, true, true, true, true, true, false] rfl rfl (any_of HT_.out (by kernel_rfl)) (fun _ _ _ h => h) (Or.inl ⟨by rfl, ?_⟩) ?_ ?_
      rotate_left
      · intro w'
        go_simp
        with_reducible rfl
      rotate_left
      · simp only [Act.put, List.setIfInBounds_toArray, List.set_cons_zero, List.set_cons_succ, i64_w, i32_w]
        rfl
      refine pure_ (i := 14) (N := some 10) (v := ?_) (a' := ?_) #[true, true, true, true, true, true, true, true, true, true, true, true, true, true, true] rfl rfl (any_of HT_.out (by kernel_rfl)) (fun _ _ _ h => h) (Or.inl ⟨by rfl, ?_⟩) ?_ ?_
      rotate_left
      · intro w'
        go_simp
        with_reducible rfl
      rotate_left
      · simp only [Act.put, List.setIfInBounds_toArray, List.set_cons_zero, List.set_cons_succ, i64_w, i32_w]
        rfl
      refine done_ (done_of HT_.out (by kernel_rfl)) ?_
      have hcz68_0 : w67.cell? ⟨gb459, 0, none⟩ = some (.int .i64 a1_0) := (blk_cell BK459.out 0).trans rfl
      have hcz68_1 : w67.cell? ⟨gb459, 1, none⟩ = some (.int .i64 a1_1) := (blk_cell BK459.out 1).trans rfl
      have hcz68_2 : w67.cell? ⟨gb459, 2, none⟩ = some (.int .i64 a1_2) := (blk_cell BK459.out 2).trans rfl
      have hfz68_0 := blk_frozen BK459.out 0
      have hfz68_1 := blk_frozen BK459.out 1
      have hfz68_2 := blk_frozen BK459.out 2
      try go_wp2_with (first | ((with_reducible refine gate_callee (f := 25) rfl ?_); refine goesL_ (some 54) rfl rfl Tryd.func25 (by kernel_rfl) rfl #[.agg #[.int .i64 a1_0, .int .i64 a1_1, .int .i64 a1_2]] rfl (by (try simp only [List.map_toArray, List.map_cons, List.map_nil]); first | done | rfl | (simp only [List.length_drop, List.length_take]; rfl)) ?_; (with_reducible refine (foretellkeep_env.calls a1_0 a1_1 a1_2 t518 _ A14.out).mono ?_); rintro e w69 ⟨v519, rfl, ho0, hb⟩; refine ⟨_, rfl, ?_⟩; have n0_ := Aside0.mk (Kd.V_below (by (with_reducible repeat (first | apply Kd.V_alloc | apply Kd.V_drewN | apply Kd.V_drew)); exact HO462.out) hb); have n1_ := Aside0.mk (Kd.N_below (by (with_reducible repeat (first | apply Kd.N_alloc | apply Kd.N_drewN | apply Kd.N_drew)); exact HO471.out) hb); have n2_ := Aside0.mk (Kd.V_below (by (with_reducible repeat (first | apply Kd.V_alloc | apply Kd.V_drewN | apply Kd.V_drew)); exact HO474.out) hb); have n3_ := Aside0.mk (Kd.N_below (by (with_reducible repeat (first | apply Kd.N_alloc | apply Kd.N_drewN | apply Kd.N_drew)); exact HO480.out) hb); have n4_ := Aside0.mk (Kd.V_below (by (with_reducible repeat (first | apply Kd.V_alloc | apply Kd.V_drewN | apply Kd.V_drew)); exact HO483.out) hb); have n5_ := Aside0.mk (Kd.N_below (by (with_reducible repeat (first | apply Kd.N_alloc | apply Kd.N_drewN | apply Kd.N_drew)); exact HO486.out) hb); have n6_ := Aside0.mk (Kd.V_below (by (with_reducible repeat (first | apply Kd.V_alloc | apply Kd.V_drewN | apply Kd.V_drew)); exact HO489.out) hb); have n7_ := Aside0.mk (Kd.N_below (by (with_reducible repeat (first | apply Kd.N_alloc | apply Kd.N_drewN | apply Kd.N_drew)); exact HO492.out) hb); have n8_ := Aside0.mk (Kd.V_below (by (with_reducible repeat (first | apply Kd.V_alloc | apply Kd.V_drewN | apply Kd.V_drew)); exact HO495.out) hb); have n9_ := Aside0.mk (Kd.V_below (by (with_reducible repeat (first | apply Kd.V_alloc | apply Kd.V_drewN | apply Kd.V_drew)); exact HO498.out) hb); have n10_ := Aside0.mk (Kd.N_below (by (with_reducible repeat (first | apply Kd.N_alloc | apply Kd.N_drewN | apply Kd.N_drew)); exact HO503.out) hb); have n11_ := Aside0.mk (Kd.V_below (by (with_reducible repeat (first | apply Kd.V_alloc | apply Kd.V_drewN | apply Kd.V_drew)); exact HO506.out) hb); have n12_ := Aside0.mk (Kd.N_below (by (with_reducible repeat (first | apply Kd.N_alloc | apply Kd.N_drewN | apply Kd.N_drew)); exact HO509.out) hb); have n13_ := Aside0.mk (Kd.V_below (by (with_reducible repeat (first | apply Kd.V_alloc | apply Kd.V_drewN | apply Kd.V_drew)); exact HO512.out) hb); have n14_ := Aside0.mk (Kd.V_below (by (with_reducible repeat (first | apply Kd.V_alloc | apply Kd.V_drewN | apply Kd.V_drew)); exact HO515.out) hb); have n15_ := Aside0.mk (Kd.V_lower (Kd.V_mono (ok' := fun k_ => k_ ≠ gb459) (Kd.R_V (Kd.R_bound ho0)) (fun k_ hk_ => (Kd.freshB (g := gb459) (o := .cells #[.int .i64 a1_0, .int .i64 a1_1, .int .i64 a1_2] 45 (0, 0)) (by (with_reducible repeat (first | refine blk_drewN ?_ _ | refine blk_drew ?_ | refine blk_alloc ?_ _)); exact BK459.out) k_ hk_.2.1))) (below_size (by repeat (first | (with_reducible first | exact HB.out | apply below_alloc | apply pw_below_drewN | apply below_drew1 | refine below_set ?_ GE459.out) | exact HB.out)))); have n16_ := Aside0.mk (blk_below (g := gb459) (o := .cells #[.int .i64 a1_0, .int .i64 a1_1, .int .i64 a1_2] 45 (0, 0)) (by (with_reducible repeat (first | refine blk_drewN ?_ _ | refine blk_drew ?_ | refine blk_alloc ?_ _)); exact BK459.out) hb); have n17_ := Aside0.mk (below_step (by repeat (first | (with_reducible first | exact HB.out | apply below_alloc | apply pw_below_drewN | apply below_drew1 | refine below_set ?_ GE459.out) | exact HB.out)) hb); clear HO462; clear HO471; clear HO474; clear HO480; clear HO483; clear HO486; clear HO489; clear HO492; clear HO495; clear HO498; clear HO503; clear HO506; clear HO509; clear HO512; clear HO515; clear BK459; clear HB; have HO462 := n0_; have HO471 := n1_; have HO474 := n2_; have HO480 := n3_; have HO483 := n4_; have HO486 := n5_; have HO489 := n6_; have HO492 := n7_; have HO495 := n8_; have HO498 := n9_; have HO503 := n10_; have HO506 := n11_; have HO509 := n12_; have HO512 := n13_; have HO515 := n14_; have HO520 := n15_; have BK459 := n16_; have HB := n17_; clear n0_ n1_ n2_ n3_ n4_ n5_ n6_ n7_ n8_ n9_ n10_ n11_ n12_ n13_ n14_ n15_ n16_ n17_; (try clear hb); (try clear hb2); (try clear hk); (try clear hi); (try clear ho0); obtain ⟨Ao70, co70, eo70⟩ := Kd.V_slice HO520.out; subst eo70) | ((with_reducible refine gate_callee (f := 24) rfl ?_); refine goesL_ (some 55) rfl rfl Tryd.func24 (by kernel_rfl) rfl #[.slice Ao38 t460.length co38, .slice Ao70 t518.length co70] rfl (by (try simp only [List.map_toArray, List.map_cons, List.map_nil]); first | done | rfl | (simp only [List.length_drop, List.length_take]; rfl)) ?_; (with_reducible refine (expr_Eval.calls k _ _ t460 _ _ t518 t521 t522 _ ?side1 ?side2 ?side3 ?side4 ?side5 A15.out).mono ?_); (case side1 => repeat (first | exact (Kd.V_reads' HO462.out).2.2 | (with_reducible refine Kd.C_alloc ?_ _) | (with_reducible refine Kd.C_drewN ?_ _) | (with_reducible refine Kd.C_drew ?_))); (case side2 => exact (Kd.V_reads' HO462.out).2.1); (case side3 => repeat (first | exact (Kd.V_reads' HO520.out).2.2 | (with_reducible refine Kd.C_alloc ?_ _) | (with_reducible refine Kd.C_drewN ?_ _) | (with_reducible refine Kd.C_drew ?_))); (case side4 => exact (Kd.V_reads' HO520.out).2.1); (case side5 => first | exact hG_ | exact Glob.drewN hG_ _ | exact Glob.below hG_ (by repeat (first | (with_reducible first | exact HB.out | apply below_alloc | apply pw_below_drewN | apply below_drew1 | refine below_set ?_ GE459.out) | exact HB.out))); rintro e w71 ⟨rfl, hb⟩; refine ⟨_, rfl, ?_⟩; have n0_ := Aside0.mk (Kd.V_below (by (with_reducible repeat (first | apply Kd.V_alloc | apply Kd.V_drewN | apply Kd.V_drew)); exact HO462.out) hb); have n1_ := Aside0.mk (Kd.N_below (by (with_reducible repeat (first | apply Kd.N_alloc | apply Kd.N_drewN | apply Kd.N_drew)); exact HO471.out) hb); have n2_ := Aside0.mk (Kd.V_below (by (with_reducible repeat (first | apply Kd.V_alloc | apply Kd.V_drewN | apply Kd.V_drew)); exact HO474.out) hb); have n3_ := Aside0.mk (Kd.N_below (by (with_reducible repeat (first | apply Kd.N_alloc | apply Kd.N_drewN | apply Kd.N_drew)); exact HO480.out) hb); have n4_ := Aside0.mk (Kd.V_below (by (with_reducible repeat (first | apply Kd.V_alloc | apply Kd.V_drewN | apply Kd.V_drew)); exact HO483.out) hb); have n5_ := Aside0.mk (Kd.N_below (by (with_reducible repeat (first | apply Kd.N_alloc | apply Kd.N_drewN | apply Kd.N_drew)); exact HO486.out) hb); have n6_ := Aside0.mk (Kd.V_below (by (with_reducible repeat (first | apply Kd.V_alloc | apply Kd.V_drewN | apply Kd.V_drew)); exact HO489.out) hb); have n7_ := Aside0.mk (Kd.N_below (by (with_reducible repeat (first | apply Kd.N_alloc | apply Kd.N_drewN | apply Kd.N_drew)); exact HO492.out) hb); have n8_ := Aside0.mk (Kd.V_below (by (with_reducible repeat (first | apply Kd.V_alloc | apply Kd.V_drewN | apply Kd.V_drew)); exact HO495.out) hb); have n9_ := Aside0.mk (Kd.V_below (by (with_reducible repeat (first | apply Kd.V_alloc | apply Kd.V_drewN | apply Kd.V_drew)); exact HO498.out) hb); have n10_ := Aside0.mk (Kd.N_below (by (with_reducible repeat (first | apply Kd.N_alloc | apply Kd.N_drewN | apply Kd.N_drew)); exact HO503.out) hb); have n11_ := Aside0.mk (Kd.V_below (by (with_reducible repeat (first | apply Kd.V_alloc | apply Kd.V_drewN | apply Kd.V_drew)); exact HO506.out) hb); have n12_ := Aside0.mk (Kd.N_below (by (with_reducible repeat (first | apply Kd.N_alloc | apply Kd.N_drewN | apply Kd.N_drew)); exact HO509.out) hb); have n13_ := Aside0.mk (Kd.V_below (by (with_reducible repeat (first | apply Kd.V_alloc | apply Kd.V_drewN | apply Kd.V_drew)); exact HO512.out) hb); have n14_ := Aside0.mk (Kd.V_below (by (with_reducible repeat (first | apply Kd.V_alloc | apply Kd.V_drewN | apply Kd.V_drew)); exact HO515.out) hb); have n15_ := Aside0.mk (Kd.V_below (by (with_reducible repeat (first | apply Kd.V_alloc | apply Kd.V_drewN | apply Kd.V_drew)); exact HO520.out) hb); have n16_ := Aside0.mk (blk_below (g := gb459) (o := .cells #[.int .i64 a1_0, .int .i64 a1_1, .int .i64 a1_2] 45 (0, 0)) (by (with_reducible repeat (first | refine blk_drewN ?_ _ | refine blk_drew ?_ | refine blk_alloc ?_ _)); exact BK459.out) hb); have n17_ := Aside0.mk (below_step (by repeat (first | (with_reducible first | exact HB.out | apply below_alloc | apply pw_below_drewN | apply below_drew1 | refine below_set ?_ GE459.out) | exact HB.out)) hb); clear HO462; clear HO471; clear HO474; clear HO480; clear HO483; clear HO486; clear HO489; clear HO492; clear HO495; clear HO498; clear HO503; clear HO506; clear HO509; clear HO512; clear HO515; clear HO520; clear BK459; clear HB; have HO462 := n0_; have HO471 := n1_; have HO474 := n2_; have HO480 := n3_; have HO483 := n4_; have HO486 := n5_; have HO489 := n6_; have HO492 := n7_; have HO495 := n8_; have HO498 := n9_; have HO503 := n10_; have HO506 := n11_; have HO509 := n12_; have HO512 := n13_; have HO515 := n14_; have HO520 := n15_; have BK459 := n16_; have HB := n17_; clear n0_ n1_ n2_ n3_ n4_ n5_ n6_ n7_ n8_ n9_ n10_ n11_ n12_ n13_ n14_ n15_ n16_ n17_; (try clear hb); (try clear hb2); (try clear hk); (try clear hi)))
      go_ret
      exact ⟨by first | rfl | (simp [errW_none, errW_some] <;> rfl) | (simp [*, errW_none, errW_some] <;> rfl), by repeat (first | (with_reducible first | exact HB.out | apply below_alloc | apply pw_below_drewN | apply below_drew1 | refine below_set ?_ GE459.out) | exact HB.out)⟩
    · rw [if_neg c17] at H
      exact absurd ((Option.some.inj H).trans hr_.out) (by decide)
  · rw [if_neg c16] at H
    exact absurd ((Option.some.inj H).trans hr_.out) (by decide)

end Go.Proofs.YtlejdidngmjicaaDoor.P
