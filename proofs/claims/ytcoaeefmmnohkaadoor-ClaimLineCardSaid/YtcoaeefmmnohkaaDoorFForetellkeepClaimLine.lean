-- a walk, laid out by a program of this repo over the seat's translation
import Derived.Test.YtcoaeefmmnohkaaDoorF0
import Derived.Test.YtcoaeefmmnohkaaDoorFForm
import Derived.Test.YtcoaeefmmnohkaaDoorFLogic
import Derived.Test.YtcoaeefmmnohkaaDoorFTruths
import Derived.Test.YtcoaeefmmnohkaaDoorFSpell
import Derived.Test.YtcoaeefmmnohkaaDoorFLogicMeets
import Derived.Test.YtcoaeefmmnohkaaDoorFOpen
import Derived.Test.YtcoaeefmmnohkaaDoorFWordClaims
import Derived.Test.YtcoaeefmmnohkaaDoorFLogicFollows
namespace Go.Proofs.YtcoaeefmmnohkaaDoor.P
open Go.RowKit Go.Proofs.YtcoaeefmmnohkaaDoorW.PrintWords Go.Proofs.YtcoaeefmmnohkaaDoorW.PrintLast Go.Proofs.YtcoaeefmmnohkaaDoorW.PrintMore Go.Proofs.YtcoaeefmmnohkaaDoor.G
attribute [local go_sem] max2_int min2_int max_two min_two max_three min_three max_four min_four   -- for this text's walks alone
set_option linter.unusedVariables false
set_option linter.unusedSimpArgs false

/-! ### foretellkeep_ClaimLine: function 15 -/
mutual
def foretellkeep_ClaimLine.j0 : Nat → List (S51) → List Int → List Bool → List Int → Int → Bool → List (List Bool) → List (List Bool) → Option (Bool)
 | 0, _, _, _, _, _, _, _, _ => none
 | k + 1, x6, x7, x9, x11, x13, x73, x559000, x559001 => if x73 = true then (some false) else (if ([] : List (List Bool)).length + x559000.length < 5864062014805 then ((some (([] : List (List Bool)) ++ x559000 : List (List Bool))).bind fun y574 => (if y574.length + x559001.length < 5864062014805 then (foretellkeep_ClaimLine.l0 k x6 x7 x9 x11 x13 0 (y574 ++ x559001) 0 x559000 x559001) else (none))) else (none))
def foretellkeep_ClaimLine.l0 : Nat → List (S51) → List Int → List Bool → List Int → Int → Int → List (List Bool) → Int → List (List Bool) → List (List Bool) → Option (Bool)
 | 0, _, _, _, _, _, _, _, _, _, _ => none
 | k + 1, x6, x7, x9, x11, x13, x14, x15, x16, x559000, x559001 => if x16 < x13 then (if (wrap64 (x16 + 1)) = x13 then (foretellkeep_ClaimLine.j2 k x6 x7 x9 x11 x13 x14 x15 x16 (x559000.length : Int) x559000 x559001) else (foretellkeep_ClaimLine.j2 k x6 x7 x9 x11 x13 x14 x15 x16 (wrap64 (x16 + 1)) x559000 x559001)) else (some (x14 == (wrap64 ((shl .i64 1 (x11.length : Int)) - 1))))
def foretellkeep_ClaimLine.j2 : Nat → List (S51) → List Int → List Bool → List Int → Int → Int → List (List Bool) → Int → Int → List (List Bool) → List (List Bool) → Option (Bool)
 | 0, _, _, _, _, _, _, _, _, _, _, _ => none
 | k + 1, x6, x7, x9, x11, x13, x14, x15, x16, x17, x559000, x559001 => if 0 ≤ x16 then (if x16 < (x15.length : Int) then (if x16 < (x7.length : Int) then (if 0 ≤ x17 then (if x17 < (x15.length : Int) then (if x17 < (x7.length : Int) then ((logic_Follows.f k x6 (rd_L7 x15 x16) (rd x7 x16) (rd_L7 x15 x17) (rd x7 x17)).bind fun bt584 => (foretellkeep_ClaimLine.j3 k x6 x7 x9 x11 x13 x14 x15 x16 bt584.1 bt584.2 x559000 x559001)) else (none)) else (none)) else (none)) else (none)) else (none)) else (none)
def foretellkeep_ClaimLine.j3 : Nat → List (S51) → List Int → List Bool → List Int → Int → Int → List (List Bool) → Int → Bool → Int → List (List Bool) → List (List Bool) → Option (Bool)
 | 0, _, _, _, _, _, _, _, _, _, _, _, _ => none
 | k + 1, x6, x7, x9, x11, x13, x14, x15, x16, x18, x19, x559000, x559001 => if 0 ≤ x16 then (if x16 < (x15.length : Int) then (if x16 < (x7.length : Int) then ((logic_Truths.f k x6 (rd_L7 x15 x16) (rd x7 x16)).bind fun bt588 => ((logic_Meets.f k x6 (rd_L7 x15 x16) (rd x7 x16)).bind fun bt594 => (if x19 = 0 then (if bt588.2 = 0 then (if bt594.2 = 0 then (if x18 = true then (if (bt588.1.length : Int) = (x6.length : Int) then (if 0 < (bt588.1.length : Int) then (if x16 < (x9.length : Int) then (foretellkeep_ClaimLine.j4 k x6 x7 x9 x11 x13 x14 x15 x16 bt594.1 ((rdOf false bt588.1 0) != (rdOf false x9 x16)) x559000 x559001) else (none)) else (none)) else (none)) else (none)) else (none)) else (none)) else (none)))) else (none)) else (none)) else (none)
def foretellkeep_ClaimLine.j4 : Nat → List (S51) → List Int → List Bool → List Int → Int → Int → List (List Bool) → Int → Int → Bool → List (List Bool) → List (List Bool) → Option (Bool)
 | 0, _, _, _, _, _, _, _, _, _, _, _, _ => none
 | k + 1, x6, x7, x9, x11, x13, x14, x15, x16, x22, x170, x559000, x559001 => if x170 = true then (some false) else (if x16 ≥ (x559000.length : Int) then (foretellkeep_ClaimLine.l0 k x6 x7 x9 x11 x13 (Go.bits .or .i64 x14 x22) x15 (wrap64 (x16 + 1)) x559000 x559001) else (foretellkeep_ClaimLine.l0 k x6 x7 x9 x11 x13 x14 x15 (wrap64 (x16 + 1)) x559000 x559001))
end
def foretellkeep_ClaimLine.f (k : Nat) (l0 : List (S79)) (l1_0 : List Int) (l1_1 : List Int) : Option (Bool) := (foretellkeep_Word.f k l1_0 l1_1).bind fun bt552 => ((foretellkeep_Formula.f k l0 3 4).bind fun t559 => ((word_Claims.f k t559 bt552.1 bt552.2 3).bind fun bt562 => ((word_Moments.f k t559 bt552.1 bt552.2 3).bind fun bt566 => ((logic_Ahead.f k t559 3).bind fun bt570 => (if bt562.2 = 0 then (if bt566.2 = 0 then (if bt570.2 = 0 then (if (bt562.1.length : Int) = (wrap64 ((bt552.1.length : Int) + (bt552.2.length : Int))) then (foretellkeep_ClaimLine.j0 k t559 bt562.1 bt566.1 bt570.1 (wrap64 ((bt552.1.length : Int) + (bt552.2.length : Int))) ((bt566.1.length : Int) != (wrap64 ((bt552.1.length : Int) + (bt552.2.length : Int)))) bt552.1 bt552.2) else (none)) else (none)) else (none)) else (none))))))
theorem foretellkeep_ClaimLine.mono_l : ∀ k, (∀ y0 y1 y2 y3 y4 y5 y6 y7, LeO (foretellkeep_ClaimLine.j0 k y0 y1 y2 y3 y4 y5 y6 y7) (foretellkeep_ClaimLine.j0 (k + 1) y0 y1 y2 y3 y4 y5 y6 y7)) ∧ (∀ y0 y1 y2 y3 y4 y5 y6 y7 y8 y9, LeO (foretellkeep_ClaimLine.l0 k y0 y1 y2 y3 y4 y5 y6 y7 y8 y9) (foretellkeep_ClaimLine.l0 (k + 1) y0 y1 y2 y3 y4 y5 y6 y7 y8 y9)) ∧ (∀ y0 y1 y2 y3 y4 y5 y6 y7 y8 y9 y10, LeO (foretellkeep_ClaimLine.j2 k y0 y1 y2 y3 y4 y5 y6 y7 y8 y9 y10) (foretellkeep_ClaimLine.j2 (k + 1) y0 y1 y2 y3 y4 y5 y6 y7 y8 y9 y10)) ∧ (∀ y0 y1 y2 y3 y4 y5 y6 y7 y8 y9 y10 y11, LeO (foretellkeep_ClaimLine.j3 k y0 y1 y2 y3 y4 y5 y6 y7 y8 y9 y10 y11) (foretellkeep_ClaimLine.j3 (k + 1) y0 y1 y2 y3 y4 y5 y6 y7 y8 y9 y10 y11)) ∧ (∀ y0 y1 y2 y3 y4 y5 y6 y7 y8 y9 y10 y11, LeO (foretellkeep_ClaimLine.j4 k y0 y1 y2 y3 y4 y5 y6 y7 y8 y9 y10 y11) (foretellkeep_ClaimLine.j4 (k + 1) y0 y1 y2 y3 y4 y5 y6 y7 y8 y9 y10 y11))
 | 0 => ⟨fun _ _ _ _ _ _ _ _ r h => by simp [foretellkeep_ClaimLine.j0] at h, fun _ _ _ _ _ _ _ _ _ _ r h => by simp [foretellkeep_ClaimLine.l0] at h, fun _ _ _ _ _ _ _ _ _ _ _ r h => by simp [foretellkeep_ClaimLine.j2] at h, fun _ _ _ _ _ _ _ _ _ _ _ _ r h => by simp [foretellkeep_ClaimLine.j3] at h, fun _ _ _ _ _ _ _ _ _ _ _ _ r h => by simp [foretellkeep_ClaimLine.j4] at h⟩
 | k + 1 => by
  obtain ⟨ih0, ih1, ih2, ih3, ih4⟩ := foretellkeep_ClaimLine.mono_l k
  refine ⟨?_, ?_, ?_, ?_, ?_⟩
  ·
   intro y0 y1 y2 y3 y4 y5 y6 y7
   unfold foretellkeep_ClaimLine.j0
   repeat' first
   | (with_reducible exact ih0 _ _ _ _ _ _ _ _)
   | (with_reducible exact ih1 _ _ _ _ _ _ _ _ _ _)
   | (with_reducible exact ih2 _ _ _ _ _ _ _ _ _ _ _)
   | (with_reducible exact ih3 _ _ _ _ _ _ _ _ _ _ _ _)
   | (with_reducible exact ih4 _ _ _ _ _ _ _ _ _ _ _ _)
   | (with_reducible exact foretellkeep_Formula.mono _ _ _ _)
   | (with_reducible exact foretellkeep_Word.mono _ _ _)
   | (with_reducible exact logic_Ahead.mono _ _ _)
   | (with_reducible exact logic_Follows.mono _ _ _ _ _ _)
   | (with_reducible exact logic_Meets.mono _ _ _ _)
   | (with_reducible exact logic_Truths.mono _ _ _ _)
   | (with_reducible exact word_Claims.mono _ _ _ _ _)
   | (with_reducible exact word_Moments.mono _ _ _ _ _)
   | (with_reducible exact LeO.refl _)
   | (with_reducible exact LeO.none _)
   | (with_reducible refine LeO.ite ?_ ?_)
   | (with_reducible refine LeO.bind ?_ (fun _ => ?_))
   | exact ih0 _ _ _ _ _ _ _ _
   | exact ih1 _ _ _ _ _ _ _ _ _ _
   | exact ih2 _ _ _ _ _ _ _ _ _ _ _
   | exact ih3 _ _ _ _ _ _ _ _ _ _ _ _
   | exact ih4 _ _ _ _ _ _ _ _ _ _ _ _
   | exact foretellkeep_Formula.mono _ _ _ _
   | exact foretellkeep_Word.mono _ _ _
   | exact logic_Ahead.mono _ _ _
   | exact logic_Follows.mono _ _ _ _ _ _
   | exact logic_Meets.mono _ _ _ _
   | exact logic_Truths.mono _ _ _ _
   | exact word_Claims.mono _ _ _ _ _
   | exact word_Moments.mono _ _ _ _ _
   | exact LeO.none _
   | refine LeO.ite ?_ ?_
   | refine LeO.bind ?_ (fun _ => ?_)
  ·
   intro y0 y1 y2 y3 y4 y5 y6 y7 y8 y9
   unfold foretellkeep_ClaimLine.l0
   repeat' first
   | (with_reducible exact ih0 _ _ _ _ _ _ _ _)
   | (with_reducible exact ih1 _ _ _ _ _ _ _ _ _ _)
   | (with_reducible exact ih2 _ _ _ _ _ _ _ _ _ _ _)
   | (with_reducible exact ih3 _ _ _ _ _ _ _ _ _ _ _ _)
   | (with_reducible exact ih4 _ _ _ _ _ _ _ _ _ _ _ _)
   | (with_reducible exact foretellkeep_Formula.mono _ _ _ _)
   | (with_reducible exact foretellkeep_Word.mono _ _ _)
   | (with_reducible exact logic_Ahead.mono _ _ _)
   | (with_reducible exact logic_Follows.mono _ _ _ _ _ _)
   | (with_reducible exact logic_Meets.mono _ _ _ _)
   | (with_reducible exact logic_Truths.mono _ _ _ _)
   | (with_reducible exact word_Claims.mono _ _ _ _ _)
   | (with_reducible exact word_Moments.mono _ _ _ _ _)
   | (with_reducible exact LeO.refl _)
   | (with_reducible exact LeO.none _)
   | (with_reducible refine LeO.ite ?_ ?_)
   | (with_reducible refine LeO.bind ?_ (fun _ => ?_))
   | exact ih0 _ _ _ _ _ _ _ _
   | exact ih1 _ _ _ _ _ _ _ _ _ _
   | exact ih2 _ _ _ _ _ _ _ _ _ _ _
   | exact ih3 _ _ _ _ _ _ _ _ _ _ _ _
   | exact ih4 _ _ _ _ _ _ _ _ _ _ _ _
   | exact foretellkeep_Formula.mono _ _ _ _
   | exact foretellkeep_Word.mono _ _ _
   | exact logic_Ahead.mono _ _ _
   | exact logic_Follows.mono _ _ _ _ _ _
   | exact logic_Meets.mono _ _ _ _
   | exact logic_Truths.mono _ _ _ _
   | exact word_Claims.mono _ _ _ _ _
   | exact word_Moments.mono _ _ _ _ _
   | exact LeO.none _
   | refine LeO.ite ?_ ?_
   | refine LeO.bind ?_ (fun _ => ?_)
  ·
   intro y0 y1 y2 y3 y4 y5 y6 y7 y8 y9 y10
   unfold foretellkeep_ClaimLine.j2
   repeat' first
   | (with_reducible exact ih0 _ _ _ _ _ _ _ _)
   | (with_reducible exact ih1 _ _ _ _ _ _ _ _ _ _)
   | (with_reducible exact ih2 _ _ _ _ _ _ _ _ _ _ _)
   | (with_reducible exact ih3 _ _ _ _ _ _ _ _ _ _ _ _)
   | (with_reducible exact ih4 _ _ _ _ _ _ _ _ _ _ _ _)
   | (with_reducible exact foretellkeep_Formula.mono _ _ _ _)
   | (with_reducible exact foretellkeep_Word.mono _ _ _)
   | (with_reducible exact logic_Ahead.mono _ _ _)
   | (with_reducible exact logic_Follows.mono _ _ _ _ _ _)
   | (with_reducible exact logic_Meets.mono _ _ _ _)
   | (with_reducible exact logic_Truths.mono _ _ _ _)
   | (with_reducible exact word_Claims.mono _ _ _ _ _)
   | (with_reducible exact word_Moments.mono _ _ _ _ _)
   | (with_reducible exact LeO.refl _)
   | (with_reducible exact LeO.none _)
   | (with_reducible refine LeO.ite ?_ ?_)
   | (with_reducible refine LeO.bind ?_ (fun _ => ?_))
   | exact ih0 _ _ _ _ _ _ _ _
   | exact ih1 _ _ _ _ _ _ _ _ _ _
   | exact ih2 _ _ _ _ _ _ _ _ _ _ _
   | exact ih3 _ _ _ _ _ _ _ _ _ _ _ _
   | exact ih4 _ _ _ _ _ _ _ _ _ _ _ _
   | exact foretellkeep_Formula.mono _ _ _ _
   | exact foretellkeep_Word.mono _ _ _
   | exact logic_Ahead.mono _ _ _
   | exact logic_Follows.mono _ _ _ _ _ _
   | exact logic_Meets.mono _ _ _ _
   | exact logic_Truths.mono _ _ _ _
   | exact word_Claims.mono _ _ _ _ _
   | exact word_Moments.mono _ _ _ _ _
   | exact LeO.none _
   | refine LeO.ite ?_ ?_
   | refine LeO.bind ?_ (fun _ => ?_)
  ·
   intro y0 y1 y2 y3 y4 y5 y6 y7 y8 y9 y10 y11
   unfold foretellkeep_ClaimLine.j3
   repeat' first
   | (with_reducible exact ih0 _ _ _ _ _ _ _ _)
   | (with_reducible exact ih1 _ _ _ _ _ _ _ _ _ _)
   | (with_reducible exact ih2 _ _ _ _ _ _ _ _ _ _ _)
   | (with_reducible exact ih3 _ _ _ _ _ _ _ _ _ _ _ _)
   | (with_reducible exact ih4 _ _ _ _ _ _ _ _ _ _ _ _)
   | (with_reducible exact foretellkeep_Formula.mono _ _ _ _)
   | (with_reducible exact foretellkeep_Word.mono _ _ _)
   | (with_reducible exact logic_Ahead.mono _ _ _)
   | (with_reducible exact logic_Follows.mono _ _ _ _ _ _)
   | (with_reducible exact logic_Meets.mono _ _ _ _)
   | (with_reducible exact logic_Truths.mono _ _ _ _)
   | (with_reducible exact word_Claims.mono _ _ _ _ _)
   | (with_reducible exact word_Moments.mono _ _ _ _ _)
   | (with_reducible exact LeO.refl _)
   | (with_reducible exact LeO.none _)
   | (with_reducible refine LeO.ite ?_ ?_)
   | (with_reducible refine LeO.bind ?_ (fun _ => ?_))
   | exact ih0 _ _ _ _ _ _ _ _
   | exact ih1 _ _ _ _ _ _ _ _ _ _
   | exact ih2 _ _ _ _ _ _ _ _ _ _ _
   | exact ih3 _ _ _ _ _ _ _ _ _ _ _ _
   | exact ih4 _ _ _ _ _ _ _ _ _ _ _ _
   | exact foretellkeep_Formula.mono _ _ _ _
   | exact foretellkeep_Word.mono _ _ _
   | exact logic_Ahead.mono _ _ _
   | exact logic_Follows.mono _ _ _ _ _ _
   | exact logic_Meets.mono _ _ _ _
   | exact logic_Truths.mono _ _ _ _
   | exact word_Claims.mono _ _ _ _ _
   | exact word_Moments.mono _ _ _ _ _
   | exact LeO.none _
   | refine LeO.ite ?_ ?_
   | refine LeO.bind ?_ (fun _ => ?_)
  ·
   intro y0 y1 y2 y3 y4 y5 y6 y7 y8 y9 y10 y11
   unfold foretellkeep_ClaimLine.j4
   repeat' first
   | (with_reducible exact ih0 _ _ _ _ _ _ _ _)
   | (with_reducible exact ih1 _ _ _ _ _ _ _ _ _ _)
   | (with_reducible exact ih2 _ _ _ _ _ _ _ _ _ _ _)
   | (with_reducible exact ih3 _ _ _ _ _ _ _ _ _ _ _ _)
   | (with_reducible exact ih4 _ _ _ _ _ _ _ _ _ _ _ _)
   | (with_reducible exact foretellkeep_Formula.mono _ _ _ _)
   | (with_reducible exact foretellkeep_Word.mono _ _ _)
   | (with_reducible exact logic_Ahead.mono _ _ _)
   | (with_reducible exact logic_Follows.mono _ _ _ _ _ _)
   | (with_reducible exact logic_Meets.mono _ _ _ _)
   | (with_reducible exact logic_Truths.mono _ _ _ _)
   | (with_reducible exact word_Claims.mono _ _ _ _ _)
   | (with_reducible exact word_Moments.mono _ _ _ _ _)
   | (with_reducible exact LeO.refl _)
   | (with_reducible exact LeO.none _)
   | (with_reducible refine LeO.ite ?_ ?_)
   | (with_reducible refine LeO.bind ?_ (fun _ => ?_))
   | exact ih0 _ _ _ _ _ _ _ _
   | exact ih1 _ _ _ _ _ _ _ _ _ _
   | exact ih2 _ _ _ _ _ _ _ _ _ _ _
   | exact ih3 _ _ _ _ _ _ _ _ _ _ _ _
   | exact ih4 _ _ _ _ _ _ _ _ _ _ _ _
   | exact foretellkeep_Formula.mono _ _ _ _
   | exact foretellkeep_Word.mono _ _ _
   | exact logic_Ahead.mono _ _ _
   | exact logic_Follows.mono _ _ _ _ _ _
   | exact logic_Meets.mono _ _ _ _
   | exact logic_Truths.mono _ _ _ _
   | exact word_Claims.mono _ _ _ _ _
   | exact word_Moments.mono _ _ _ _ _
   | exact LeO.none _
   | refine LeO.ite ?_ ?_
   | refine LeO.bind ?_ (fun _ => ?_)
theorem foretellkeep_ClaimLine.mono : ∀ a0 a1 a2 k, LeO (foretellkeep_ClaimLine.f k a0 a1 a2) (foretellkeep_ClaimLine.f (k + 1) a0 a1 a2) := by
 intro a0 a1 a2 k
 obtain ⟨ih0, ih1, ih2, ih3, ih4⟩ := foretellkeep_ClaimLine.mono_l k
 unfold foretellkeep_ClaimLine.f
 repeat' first
   | (with_reducible exact ih0 _ _ _ _ _ _ _ _)
   | (with_reducible exact ih1 _ _ _ _ _ _ _ _ _ _)
   | (with_reducible exact ih2 _ _ _ _ _ _ _ _ _ _ _)
   | (with_reducible exact ih3 _ _ _ _ _ _ _ _ _ _ _ _)
   | (with_reducible exact ih4 _ _ _ _ _ _ _ _ _ _ _ _)
   | (with_reducible exact foretellkeep_Formula.mono _ _ _ _)
   | (with_reducible exact foretellkeep_Word.mono _ _ _)
   | (with_reducible exact logic_Ahead.mono _ _ _)
   | (with_reducible exact logic_Follows.mono _ _ _ _ _ _)
   | (with_reducible exact logic_Meets.mono _ _ _ _)
   | (with_reducible exact logic_Truths.mono _ _ _ _)
   | (with_reducible exact word_Claims.mono _ _ _ _ _)
   | (with_reducible exact word_Moments.mono _ _ _ _ _)
   | (with_reducible exact LeO.refl _)
   | (with_reducible exact LeO.none _)
   | (with_reducible refine LeO.ite ?_ ?_)
   | (with_reducible refine LeO.bind ?_ (fun _ => ?_))
   | exact ih0 _ _ _ _ _ _ _ _
   | exact ih1 _ _ _ _ _ _ _ _ _ _
   | exact ih2 _ _ _ _ _ _ _ _ _ _ _
   | exact ih3 _ _ _ _ _ _ _ _ _ _ _ _
   | exact ih4 _ _ _ _ _ _ _ _ _ _ _ _
   | exact foretellkeep_Formula.mono _ _ _ _
   | exact foretellkeep_Word.mono _ _ _
   | exact logic_Ahead.mono _ _ _
   | exact logic_Follows.mono _ _ _ _ _ _
   | exact logic_Meets.mono _ _ _ _
   | exact logic_Truths.mono _ _ _ _
   | exact word_Claims.mono _ _ _ _ _
   | exact word_Moments.mono _ _ _ _ _
   | exact LeO.none _
   | refine LeO.ite ?_ ?_
   | refine LeO.bind ?_ (fun _ => ?_)
def foretellkeep_ClaimLine.T17 : Bool × List (List Nat × List Nat) := (true, [([], []), ([], []), ([], []), ([1, 2], [1, 2]), ([3], [3]), ([], []), ([], []), ([5, 6], [5, 6]), ([7], [7]), ([], []), ([], []), ([9, 10], [9, 10]), ([11], [11]), ([], []), ([], []), ([13, 14], [13, 14]), ([15], [15]), ([0, 4, 8, 12, 16], [0, 4, 8, 12, 16]), ([17], [17]), ([18], [18]), ([18], [18]), ([19, 17, 0, 1, 2, 3, 4, 5, 6, 7, 8, 9, 10, 11, 12, 13, 14, 15, 16, 17, 18, 19], [19]), ([20, 21, 0, 1, 2, 3, 4, 5, 6, 7, 8, 9, 10, 11, 12, 13, 14, 15, 16, 17, 18, 19, 20, 21], [20])])
def foretellkeep_ClaimLine.B17 : List Nat := [0, 0, 0, 6, 14, 0, 0, 96, 224, 0, 0, 1536, 3584, 0, 0, 24576, 57344, 131071, 262143, 524287, 524287, 1048575, 4194303]
theorem foretellkeep_ClaimLine.tab17 : rtab .any (opsOf Tryd.f15 17) = foretellkeep_ClaimLine.T17 := by kernel_rfl
theorem foretellkeep_ClaimLine.bits17 : waitsOk foretellkeep_ClaimLine.T17.2 foretellkeep_ClaimLine.B17 = true := by kernel_rfl
def foretellkeep_ClaimLine.T18 : Bool × List (List Nat × List Nat) := (true, [([], []), ([], []), ([], []), ([1, 2], [1, 2]), ([3], [3]), ([], []), ([], []), ([5, 6], [5, 6]), ([7], [7]), ([0, 4, 8], [0, 4, 8]), ([9], [9]), ([10], [10]), ([10], [10]), ([11, 9, 0, 1, 2, 3, 4, 5, 6, 7, 8, 9, 10, 11], [11]), ([12, 13, 0, 1, 2, 3, 4, 5, 6, 7, 8, 9, 10, 11, 12, 13], [12])])
def foretellkeep_ClaimLine.B18 : List Nat := [0, 0, 0, 6, 14, 0, 0, 96, 224, 511, 1023, 2047, 2047, 4095, 16383]
theorem foretellkeep_ClaimLine.tab18 : rtab .any (opsOf Tryd.f15 18) = foretellkeep_ClaimLine.T18 := by kernel_rfl
theorem foretellkeep_ClaimLine.bits18 : waitsOk foretellkeep_ClaimLine.T18.2 foretellkeep_ClaimLine.B18 = true := by kernel_rfl
def foretellkeep_ClaimLine.T19 : Bool × List (List Nat × List Nat) := (true, [([], []), ([], []), ([], []), ([1, 2], [1, 2]), ([3], [3]), ([], []), ([], []), ([5, 6], [5, 6]), ([7], [7]), ([0, 4, 8], [0, 4, 8]), ([9], [9]), ([10], [10]), ([10], [10]), ([11, 9, 0, 1, 2, 3, 4, 5, 6, 7, 8, 9, 10, 11], [11]), ([12, 13, 0, 1, 2, 3, 4, 5, 6, 7, 8, 9, 10, 11, 12, 13], [12])])
def foretellkeep_ClaimLine.B19 : List Nat := [0, 0, 0, 6, 14, 0, 0, 96, 224, 511, 1023, 2047, 2047, 4095, 16383]
theorem foretellkeep_ClaimLine.tab19 : rtab .any (opsOf Tryd.f15 19) = foretellkeep_ClaimLine.T19 := by kernel_rfl
theorem foretellkeep_ClaimLine.bits19 : waitsOk foretellkeep_ClaimLine.T19.2 foretellkeep_ClaimLine.B19 = true := by kernel_rfl
def foretellkeep_ClaimLine.T20 : Bool × List (List Nat × List Nat) := (true, [([], []), ([0], [0]), ([1], [1]), ([2], [2]), ([3, 2], [2, 3]), ([2, 4], [2, 4]), ([5, 2], [5]), ([6], [6]), ([7, 6], [6, 7]), ([6, 8], [6, 8]), ([9, 6], [9]), ([10], [10]), ([11, 10], [10, 11]), ([10, 12], [10, 12]), ([13, 10], [13]), ([14], [14]), ([15, 14], [14, 15]), ([14], [14]), ([17, 14], [14, 17]), ([16, 18, 14], [14, 16, 18]), ([14, 19], [14, 19]), ([20, 14], [20]), ([21], [21]), ([22, 21], [21, 22]), ([23, 21], [21, 23]), ([21], [21]), ([21], [21]), ([25, 26, 21], [21, 25, 26]), ([27, 21], [21, 27]), ([24, 28, 21], [21, 24, 28]), ([21, 29], [21, 29])])
def foretellkeep_ClaimLine.B20 : List Nat := [0, 1, 3, 7, 15, 31, 63, 127, 255, 511, 1023, 2047, 4095, 8191, 16383, 32767, 65535, 32767, 163839, 524287, 1048575, 2097151, 4194303, 8388607, 16777215, 4194303, 4194303, 104857599, 239075327, 536870911, 1073741823]
theorem foretellkeep_ClaimLine.tab20 : rtab .any (opsOf Tryd.f15 20) = foretellkeep_ClaimLine.T20 := by kernel_rfl
theorem foretellkeep_ClaimLine.bits20 : waitsOk foretellkeep_ClaimLine.T20.2 foretellkeep_ClaimLine.B20 = true := by kernel_rfl
set_option maxHeartbeats 8000000 in
set_option maxRecDepth 100000 in
theorem foretellkeep_ClaimLine.calls (k : Nat) (A0 : Option Addr) (c0 : Nat) (l0 : List (S79)) (A1_0 : Option Addr) (c1_0 : Nat) (l1_0 : List Int) (A1_1 : Option Addr) (c1_1 : Nat) (l1_1 : List Int) (r : Bool) (w : World) (hr0 : Kd.C k79 w A0 l0.length l0) (hc0 : l0.length ≤ c0) (hr1_0 : Kd.C (Kd.int .i64) w A1_0 l1_0.length l1_0) (hc1_0 : l1_0.length ≤ c1_0) (hr1_1 : Kd.C (Kd.int .i64) w A1_1 l1_1.length l1_1) (hc1_1 : l1_1.length ≤ c1_1) (hG_ : Glob w) (hr_ : Aside0 (r = true)) (h : foretellkeep_ClaimLine.f k l0 l1_0 l1_1 = some r) :
  Calls Tryd.prog 15 #[.slice A0 l0.length c0, .agg #[.slice A1_0 l1_0.length c1_0, .slice A1_1 l1_1.length c1_1]] w fun e w' => e = .returned (.bool r) ∧ Below w.heap.size w w' := by
 have hu40 := Tryd.underlying40
 have hu43 := Tryd.underlying43
 have HR0 := Aside0.mk hr0
 have HC0 := Aside0.mk hc0
 clear hr0 hc0
 have HR1_0 := Aside0.mk hr1_0
 have HC1_0 := Aside0.mk hc1_0
 clear hr1_0 hc1_0
 have HR1_1 := Aside0.mk hr1_1
 have HC1_1 := Aside0.mk hc1_1
 clear hr1_1 hc1_1
 have HB := Aside0.mk (Below.refl w.heap.size w)
 have H : ((foretellkeep_Word.f k l1_0 l1_1).bind fun bt552 => ((foretellkeep_Formula.f k l0 3 4).bind fun t559 => ((word_Claims.f k t559 bt552.1 bt552.2 3).bind fun bt562 => ((word_Moments.f k t559 bt552.1 bt552.2 3).bind fun bt566 => ((logic_Ahead.f k t559 3).bind fun bt570 => (if bt562.2 = 0 then (if bt566.2 = 0 then (if bt570.2 = 0 then (if (bt562.1.length : Int) = (wrap64 ((bt552.1.length : Int) + (bt552.2.length : Int))) then (foretellkeep_ClaimLine.j0 k t559 bt562.1 bt566.1 bt570.1 (wrap64 ((bt552.1.length : Int) + (bt552.2.length : Int))) ((bt566.1.length : Int) != (wrap64 ((bt552.1.length : Int) + (bt552.2.length : Int)))) bt552.1 bt552.2) else (none)) else (none)) else (none)) else (none))))))) = some r := h
 clear h
 replace H := Option.bind_eq_some_iff.mp H
 obtain ⟨⟨t552, t555⟩, A30, H⟩ := H
 replace H : ((foretellkeep_Formula.f k l0 3 4).bind fun t559 => ((word_Claims.f k t559 t552 t555 3).bind fun bt562 => ((word_Moments.f k t559 t552 t555 3).bind fun bt566 => ((logic_Ahead.f k t559 3).bind fun bt570 => (if bt562.2 = 0 then (if bt566.2 = 0 then (if bt570.2 = 0 then (if (bt562.1.length : Int) = (wrap64 ((t552.length : Int) + (t555.length : Int))) then (foretellkeep_ClaimLine.j0 k t559 bt562.1 bt566.1 bt570.1 (wrap64 ((t552.length : Int) + (t555.length : Int))) ((bt566.1.length : Int) != (wrap64 ((t552.length : Int) + (t555.length : Int)))) t552 t555) else (none)) else (none)) else (none)) else (none)))))) = some r := H
 have A3 := Aside0.mk A30
 clear A30
 replace H := Option.bind_eq_some_iff.mp H
 obtain ⟨t559, A40, H⟩ := H
 replace H : ((word_Claims.f k t559 t552 t555 3).bind fun bt562 => ((word_Moments.f k t559 t552 t555 3).bind fun bt566 => ((logic_Ahead.f k t559 3).bind fun bt570 => (if bt562.2 = 0 then (if bt566.2 = 0 then (if bt570.2 = 0 then (if (bt562.1.length : Int) = (wrap64 ((t552.length : Int) + (t555.length : Int))) then (foretellkeep_ClaimLine.j0 k t559 bt562.1 bt566.1 bt570.1 (wrap64 ((t552.length : Int) + (t555.length : Int))) ((bt566.1.length : Int) != (wrap64 ((t552.length : Int) + (t555.length : Int)))) t552 t555) else (none)) else (none)) else (none)) else (none))))) = some r := H
 have A4 := Aside0.mk A40
 clear A40
 replace H := Option.bind_eq_some_iff.mp H
 obtain ⟨⟨t562, t565⟩, A50, H⟩ := H
 replace H : ((word_Moments.f k t559 t552 t555 3).bind fun bt566 => ((logic_Ahead.f k t559 3).bind fun bt570 => (if t565 = 0 then (if bt566.2 = 0 then (if bt570.2 = 0 then (if (t562.length : Int) = (wrap64 ((t552.length : Int) + (t555.length : Int))) then (foretellkeep_ClaimLine.j0 k t559 t562 bt566.1 bt570.1 (wrap64 ((t552.length : Int) + (t555.length : Int))) ((bt566.1.length : Int) != (wrap64 ((t552.length : Int) + (t555.length : Int)))) t552 t555) else (none)) else (none)) else (none)) else (none)))) = some r := H
 have A5 := Aside0.mk A50
 clear A50
 replace H := Option.bind_eq_some_iff.mp H
 obtain ⟨⟨t566, t569⟩, A60, H⟩ := H
 replace H : ((logic_Ahead.f k t559 3).bind fun bt570 => (if t565 = 0 then (if t569 = 0 then (if bt570.2 = 0 then (if (t562.length : Int) = (wrap64 ((t552.length : Int) + (t555.length : Int))) then (foretellkeep_ClaimLine.j0 k t559 t562 t566 bt570.1 (wrap64 ((t552.length : Int) + (t555.length : Int))) ((t566.length : Int) != (wrap64 ((t552.length : Int) + (t555.length : Int)))) t552 t555) else (none)) else (none)) else (none)) else (none))) = some r := H
 have A6 := Aside0.mk A60
 clear A60
 replace H := Option.bind_eq_some_iff.mp H
 obtain ⟨⟨t570, t571⟩, A70, H⟩ := H
 replace H : (if t565 = 0 then (if t569 = 0 then (if t571 = 0 then (if (t562.length : Int) = (wrap64 ((t552.length : Int) + (t555.length : Int))) then (foretellkeep_ClaimLine.j0 k t559 t562 t566 t570 (wrap64 ((t552.length : Int) + (t555.length : Int))) ((t566.length : Int) != (wrap64 ((t552.length : Int) + (t555.length : Int)))) t552 t555) else (none)) else (none)) else (none)) else (none)) = some r := H
 have A7 := Aside0.mk A70
 clear A70
 have HC8 := Aside0.mk H
 clear H
 go_enter Tryd.func15, Tryd.ntmps15
 go_upto_region 7 with (first | ((with_reducible refine gate_dst (N := 3) rfl ?_); (try (refine gate_guard (by rfl) ?_; dsimp only)); refine box_event ?hg (N := 3) ?hd (cs := #[.slice A1_0 l1_0.length c1_0, .slice A1_1 l1_1.length c1_1]) (t := 40) ?hr ?_; (case hd => rfl); (case hg => rfl); (case hr => first | (go_simp; done) | (go_simp; rfl)); intro gb551 hg w9 hbox hb; have n0_ := Aside0.mk (below_step (by repeat (first | (with_reducible first | exact HB.out | apply below_alloc | apply pw_below_drewN | apply below_drew1) | exact HB.out)) hb); have n1_ := Aside0.mk (hbox); have n2_ := Aside0.mk ((by rw [hg]; exact (below_size (by repeat (first | (with_reducible first | exact HB.out | apply below_alloc | apply pw_below_drewN | apply below_drew1) | exact HB.out))) : w.heap.size ≤ gb551)); have n3_ := Aside0.mk ((by rw [hg]; exact (below_size (by repeat (first | (with_reducible first | exact HB.out | apply below_alloc | apply pw_below_drewN | apply below_drew1) | exact HB.out))) : w.heap.size ≤ gb551)); clear HB; have HB := n0_; have BK551 := n1_; have GW551 := n2_; have GE551 := n3_; clear n0_ n1_ n2_ n3_; clear hb hbox hg; have hcz10_0 : w9.cell? ⟨gb551, 0, none⟩ = some (.slice A1_0 l1_0.length c1_0) := (blk_cell BK551.out 0).trans rfl; have hcz10_1 : w9.cell? ⟨gb551, 1, none⟩ = some (.slice A1_1 l1_1.length c1_1) := (blk_cell BK551.out 1).trans rfl; have hfz10_0 := blk_frozen BK551.out 0; have hfz10_1 := blk_frozen BK551.out 1) | ((with_reducible refine gate_callee (f := 23) rfl ?_); refine goesL_ (some 25) rfl rfl Tryd.func23 (by kernel_rfl) rfl #[.agg #[.slice A1_0 l1_0.length c1_0, .slice A1_1 l1_1.length c1_1]] rfl (by (try simp only [List.map_toArray, List.map_cons, List.map_nil]); first | done | rfl | (simp only [List.length_drop, List.length_take]; rfl)) ?_; (with_reducible refine (foretellkeep_Word.calls k _ _ l1_0 _ _ l1_1 t552 t555 _ ?side1 ?side2 ?side3 ?side4 A3.out).mono ?_); (case side1 => repeat (first | exact (Kd.C_below HR1_0.out HB.out) | (with_reducible refine Kd.C_alloc ?_ _) | (with_reducible refine Kd.C_drewN ?_ _) | (with_reducible refine Kd.C_drew ?_))); (case side2 => exact HC1_0.out); (case side3 => repeat (first | exact (Kd.C_below HR1_1.out HB.out) | (with_reducible refine Kd.C_alloc ?_ _) | (with_reducible refine Kd.C_drewN ?_ _) | (with_reducible refine Kd.C_drew ?_))); (case side4 => exact HC1_1.out); rintro e w11 ⟨v553, v556, rfl, ho0, ho1, hb⟩; refine ⟨_, rfl, ?_⟩; have n0_ := Aside0.mk (Kd.N_lower (Kd.N_mono (ok' := fun k_ => some k_ ≠ (v556 : Value).ownBlock ∧ k_ ≠ gb551) ho0 (fun k_ hk_ => ⟨hk_.2, (Kd.freshB (g := gb551) (o := .cells #[.slice A1_0 l1_0.length c1_0, .slice A1_1 l1_1.length c1_1] 40 (0, 0)) (by (with_reducible repeat (first | refine blk_drewN ?_ _ | refine blk_drew ?_ | refine blk_alloc ?_ _)); exact BK551.out) k_ hk_.1)⟩)) (below_size (by repeat (first | (with_reducible first | exact HB.out | apply below_alloc | apply pw_below_drewN | apply below_drew1 | refine below_set ?_ GE551.out) | exact HB.out)))); have n1_ := Aside0.mk (Kd.N_lower (Kd.N_mono (ok' := fun k_ => some k_ ≠ (v553 : Value).ownBlock ∧ k_ ≠ gb551) ho1 (fun k_ hk_ => ⟨hk_.2, (Kd.freshB (g := gb551) (o := .cells #[.slice A1_0 l1_0.length c1_0, .slice A1_1 l1_1.length c1_1] 40 (0, 0)) (by (with_reducible repeat (first | refine blk_drewN ?_ _ | refine blk_drew ?_ | refine blk_alloc ?_ _)); exact BK551.out) k_ hk_.1)⟩)) (below_size (by repeat (first | (with_reducible first | exact HB.out | apply below_alloc | apply pw_below_drewN | apply below_drew1 | refine below_set ?_ GE551.out) | exact HB.out)))); have n2_ := Aside0.mk (blk_below (g := gb551) (o := .cells #[.slice A1_0 l1_0.length c1_0, .slice A1_1 l1_1.length c1_1] 40 (0, 0)) (by (with_reducible repeat (first | refine blk_drewN ?_ _ | refine blk_drew ?_ | refine blk_alloc ?_ _)); exact BK551.out) hb); have n3_ := Aside0.mk (below_step (by repeat (first | (with_reducible first | exact HB.out | apply below_alloc | apply pw_below_drewN | apply below_drew1 | refine below_set ?_ GE551.out) | exact HB.out)) hb); clear BK551; clear HB; have HO554 := n0_; have HO557 := n1_; have BK551 := n2_; have HB := n3_; clear n0_ n1_ n2_ n3_; (try clear hb); (try clear hb2); (try clear hk); (try clear hi); (try clear ho0); (try clear ho1)) | ((with_reducible refine gate_dst (N := 5) rfl ?_); (try (refine gate_guard (by rfl) ?_; dsimp only)); refine box_event ?hg (N := 5) ?hd (cs := #[.slice none 0 0, .slice none 0 0]) (t := 43) ?hr ?_; (case hd => rfl); (case hg => rfl); (case hr => first | (go_simp; done) | (go_simp; rfl)); intro gb558 hg w12 hbox hb; have n0_ := Aside0.mk (Kd.N_below (Kd.N_elderB (by (with_reducible repeat (first | apply Kd.N_alloc | apply Kd.N_drewN | apply Kd.N_drew)); exact HO554.out) gb558 (Nat.le_of_eq hg.symm)) hb); have n1_ := Aside0.mk (Kd.N_below (Kd.N_elderB (by (with_reducible repeat (first | apply Kd.N_alloc | apply Kd.N_drewN | apply Kd.N_drew)); exact HO557.out) gb558 (Nat.le_of_eq hg.symm)) hb); have n2_ := Aside0.mk (blk_below (g := gb551) (o := .cells #[.slice A1_0 l1_0.length c1_0, .slice A1_1 l1_1.length c1_1] 40 (0, 0)) (by (with_reducible repeat (first | refine blk_drewN ?_ _ | refine blk_drew ?_ | refine blk_alloc ?_ _)); exact BK551.out) hb); have n3_ := Aside0.mk (below_step (by repeat (first | (with_reducible first | exact HB.out | apply below_alloc | apply pw_below_drewN | apply below_drew1 | refine below_set ?_ GE551.out) | exact HB.out)) hb); have n4_ := Aside0.mk (hbox); have n5_ := Aside0.mk ((by rw [hg]; exact (below_size (by repeat (first | (with_reducible first | exact HB.out | apply below_alloc | apply pw_below_drewN | apply below_drew1 | refine below_set ?_ GE551.out) | exact HB.out))) : w.heap.size ≤ gb558)); have n6_ := Aside0.mk ((by rw [hg]; exact (below_size (by repeat (first | (with_reducible first | exact HB.out | apply below_alloc | apply pw_below_drewN | apply below_drew1 | refine below_set ?_ GE551.out) | exact HB.out))) : w.heap.size ≤ gb558)); have n7_ := Aside0.mk ((by rw [hg]; exact Nat.ne_of_lt (blk_lt (g := gb551) (o := .cells #[.slice A1_0 l1_0.length c1_0, .slice A1_1 l1_1.length c1_1] 40 (0, 0)) (by (with_reducible repeat (first | refine blk_drewN ?_ _ | refine blk_drew ?_ | refine blk_alloc ?_ _)); exact BK551.out)) : gb551 ≠ gb558)); have n8_ := Aside0.mk ((by rw [hg]; exact Nat.ne_of_gt (blk_lt (g := gb551) (o := .cells #[.slice A1_0 l1_0.length c1_0, .slice A1_1 l1_1.length c1_1] 40 (0, 0)) (by (with_reducible repeat (first | refine blk_drewN ?_ _ | refine blk_drew ?_ | refine blk_alloc ?_ _)); exact BK551.out)) : gb558 ≠ gb551)); clear HO554; clear HO557; clear BK551; clear HB; have HO554 := n0_; have HO557 := n1_; have BK551 := n2_; have HB := n3_; have BK558 := n4_; have GW558 := n5_; have GE558 := n6_; have NB551_558 := n7_; have NB558_551 := n8_; clear n0_ n1_ n2_ n3_ n4_ n5_ n6_ n7_ n8_; clear hb hbox hg; obtain ⟨Ao13, co13, eo13⟩ := Kd.N_slice HO554.out; subst eo13; have hnb14 := NB558_551.out; have hnc14 := NB551_558.out; have hcz15_0 : w12.cell? ⟨gb558, 0, none⟩ = some (.slice none 0 0) := (blk_cell BK558.out 0).trans rfl; have hcz15_1 : w12.cell? ⟨gb558, 1, none⟩ = some (.slice none 0 0) := (blk_cell BK558.out 1).trans rfl; have hfz15_0 := blk_frozen BK558.out 0; have hfz15_1 := blk_frozen BK558.out 1; obtain ⟨Ao16, co16, eo16⟩ := Kd.N_slice HO557.out; subst eo16) | ((with_reducible refine gate_callee (f := 16) rfl ?_); refine goesL_ (some 27) rfl rfl Tryd.func16 (by kernel_rfl) rfl #[.slice A0 l0.length c0, .int .i64 3, .int .i64 4] rfl (by (try simp only [List.map_toArray, List.map_cons, List.map_nil]); first | done | rfl | (simp only [List.length_drop, List.length_take]; rfl)) ?_; (with_reducible refine (foretellkeep_Formula.calls k _ _ l0 3 4 t559 _ ?side1 ?side2 A4.out).mono ?_); (case side1 => exact Kd.C_below HR0.out (by repeat (first | (with_reducible first | exact HB.out | apply below_alloc | apply pw_below_drewN | apply below_drew1 | refine below_set ?_ GE551.out | refine below_set ?_ GE558.out) | exact HB.out))); (case side2 => exact HC0.out); rintro e w17 ⟨v560, rfl, ho0, hb⟩; refine ⟨_, rfl, ?_⟩; have n0_ := Aside0.mk (Kd.N_below (by (with_reducible repeat (first | apply Kd.N_alloc | apply Kd.N_drewN | apply Kd.N_drew)); exact (Kd.N_mono (Kd.N_far (p := ⟨gb558, 1, none⟩) (Kd.N_far (p := ⟨gb558, 0, none⟩) (Kd.N_mono HO554.out (fun k_ hk => (⟨hk, hk.2⟩ : _ ∧ k_ ≠ gb558))) (fun _ hk => hk.2) (.slice Ao13 t552.length co13)) (fun _ hk => hk.2) (.slice Ao16 t555.length co16)) (fun _ h_ => h_.1))) hb); have n1_ := Aside0.mk (Kd.N_below (by (with_reducible repeat (first | apply Kd.N_alloc | apply Kd.N_drewN | apply Kd.N_drew)); exact (Kd.N_mono (Kd.N_far (p := ⟨gb558, 1, none⟩) (Kd.N_far (p := ⟨gb558, 0, none⟩) (Kd.N_mono HO557.out (fun k_ hk => (⟨hk, hk.2⟩ : _ ∧ k_ ≠ gb558))) (fun _ hk => hk.2) (.slice Ao13 t552.length co13)) (fun _ hk => hk.2) (.slice Ao16 t555.length co16)) (fun _ h_ => h_.1))) hb); have n2_ := Aside0.mk (Kd.V_lower (Kd.V_mono (ok' := fun k_ => k_ ≠ gb551 ∧ k_ ≠ gb558) (Kd.R_V (Kd.R_bound ho0)) (fun k_ hk_ => ⟨(Kd.freshB (g := gb551) (o := .cells #[.slice A1_0 l1_0.length c1_0, .slice A1_1 l1_1.length c1_1] 40 (0, 0)) (by (with_reducible repeat (first | refine blk_drewN ?_ _ | refine blk_drew ?_ | refine blk_alloc ?_ _)); refine blk_far ?_ NB551_558.out _; (with_reducible repeat (first | refine blk_drewN ?_ _ | refine blk_drew ?_ | refine blk_alloc ?_ _)); refine blk_far ?_ NB551_558.out _; (with_reducible repeat (first | refine blk_drewN ?_ _ | refine blk_drew ?_ | refine blk_alloc ?_ _)); exact BK551.out) k_ hk_.2.1), (Kd.freshB (g := gb558) (o := .cells #[.slice Ao13 t552.length co13, .slice Ao16 t555.length co16] 43 (0, 0)) (by (with_reducible repeat (first | refine blk_drewN ?_ _ | refine blk_drew ?_ | refine blk_alloc ?_ _)); refine blk_put (cs := #[.slice Ao13 t552.length co13, .slice none 0 0]) ?_ 1 _ rfl; (with_reducible repeat (first | refine blk_drewN ?_ _ | refine blk_drew ?_ | refine blk_alloc ?_ _)); refine blk_put (cs := #[.slice none 0 0, .slice none 0 0]) ?_ 0 _ rfl; (with_reducible repeat (first | refine blk_drewN ?_ _ | refine blk_drew ?_ | refine blk_alloc ?_ _)); exact BK558.out) k_ hk_.2.1)⟩)) (below_size (by repeat (first | (with_reducible first | exact HB.out | apply below_alloc | apply pw_below_drewN | apply below_drew1 | refine below_set ?_ GE551.out | refine below_set ?_ GE558.out) | exact HB.out)))); have n3_ := Aside0.mk (blk_below (g := gb551) (o := .cells #[.slice A1_0 l1_0.length c1_0, .slice A1_1 l1_1.length c1_1] 40 (0, 0)) (by (with_reducible repeat (first | refine blk_drewN ?_ _ | refine blk_drew ?_ | refine blk_alloc ?_ _)); refine blk_far ?_ NB551_558.out _; (with_reducible repeat (first | refine blk_drewN ?_ _ | refine blk_drew ?_ | refine blk_alloc ?_ _)); refine blk_far ?_ NB551_558.out _; (with_reducible repeat (first | refine blk_drewN ?_ _ | refine blk_drew ?_ | refine blk_alloc ?_ _)); exact BK551.out) hb); have n4_ := Aside0.mk (blk_below (g := gb558) (o := .cells #[.slice Ao13 t552.length co13, .slice Ao16 t555.length co16] 43 (0, 0)) (by (with_reducible repeat (first | refine blk_drewN ?_ _ | refine blk_drew ?_ | refine blk_alloc ?_ _)); refine blk_put (cs := #[.slice Ao13 t552.length co13, .slice none 0 0]) ?_ 1 _ rfl; (with_reducible repeat (first | refine blk_drewN ?_ _ | refine blk_drew ?_ | refine blk_alloc ?_ _)); refine blk_put (cs := #[.slice none 0 0, .slice none 0 0]) ?_ 0 _ rfl; (with_reducible repeat (first | refine blk_drewN ?_ _ | refine blk_drew ?_ | refine blk_alloc ?_ _)); exact BK558.out) hb); have n5_ := Aside0.mk (below_step (by repeat (first | (with_reducible first | exact HB.out | apply below_alloc | apply pw_below_drewN | apply below_drew1 | refine below_set ?_ GE551.out | refine below_set ?_ GE558.out) | exact HB.out)) hb); clear HO554; clear HO557; clear BK551; clear BK558; clear HB; have HO554 := n0_; have HO557 := n1_; have HO561 := n2_; have BK551 := n3_; have BK558 := n4_; have HB := n5_; clear n0_ n1_ n2_ n3_ n4_ n5_; (try clear hb); (try clear hb2); (try clear hk); (try clear hi); (try clear ho0); have hcz18_0 : w17.cell? ⟨gb558, 0, none⟩ = some (.slice Ao13 t552.length co13) := (blk_cell BK558.out 0).trans rfl; have hcz18_1 : w17.cell? ⟨gb558, 1, none⟩ = some (.slice Ao16 t555.length co16) := (blk_cell BK558.out 1).trans rfl; have hfz18_0 := blk_frozen BK558.out 0; have hfz18_1 := blk_frozen BK558.out 1; obtain ⟨Ao19, co19, eo19⟩ := Kd.V_slice HO561.out; subst eo19) | ((with_reducible refine gate_callee (f := 27) rfl ?_); refine goesL_ (some 31) rfl rfl Tryd.func27 (by kernel_rfl) rfl #[.slice Ao19 t559.length co19, .agg #[.slice Ao13 t552.length co13, .slice Ao16 t555.length co16], .int .i64 3] rfl (by (try simp only [List.map_toArray, List.map_cons, List.map_nil]); first | done | rfl | (simp only [List.length_drop, List.length_take]; rfl)) ?_; (with_reducible refine (word_Claims.calls k _ _ t559 _ _ t552 _ _ t555 3 t562 t565 _ ?side1 ?side2 ?side3 ?side4 ?side5 ?side6 ?side7 A5.out).mono ?_); (case side1 => repeat (first | exact (Kd.V_reads' HO561.out).2.2 | (with_reducible refine Kd.C_alloc ?_ _) | (with_reducible refine Kd.C_drewN ?_ _) | (with_reducible refine Kd.C_drew ?_))); (case side2 => exact (Kd.V_reads' HO561.out).2.1); (case side3 => repeat (first | exact (Kd.N_reads' HO554.out).2.2 | (with_reducible refine Kd.C_alloc ?_ _) | (with_reducible refine Kd.C_drewN ?_ _) | (with_reducible refine Kd.C_drew ?_))); (case side4 => exact (Kd.N_reads' HO554.out).2.1); (case side5 => repeat (first | exact (Kd.N_reads' HO557.out).2.2 | (with_reducible refine Kd.C_alloc ?_ _) | (with_reducible refine Kd.C_drewN ?_ _) | (with_reducible refine Kd.C_drew ?_))); (case side6 => exact (Kd.N_reads' HO557.out).2.1); (case side7 => first | exact hG_ | exact Glob.drewN hG_ _ | exact Glob.below hG_ (by repeat (first | (with_reducible first | exact HB.out | apply below_alloc | apply pw_below_drewN | apply below_drew1 | refine below_set ?_ GE551.out | refine below_set ?_ GE558.out) | exact HB.out))); rintro e w20 ⟨v563, rfl, ho0, hb⟩; refine ⟨_, rfl, ?_⟩; have n0_ := Aside0.mk (Kd.N_below (by (with_reducible repeat (first | apply Kd.N_alloc | apply Kd.N_drewN | apply Kd.N_drew)); exact HO554.out) hb); have n1_ := Aside0.mk (Kd.N_below (by (with_reducible repeat (first | apply Kd.N_alloc | apply Kd.N_drewN | apply Kd.N_drew)); exact HO557.out) hb); have n2_ := Aside0.mk (Kd.V_below (by (with_reducible repeat (first | apply Kd.V_alloc | apply Kd.V_drewN | apply Kd.V_drew)); exact HO561.out) hb); have n3_ := Aside0.mk (Kd.V_lower (Kd.V_mono (ok' := fun k_ => k_ ≠ gb551 ∧ k_ ≠ gb558) (Kd.R_V (Kd.R_bound ho0)) (fun k_ hk_ => ⟨(Kd.freshB (g := gb551) (o := .cells #[.slice A1_0 l1_0.length c1_0, .slice A1_1 l1_1.length c1_1] 40 (0, 0)) (by (with_reducible repeat (first | refine blk_drewN ?_ _ | refine blk_drew ?_ | refine blk_alloc ?_ _)); exact BK551.out) k_ hk_.2.1), (Kd.freshB (g := gb558) (o := .cells #[.slice Ao13 t552.length co13, .slice Ao16 t555.length co16] 43 (0, 0)) (by (with_reducible repeat (first | refine blk_drewN ?_ _ | refine blk_drew ?_ | refine blk_alloc ?_ _)); exact BK558.out) k_ hk_.2.1)⟩)) (below_size (by repeat (first | (with_reducible first | exact HB.out | apply below_alloc | apply pw_below_drewN | apply below_drew1 | refine below_set ?_ GE551.out | refine below_set ?_ GE558.out) | exact HB.out)))); have n4_ := Aside0.mk (blk_below (g := gb551) (o := .cells #[.slice A1_0 l1_0.length c1_0, .slice A1_1 l1_1.length c1_1] 40 (0, 0)) (by (with_reducible repeat (first | refine blk_drewN ?_ _ | refine blk_drew ?_ | refine blk_alloc ?_ _)); exact BK551.out) hb); have n5_ := Aside0.mk (blk_below (g := gb558) (o := .cells #[.slice Ao13 t552.length co13, .slice Ao16 t555.length co16] 43 (0, 0)) (by (with_reducible repeat (first | refine blk_drewN ?_ _ | refine blk_drew ?_ | refine blk_alloc ?_ _)); exact BK558.out) hb); have n6_ := Aside0.mk (below_step (by repeat (first | (with_reducible first | exact HB.out | apply below_alloc | apply pw_below_drewN | apply below_drew1 | refine below_set ?_ GE551.out | refine below_set ?_ GE558.out) | exact HB.out)) hb); clear HO554; clear HO557; clear HO561; clear BK551; clear BK558; clear HB; have HO554 := n0_; have HO557 := n1_; have HO561 := n2_; have HO564 := n3_; have BK551 := n4_; have BK558 := n5_; have HB := n6_; clear n0_ n1_ n2_ n3_ n4_ n5_ n6_; (try clear hb); (try clear hb2); (try clear hk); (try clear hi); (try clear ho0); have hcz21_0 : w20.cell? ⟨gb558, 0, none⟩ = some (.slice Ao13 t552.length co13) := (blk_cell BK558.out 0).trans rfl; have hcz21_1 : w20.cell? ⟨gb558, 1, none⟩ = some (.slice Ao16 t555.length co16) := (blk_cell BK558.out 1).trans rfl; have hfz21_0 := blk_frozen BK558.out 0; have hfz21_1 := blk_frozen BK558.out 1) | ((with_reducible refine gate_callee (f := 24) rfl ?_); refine goesL_ (some 37) rfl rfl Tryd.func24 (by kernel_rfl) rfl #[.slice Ao19 t559.length co19, .agg #[.slice Ao13 t552.length co13, .slice Ao16 t555.length co16], .int .i64 3] rfl (by (try simp only [List.map_toArray, List.map_cons, List.map_nil]); first | done | rfl | (simp only [List.length_drop, List.length_take]; rfl)) ?_; (with_reducible refine (word_Moments.calls k _ _ t559 _ _ t552 _ _ t555 3 t566 t569 _ ?side1 ?side2 ?side3 ?side4 ?side5 ?side6 ?side7 A6.out).mono ?_); (case side1 => repeat (first | exact (Kd.V_reads' HO561.out).2.2 | (with_reducible refine Kd.C_alloc ?_ _) | (with_reducible refine Kd.C_drewN ?_ _) | (with_reducible refine Kd.C_drew ?_))); (case side2 => exact (Kd.V_reads' HO561.out).2.1); (case side3 => repeat (first | exact (Kd.N_reads' HO554.out).2.2 | (with_reducible refine Kd.C_alloc ?_ _) | (with_reducible refine Kd.C_drewN ?_ _) | (with_reducible refine Kd.C_drew ?_))); (case side4 => exact (Kd.N_reads' HO554.out).2.1); (case side5 => repeat (first | exact (Kd.N_reads' HO557.out).2.2 | (with_reducible refine Kd.C_alloc ?_ _) | (with_reducible refine Kd.C_drewN ?_ _) | (with_reducible refine Kd.C_drew ?_))); (case side6 => exact (Kd.N_reads' HO557.out).2.1); (case side7 => first | exact hG_ | exact Glob.drewN hG_ _ | exact Glob.below hG_ (by repeat (first | (with_reducible first | exact HB.out | apply below_alloc | apply pw_below_drewN | apply below_drew1 | refine below_set ?_ GE551.out | refine below_set ?_ GE558.out) | exact HB.out))); rintro e w22 ⟨v567, rfl, ho0, hb⟩; refine ⟨_, rfl, ?_⟩; have n0_ := Aside0.mk (Kd.N_below (by (with_reducible repeat (first | apply Kd.N_alloc | apply Kd.N_drewN | apply Kd.N_drew)); exact HO554.out) hb); have n1_ := Aside0.mk (Kd.N_below (by (with_reducible repeat (first | apply Kd.N_alloc | apply Kd.N_drewN | apply Kd.N_drew)); exact HO557.out) hb); have n2_ := Aside0.mk (Kd.V_below (by (with_reducible repeat (first | apply Kd.V_alloc | apply Kd.V_drewN | apply Kd.V_drew)); exact HO561.out) hb); have n3_ := Aside0.mk (Kd.V_below (by (with_reducible repeat (first | apply Kd.V_alloc | apply Kd.V_drewN | apply Kd.V_drew)); exact HO564.out) hb); have n4_ := Aside0.mk (Kd.V_lower (Kd.V_mono (ok' := fun k_ => k_ ≠ gb551 ∧ k_ ≠ gb558) (Kd.R_V (Kd.R_bound ho0)) (fun k_ hk_ => ⟨(Kd.freshB (g := gb551) (o := .cells #[.slice A1_0 l1_0.length c1_0, .slice A1_1 l1_1.length c1_1] 40 (0, 0)) (by (with_reducible repeat (first | refine blk_drewN ?_ _ | refine blk_drew ?_ | refine blk_alloc ?_ _)); exact BK551.out) k_ hk_.2.1), (Kd.freshB (g := gb558) (o := .cells #[.slice Ao13 t552.length co13, .slice Ao16 t555.length co16] 43 (0, 0)) (by (with_reducible repeat (first | refine blk_drewN ?_ _ | refine blk_drew ?_ | refine blk_alloc ?_ _)); exact BK558.out) k_ hk_.2.1)⟩)) (below_size (by repeat (first | (with_reducible first | exact HB.out | apply below_alloc | apply pw_below_drewN | apply below_drew1 | refine below_set ?_ GE551.out | refine below_set ?_ GE558.out) | exact HB.out)))); have n5_ := Aside0.mk (blk_below (g := gb551) (o := .cells #[.slice A1_0 l1_0.length c1_0, .slice A1_1 l1_1.length c1_1] 40 (0, 0)) (by (with_reducible repeat (first | refine blk_drewN ?_ _ | refine blk_drew ?_ | refine blk_alloc ?_ _)); exact BK551.out) hb); have n6_ := Aside0.mk (blk_below (g := gb558) (o := .cells #[.slice Ao13 t552.length co13, .slice Ao16 t555.length co16] 43 (0, 0)) (by (with_reducible repeat (first | refine blk_drewN ?_ _ | refine blk_drew ?_ | refine blk_alloc ?_ _)); exact BK558.out) hb); have n7_ := Aside0.mk (below_step (by repeat (first | (with_reducible first | exact HB.out | apply below_alloc | apply pw_below_drewN | apply below_drew1 | refine below_set ?_ GE551.out | refine below_set ?_ GE558.out) | exact HB.out)) hb); clear HO554; clear HO557; clear HO561; clear HO564; clear BK551; clear BK558; clear HB; have HO554 := n0_; have HO557 := n1_; have HO561 := n2_; have HO564 := n3_; have HO568 := n4_; have BK551 := n5_; have BK558 := n6_; have HB := n7_; clear n0_ n1_ n2_ n3_ n4_ n5_ n6_ n7_; (try clear hb); (try clear hb2); (try clear hk); (try clear hi); (try clear ho0)) | ((with_reducible refine gate_callee (f := 17) rfl ?_); refine goesL_ (some 42) rfl rfl Tryd.func17 (by kernel_rfl) rfl #[.slice Ao19 t559.length co19, .int .i64 3] rfl (by (try simp only [List.map_toArray, List.map_cons, List.map_nil]); first | done | rfl | (simp only [List.length_drop, List.length_take]; rfl)) ?_; (with_reducible refine (logic_Ahead.calls k _ _ t559 3 t570 t571 _ ?side1 ?side2 ?side3 A7.out).mono ?_); (case side1 => repeat (first | exact (Kd.V_reads' HO561.out).2.2 | (with_reducible refine Kd.C_alloc ?_ _) | (with_reducible refine Kd.C_drewN ?_ _) | (with_reducible refine Kd.C_drew ?_))); (case side2 => exact (Kd.V_reads' HO561.out).2.1); (case side3 => first | exact hG_ | exact Glob.drewN hG_ _ | exact Glob.below hG_ (by repeat (first | (with_reducible first | exact HB.out | apply below_alloc | apply pw_below_drewN | apply below_drew1 | refine below_set ?_ GE551.out | refine below_set ?_ GE558.out) | exact HB.out))); rintro e w23 ⟨v572, rfl, ho0, hb⟩; refine ⟨_, rfl, ?_⟩; have n0_ := Aside0.mk (Kd.N_below (by (with_reducible repeat (first | apply Kd.N_alloc | apply Kd.N_drewN | apply Kd.N_drew)); exact HO554.out) hb); have n1_ := Aside0.mk (Kd.N_below (by (with_reducible repeat (first | apply Kd.N_alloc | apply Kd.N_drewN | apply Kd.N_drew)); exact HO557.out) hb); have n2_ := Aside0.mk (Kd.V_below (by (with_reducible repeat (first | apply Kd.V_alloc | apply Kd.V_drewN | apply Kd.V_drew)); exact HO561.out) hb); have n3_ := Aside0.mk (Kd.V_below (by (with_reducible repeat (first | apply Kd.V_alloc | apply Kd.V_drewN | apply Kd.V_drew)); exact HO564.out) hb); have n4_ := Aside0.mk (Kd.V_below (by (with_reducible repeat (first | apply Kd.V_alloc | apply Kd.V_drewN | apply Kd.V_drew)); exact HO568.out) hb); have n5_ := Aside0.mk (Kd.V_lower (Kd.V_mono (ok' := fun k_ => k_ ≠ gb551 ∧ k_ ≠ gb558) (Kd.R_V (Kd.R_bound ho0)) (fun k_ hk_ => ⟨(Kd.freshB (g := gb551) (o := .cells #[.slice A1_0 l1_0.length c1_0, .slice A1_1 l1_1.length c1_1] 40 (0, 0)) (by (with_reducible repeat (first | refine blk_drewN ?_ _ | refine blk_drew ?_ | refine blk_alloc ?_ _)); exact BK551.out) k_ hk_.2.1), (Kd.freshB (g := gb558) (o := .cells #[.slice Ao13 t552.length co13, .slice Ao16 t555.length co16] 43 (0, 0)) (by (with_reducible repeat (first | refine blk_drewN ?_ _ | refine blk_drew ?_ | refine blk_alloc ?_ _)); exact BK558.out) k_ hk_.2.1)⟩)) (below_size (by repeat (first | (with_reducible first | exact HB.out | apply below_alloc | apply pw_below_drewN | apply below_drew1 | refine below_set ?_ GE551.out | refine below_set ?_ GE558.out) | exact HB.out)))); have n6_ := Aside0.mk (blk_below (g := gb551) (o := .cells #[.slice A1_0 l1_0.length c1_0, .slice A1_1 l1_1.length c1_1] 40 (0, 0)) (by (with_reducible repeat (first | refine blk_drewN ?_ _ | refine blk_drew ?_ | refine blk_alloc ?_ _)); exact BK551.out) hb); have n7_ := Aside0.mk (blk_below (g := gb558) (o := .cells #[.slice Ao13 t552.length co13, .slice Ao16 t555.length co16] 43 (0, 0)) (by (with_reducible repeat (first | refine blk_drewN ?_ _ | refine blk_drew ?_ | refine blk_alloc ?_ _)); exact BK558.out) hb); have n8_ := Aside0.mk (below_step (by repeat (first | (with_reducible first | exact HB.out | apply below_alloc | apply pw_below_drewN | apply below_drew1 | refine below_set ?_ GE551.out | refine below_set ?_ GE558.out) | exact HB.out)) hb); clear HO554; clear HO557; clear HO561; clear HO564; clear HO568; clear BK551; clear BK558; clear HB; have HO554 := n0_; have HO557 := n1_; have HO561 := n2_; have HO564 := n3_; have HO568 := n4_; have HO573 := n5_; have BK551 := n6_; have BK558 := n7_; have HB := n8_; clear n0_ n1_ n2_ n3_ n4_ n5_ n6_ n7_ n8_; (try clear hb); (try clear hb2); (try clear hk); (try clear hi); (try clear ho0); have hcz24_0 : w23.cell? ⟨gb558, 0, none⟩ = some (.slice Ao13 t552.length co13) := (blk_cell BK558.out 0).trans rfl; have hcz24_1 : w23.cell? ⟨gb558, 1, none⟩ = some (.slice Ao16 t555.length co16) := (blk_cell BK558.out 1).trans rfl; have hfz24_0 := blk_frozen BK558.out 0; have hfz24_1 := blk_frozen BK558.out 1))
 (try simp only [Act.put, List.setIfInBounds_toArray, List.set_cons_zero, List.set_cons_succ])
 go_cut [73] (fun v73 wc => ∃ (kq : Nat) (x73_7 : Bool), v73 = .bool x73_7 ∧ Aside0 (foretellkeep_ClaimLine.j0 kq t559 t562 t566 t570 (wrap64 ((t552.length : Int) + (t555.length : Int))) x73_7 t552 t555 = some r) ∧ Aside0 (kq ≤ k) ∧ Aside0 (Kd.V k51 51 wc w.heap.size (fun k_ => k_ ≠ gb551 ∧ k_ ≠ gb558) (.slice Ao19 t559.length co19) t559) ∧ Aside0 (Kd.V (Kd.int .i64) 3 wc w.heap.size (fun k_ => k_ ≠ gb551 ∧ k_ ≠ gb558) v563 t562) ∧ Aside0 (Kd.V Kd.bool 4 wc w.heap.size (fun k_ => k_ ≠ gb551 ∧ k_ ≠ gb558) v567 t566) ∧ Aside0 (Kd.V (Kd.int .i64) 3 wc w.heap.size (fun k_ => k_ ≠ gb551 ∧ k_ ≠ gb558) v572 t570) ∧ Aside0 (Kd.N (Kd.slice 4 Kd.bool) 30 wc w.heap.size (fun k_ => some k_ ≠ ((.slice Ao16 t555.length co16) : Value).ownBlock ∧ k_ ≠ gb551 ∧ k_ ≠ gb558) (.slice Ao13 t552.length co13) t552) ∧ Aside0 (Kd.N (Kd.slice 4 Kd.bool) 30 wc w.heap.size (fun k_ => some k_ ≠ ((.slice Ao13 t552.length co13) : Value).ownBlock ∧ k_ ≠ gb551 ∧ k_ ≠ gb558) (.slice Ao16 t555.length co16) t555) ∧ Aside0 (wc.heap[gb551]? = some (.cells #[(.slice A1_0 l1_0.length c1_0), (.slice A1_1 l1_1.length c1_1)] 40 (0, 0))) ∧ Aside0 (wc.heap[gb558]? = some (.cells #[(.slice Ao13 t552.length co13), (.slice Ao16 t555.length co16)] 43 (0, 0))) ∧ Aside0 (Below w.heap.size w wc))
 case first =>
  have H := HC8.out
  clear HC8
  by_cases c25 : t565 = 0
  ·
   rw [if_pos c25] at H
   have c25b0 : (t565 == 0) = true := beq_iff_eq.mpr c25
   have c25b1 : (t565 != 0) = false := bne_eq_false_iff_eq.mpr c25
   clear c25
   (first | rw [c25b0] | (simp only [i64_w, i32_w]; rw [c25b0]) | skip)
   by_cases c26 : t569 = 0
   ·
    rw [if_pos c26] at H
    have c26b0 : (t569 == 0) = true := beq_iff_eq.mpr c26
    have c26b1 : (t569 != 0) = false := bne_eq_false_iff_eq.mpr c26
    clear c26
    by_cases c27 : t571 = 0
    ·
     rw [if_pos c27] at H
     have c27b0 : (t571 == 0) = true := beq_iff_eq.mpr c27
     have c27b1 : (t571 != 0) = false := bne_eq_false_iff_eq.mpr c27
     clear c27
     by_cases c28 : (t562.length : Int) = (wrap64 ((t552.length : Int) + (t555.length : Int)))
     ·
      rw [if_pos c28] at H
      have c28b0 : ((t562.length : Int) == (wrap64 ((t552.length : Int) + (t555.length : Int)))) = true := beq_iff_eq.mpr c28
      have c28b1 : ((t562.length : Int) != (wrap64 ((t552.length : Int) + (t555.length : Int)))) = false := bne_eq_false_iff_eq.mpr c28
      clear c28
      have H' := Aside0.mk H
      clear H
      obtain ⟨Ao29, co29, eo29⟩ := Kd.V_slice HO564.out
      subst eo29
      obtain ⟨Ao30, co30, eo30⟩ := Kd.V_slice HO568.out
      subst eo30
      go_wp2
      go_meet
      case rel => exact ⟨_, (((t566.length : Int) != (wrap64 ((t552.length : Int) + (t555.length : Int))))), (by first | rfl | (simp; done) | (simp [*]; done)), H', ⟨by first | omega | exact Nat.le_refl _⟩, ⟨by (with_reducible repeat (first | apply Kd.V_alloc | apply Kd.V_drewN | apply Kd.V_drew)); exact HO561.out⟩, ⟨by (with_reducible repeat (first | apply Kd.V_alloc | apply Kd.V_drewN | apply Kd.V_drew)); exact HO564.out⟩, ⟨by (with_reducible repeat (first | apply Kd.V_alloc | apply Kd.V_drewN | apply Kd.V_drew)); exact HO568.out⟩, ⟨by (with_reducible repeat (first | apply Kd.V_alloc | apply Kd.V_drewN | apply Kd.V_drew)); exact HO573.out⟩, ⟨by (with_reducible repeat (first | apply Kd.N_alloc | apply Kd.N_drewN | apply Kd.N_drew)); exact Kd.N_mono HO554.out (fun _ hk => ⟨hk.1.1, ⟨hk.1.2, hk.2⟩⟩)⟩, ⟨by (with_reducible repeat (first | apply Kd.N_alloc | apply Kd.N_drewN | apply Kd.N_drew)); exact Kd.N_mono HO557.out (fun _ hk => ⟨hk.1.1, ⟨hk.1.2, hk.2⟩⟩)⟩, ⟨by (with_reducible repeat (first | refine blk_drewN ?_ _ | refine blk_drew ?_ | refine blk_alloc ?_ _)); exact BK551.out⟩, ⟨by (with_reducible repeat (first | refine blk_drewN ?_ _ | refine blk_drew ?_ | refine blk_alloc ?_ _)); exact BK558.out⟩, ⟨by repeat (first | (with_reducible first | exact HB.out | apply below_alloc | apply pw_below_drewN | apply below_drew1 | refine below_set ?_ GE551.out | refine below_set ?_ GE558.out) | exact HB.out)⟩⟩
     ·
      rw [if_neg c28] at H
      exact absurd H (by simp)
    ·
     rw [if_neg c27] at H
     exact absurd H (by simp)
   ·
    rw [if_neg c26] at H
    exact absurd H (by simp)
  ·
   rw [if_neg c25] at H
   exact absurd H (by simp)
 case rest =>
  clear HC8
  try clear c1
  try clear c2
  try clear p2
  try clear p6
  try clear c14
  try clear c15
  try clear c16
  try clear c17
  try clear c23
  try clear c24
  try clear c25
  try clear c25b0
  try clear c25b1
  try clear c26
  try clear c26b0
  try clear c26b1
  try clear c27
  try clear c27b0
  try clear c27b1
  try clear c28
  try clear c28b0
  try clear c28b1
  try clear hcz10_0
  try clear hcz10_1
  try clear hcz15_0
  try clear hcz15_1
  try clear hcz18_0
  try clear hcz18_1
  try clear hcz21_0
  try clear hcz21_1
  try clear hcz24_0
  try clear hcz24_1
  try clear hfz10_0
  try clear hfz10_1
  try clear hfz15_0
  try clear hfz15_1
  try clear hfz18_0
  try clear hfz18_1
  try clear hfz21_0
  try clear hfz21_1
  try clear hfz24_0
  try clear hfz24_1
  obtain ⟨kq, x73_7, rfl, HA, HJ7, HO_6, HO_7, HO_9, HO_11, HO_559000, HO_559001, BK551, BK558, HB⟩ := hcut
  cases kq with
  | zero => exact absurd HA.out (by simp [foretellkeep_ClaimLine.j0])
  | succ kj7 =>
   have H := HA.out
   clear HA
   simp only [foretellkeep_ClaimLine.j0] at H
   by_cases c32 : x73_7 = true
   ·
    subst c32
    have H1 : (some false) = some r := by rw [if_pos rfl] at H; exact H
    clear H
    have H := H1
    clear H1
    exact absurd ((Option.some.inj H).trans hr_.out) (by decide)
   ·
    replace c32 := Bool.eq_false_iff.mpr c32
    subst c32
    have H1 : (if ([] : List (List Bool)).length + t552.length < 5864062014805 then ((some (([] : List (List Bool)) ++ t552 : List (List Bool))).bind fun y574 => (if y574.length + t555.length < 5864062014805 then (foretellkeep_ClaimLine.l0 kj7 t559 t562 t566 t570 (wrap64 ((t552.length : Int) + (t555.length : Int))) 0 (y574 ++ t555) 0 t552 t555) else (none))) else (none)) = some r := by rw [if_neg (show ¬ (false = true) by decide)] at H; exact H
    clear H
    have H := H1
    clear H1
    by_cases c33 : ([] : List (List Bool)).length + t552.length < 5864062014805
    ·
     rw [if_pos c33] at H
     have LMc33 := Aside0.mk c33
     clear c33
     obtain ⟨y574, hy574⟩ : ∃ y_ : List (List Bool), y_ = (([] : List (List Bool)) ++ t552) := ⟨_, rfl⟩
     replace H : (if y574.length + t555.length < 5864062014805 then (foretellkeep_ClaimLine.l0 kj7 t559 t562 t566 t570 (wrap64 ((t552.length : Int) + (t555.length : Int))) 0 (y574 ++ t555) 0 t552 t555) else (none)) = some r := by first | (rw [hy574]; with_reducible exact H) | (have H2_ := (Option.bind_some _ _).symm.trans H; rw [hy574]; with_reducible exact H2_) | (have H2_ := (Option.bind_some _ _).symm.trans H; with_reducible exact H2_) | with_reducible exact H | (rw [hy574]; exact H) | exact H
     have Ny574 := Aside0.mk hy574
     clear hy574
     by_cases c34 : y574.length + t555.length < 5864062014805
     ·
      rw [if_pos c34] at H
      have LMc34 := Aside0.mk c34
      clear c34
      obtain ⟨y577, hy577⟩ : ∃ y_ : List (List Bool), y_ = (y574 ++ t555) := ⟨_, rfl⟩
      replace H : (foretellkeep_ClaimLine.l0 kj7 t559 t562 t566 t570 (wrap64 ((t552.length : Int) + (t555.length : Int))) 0 y577 0 t552 t555) = some r := by first | (rw [hy577]; with_reducible exact H) | (have H2_ := (Option.bind_some _ _).symm.trans H; rw [hy577]; with_reducible exact H2_) | (have H2_ := (Option.bind_some _ _).symm.trans H; with_reducible exact H2_) | with_reducible exact H | (rw [hy577]; exact H) | exact H
      have Ny577 := Aside0.mk hy577
      clear hy577
      have H' := Aside0.mk H
      clear H
      obtain ⟨Ao35, co35, eo35⟩ := Kd.V_slice HO_7.out
      subst eo35
      obtain ⟨Ao36, co36, eo36⟩ := Kd.V_slice HO_9.out
      subst eo36
      obtain ⟨Ao37, co37, eo37⟩ := Kd.V_slice HO_11.out
      subst eo37
      try go_wp2
      have n0_ := Aside0.mk (Kd.V_drew HO_6.out)
      have n1_ := Aside0.mk (Kd.V_drew HO_7.out)
      have n2_ := Aside0.mk (Kd.V_drew HO_9.out)
      have n3_ := Aside0.mk (Kd.V_drew HO_11.out)
      have n4_ := Aside0.mk (Kd.N_drew HO_559000.out)
      have n5_ := Aside0.mk (Kd.N_drew HO_559001.out)
      have n6_ := Aside0.mk (blk_drew BK551.out)
      have n7_ := Aside0.mk (blk_drew BK558.out)
      have n8_ := Aside0.mk (below_drew1 HB.out)
      clear HO_6
      clear HO_7
      clear HO_9
      clear HO_11
      clear HO_559000
      clear HO_559001
      clear BK551
      clear BK558
      clear HB
      have HO_6 := n0_
      have HO_7 := n1_
      have HO_9 := n2_
      have HO_11 := n3_
      have HO_559000 := n4_
      have HO_559001 := n5_
      have BK551 := n6_
      have BK558 := n7_
      have HB := n8_
      clear n0_ n1_ n2_ n3_ n4_ n5_ n6_ n7_ n8_
      refine start_ (n := 7) (S := fun w' => w'.cell? ⟨gb558, 0, none⟩ = some (.slice Ao13 t552.length co13) ∧ w'.cell? ⟨gb558, 1, none⟩ = some (.slice Ao16 t555.length co16)) (ds := []) #[false, false, false, false, false, false, false] (by kernel_rfl) rfl rfl ⟨(blk_cell BK558.out 0).trans rfl, (blk_cell BK558.out 1).trans rfl⟩ (fun hHeld => ?_)
      generalize wc.drew = w38 at HO_6 HO_7 HO_9 HO_11 HO_559000 HO_559001 BK551 BK558 HB hHeld ⊢
      refine pure_ (i := 0) (N := some 74) (v := ?_) (a' := ?_) #[true, false, false, false, false, false, false] rfl rfl (by kernel_rfl) (fun _ _ _ h => h) (Or.inl ⟨by rfl, ?_⟩) ?_ ?_
      rotate_left
      ·
       intro w'
       go_simp
       with_reducible rfl
      rotate_left
      ·
       simp only [Act.put, List.setIfInBounds_toArray, List.set_cons_zero, List.set_cons_succ, i64_w, i32_w]
       rfl
      refine pure_ (i := 3) (N := some 77) (v := ?_) (a' := ?_) #[true, false, false, true, false, false, false] rfl rfl (by kernel_rfl) (fun _ _ _ h => h) (Or.inl ⟨by rfl, ?_⟩) ?_ ?_
      rotate_left
      ·
       intro w'
       go_simp
       with_reducible rfl
      rotate_left
      ·
       simp only [Act.put, List.setIfInBounds_toArray, List.set_cons_zero, List.set_cons_succ, i64_w, i32_w]
       rfl
      refine take_ (i := 1) (N := some 75) (v := ?_) (a' := ?_) #[true, true, false, true, false, false, false] rfl rfl (by kernel_rfl) (fun _ _ _ h => h) (Or.inl ⟨by rfl, ?_⟩) hHeld ?_ ?_
      rotate_left
      ·
       rintro w' ⟨s0, s1⟩
       go_simp
       with_reducible rfl
      rotate_left
      ·
       simp only [Act.put, List.setIfInBounds_toArray, List.set_cons_zero, List.set_cons_succ, i64_w, i32_w]
       rfl
      refine take_ (i := 4) (N := some 78) (v := ?_) (a' := ?_) #[true, true, false, true, true, false, false] rfl rfl (by kernel_rfl) (fun _ _ _ h => h) (Or.inl ⟨by rfl, ?_⟩) hHeld ?_ ?_
      rotate_left
      ·
       rintro w' ⟨s0, s1⟩
       go_simp
       with_reducible rfl
      rotate_left
      ·
       simp only [Act.put, List.setIfInBounds_toArray, List.set_cons_zero, List.set_cons_succ, i64_w, i32_w]
       rfl
      refine one_ (i := 2) (N := some 76) #[true, true, true, true, true, false, false] rfl rfl (by kernel_rfl) (by decide) (fun K hK => ?_)
      refine Kd.N_append_rows_step (Kd.slice 4 Kd.bool) (w0 := w) w.heap.size (by rfl) (.const (.slice none 0 0)) (.tmp 75) 41 30 (.slice none 0 0) 24 rfl Tryd.underlying41 info30 rfl (by decide) (by omega) (.slice none 0 0) ([] : List (List Bool)) t552 _ _ _ (fun k_ => some k_ ≠ (.slice Ao16 t555.length co16 : Value).ownBlock ∧ k_ ≠ gb551 ∧ k_ ≠ gb558) (fun k_ => ((fun k_ => some k_ ≠ (.slice Ao16 t555.length co16 : Value).ownBlock ∧ k_ ≠ gb551 ∧ k_ ≠ gb558)) k_ ∧ some k_ ≠ (.slice none 0 0 : Value).ownBlock) rfl rfl ?aO ?aR (fun _ hk => hk) ?aF ?aB ?aS ?aL ?_
      (case aR => exact (by skip; exact Kd.N_F (Kd.N_mono (ok' := (fun k_ => ((fun k_ => some k_ ≠ (.slice Ao16 t555.length co16 : Value).ownBlock ∧ k_ ≠ gb551 ∧ k_ ≠ gb558)) k_ ∧ some k_ ≠ (.slice none 0 0 : Value).ownBlock)) (HO_559000.out) (fun k_ hk => ⟨⟨hk.1, ⟨hk.2.1, hk.2.2⟩⟩, (by simp [Value.ownBlock])⟩))))
      (case aB => exact (by repeat (first | (with_reducible first | exact HB.out | apply below_alloc | apply pw_below_drewN | apply below_drew1 | refine below_set ?_ GE551.out | refine below_set ?_ GE558.out) | exact HB.out)))
      (case aF => exact (fun k_ hk => ⟨Kd.fresh' (Kd.N_lt (by (with_reducible repeat (first | apply Kd.N_alloc | apply Kd.N_drewN | apply Kd.N_drew)); exact HO_559001.out)) k_ hk, Kd.freshB (g := gb551) (o := .cells #[.slice A1_0 l1_0.length c1_0, .slice A1_1 l1_1.length c1_1] 40 (0, 0)) (by (with_reducible repeat (first | refine blk_drewN ?_ _ | refine blk_drew ?_ | refine blk_alloc ?_ _)); exact BK551.out) k_ hk, Kd.freshB (g := gb558) (o := .cells #[.slice Ao13 t552.length co13, .slice Ao16 t555.length co16] 43 (0, 0)) (by (with_reducible repeat (first | refine blk_drewN ?_ _ | refine blk_drew ?_ | refine blk_alloc ?_ _)); exact BK558.out) k_ hk⟩))
      (case aO => exact ((Kd.N_nil _ _ _ _ (fun k_ => some k_ ≠ (.slice Ao16 t555.length co16 : Value).ownBlock ∧ k_ ≠ gb551 ∧ k_ ≠ gb558))))
      (case aS => exact (below_size (by repeat (first | (with_reducible first | exact HB.out | apply below_alloc | apply pw_below_drewN | apply below_drew1 | refine below_set ?_ GE551.out | refine below_set ?_ GE558.out) | exact HB.out))))
      (case aL => have := LMc33.out; omega)
      intro v575 w39 ho hb hg hat
      rw [← Ny574.out] at ho
      have n0_ := Aside0.mk (Kd.V_afterv (Kd.V_apart_nil (by (with_reducible repeat (first | apply Kd.V_alloc | apply Kd.V_drewN | apply Kd.V_drew)); exact HO_6.out)) hg hat)
      have n1_ := Aside0.mk (Kd.V_afterv (Kd.V_apart_nil (by (with_reducible repeat (first | apply Kd.V_alloc | apply Kd.V_drewN | apply Kd.V_drew)); exact HO_7.out)) hg hat)
      have n2_ := Aside0.mk (Kd.V_afterv (Kd.V_apart_nil (by (with_reducible repeat (first | apply Kd.V_alloc | apply Kd.V_drewN | apply Kd.V_drew)); exact HO_9.out)) hg hat)
      have n3_ := Aside0.mk (Kd.V_afterv (Kd.V_apart_nil (by (with_reducible repeat (first | apply Kd.V_alloc | apply Kd.V_drewN | apply Kd.V_drew)); exact HO_11.out)) hg hat)
      have n4_ := Aside0.mk (Kd.N_afterv (Kd.N_apart_nil (by (with_reducible repeat (first | apply Kd.N_alloc | apply Kd.N_drewN | apply Kd.N_drew)); exact HO_559000.out)) hg hat)
      have n5_ := Aside0.mk (Kd.N_afterv (Kd.N_apart_nil (by (with_reducible repeat (first | apply Kd.N_alloc | apply Kd.N_drewN | apply Kd.N_drew)); exact HO_559001.out)) hg hat)
      have n6_ := Aside0.mk (blk_grown (g := gb551) (o := .cells #[.slice A1_0 l1_0.length c1_0, .slice A1_1 l1_1.length c1_1] 40 (0, 0)) (by (with_reducible repeat (first | refine blk_drewN ?_ _ | refine blk_drew ?_ | refine blk_alloc ?_ _)); exact BK551.out) hg (by simp [Value.ownBlock]))
      have n7_ := Aside0.mk (blk_grown (g := gb558) (o := .cells #[.slice Ao13 t552.length co13, .slice Ao16 t555.length co16] 43 (0, 0)) (by (with_reducible repeat (first | refine blk_drewN ?_ _ | refine blk_drew ?_ | refine blk_alloc ?_ _)); exact BK558.out) hg (by simp [Value.ownBlock]))
      have n8_ := Aside0.mk (hb)
      have n9_ := Aside0.mk (ho)
      clear HO_6
      clear HO_7
      clear HO_9
      clear HO_11
      clear HO_559000
      clear HO_559001
      clear BK551
      clear BK558
      clear HB
      have HO_6 := n0_
      have HO_7 := n1_
      have HO_9 := n2_
      have HO_11 := n3_
      have HO_559000 := n4_
      have HO_559001 := n5_
      have BK551 := n6_
      have BK558 := n7_
      have HB := n8_
      have HO576 := n9_
      clear n0_ n1_ n2_ n3_ n4_ n5_ n6_ n7_ n8_ n9_
      clear ho hb hg hat
      refine hK.out _ _ ⟨(blk_cell BK558.out 0).trans rfl, (blk_cell BK558.out 1).trans rfl⟩ (fun hHeld => ?_)
      clear hK K
      refine norm_ (a' := ?_) ?_ ?_
      rotate_left
      ·
       show Act.put _ (some 76) _ = _
       simp only [Act.put, List.setIfInBounds_toArray, List.set_cons_zero, List.set_cons_succ, i64_w, i32_w]
       rfl
      refine one_ (i := 5) (N := some 79) #[true, true, true, true, true, true, false] rfl rfl (by kernel_rfl) (by decide) (fun K hK => ?_)
      refine Kd.N_append_rows_step (Kd.slice 4 Kd.bool) (w0 := w) w.heap.size (by rfl) (.tmp 76) (.tmp 78) 41 30 (.slice none 0 0) 24 rfl Tryd.underlying41 info30 rfl (by decide) (by omega) v575 y574 t555 _ _ _ (fun k_ => k_ ≠ gb551 ∧ k_ ≠ gb558) (fun k_ => ((fun k_ => k_ ≠ gb551 ∧ k_ ≠ gb558)) k_ ∧ some k_ ≠ (v575 : Value).ownBlock) rfl rfl ?aO ?aR (fun _ hk => hk) ?aF ?aB ?aS ?aL ?_
      (case aR => exact (by skip; exact Kd.N_F (Kd.N_mono (ok' := (fun k_ => ((fun k_ => k_ ≠ gb551 ∧ k_ ≠ gb558)) k_ ∧ some k_ ≠ (v575 : Value).ownBlock)) (HO_559001.out) (fun k_ hk => ⟨⟨hk.1.2.1, hk.1.2.2⟩, hk.2⟩))))
      (case aB => exact (by repeat (first | (with_reducible first | exact HB.out | apply below_alloc | apply pw_below_drewN | apply below_drew1 | refine below_set ?_ GE551.out | refine below_set ?_ GE558.out) | exact HB.out)))
      (case aF => exact (fun k_ hk => ⟨Kd.freshB (g := gb551) (o := .cells #[.slice A1_0 l1_0.length c1_0, .slice A1_1 l1_1.length c1_1] 40 (0, 0)) (by (with_reducible repeat (first | refine blk_drewN ?_ _ | refine blk_drew ?_ | refine blk_alloc ?_ _)); exact BK551.out) k_ hk, Kd.freshB (g := gb558) (o := .cells #[.slice Ao13 t552.length co13, .slice Ao16 t555.length co16] 43 (0, 0)) (by (with_reducible repeat (first | refine blk_drewN ?_ _ | refine blk_drew ?_ | refine blk_alloc ?_ _)); exact BK558.out) k_ hk⟩))
      (case aO => exact (by (with_reducible repeat (first | apply Kd.N_alloc | apply Kd.N_drewN | apply Kd.N_drew)); exact Kd.N_mono HO576.out (fun _ hk => ⟨hk.2.1, hk.2.2⟩)))
      (case aS => exact (below_size (by repeat (first | (with_reducible first | exact HB.out | apply below_alloc | apply pw_below_drewN | apply below_drew1 | refine below_set ?_ GE551.out | refine below_set ?_ GE558.out) | exact HB.out))))
      (case aL => have := LMc34.out; omega)
      intro v578 w40 ho hb hg hat
      rw [← Ny577.out] at ho
      have n0_ := Aside0.mk (Kd.V_afterv (ok := (fun k_ => k_ ≠ gb551 ∧ k_ ≠ gb558)) (by (with_reducible repeat (first | apply Kd.V_alloc | apply Kd.V_drewN | apply Kd.V_drew)); exact HO_6.out) hg hat)
      have n1_ := Aside0.mk (Kd.V_afterv (ok := (fun k_ => k_ ≠ gb551 ∧ k_ ≠ gb558)) (by (with_reducible repeat (first | apply Kd.V_alloc | apply Kd.V_drewN | apply Kd.V_drew)); exact HO_7.out) hg hat)
      have n2_ := Aside0.mk (Kd.V_afterv (ok := (fun k_ => k_ ≠ gb551 ∧ k_ ≠ gb558)) (by (with_reducible repeat (first | apply Kd.V_alloc | apply Kd.V_drewN | apply Kd.V_drew)); exact HO_9.out) hg hat)
      have n3_ := Aside0.mk (Kd.V_afterv (ok := (fun k_ => k_ ≠ gb551 ∧ k_ ≠ gb558)) (by (with_reducible repeat (first | apply Kd.V_alloc | apply Kd.V_drewN | apply Kd.V_drew)); exact HO_11.out) hg hat)
      have n4_ := Aside0.mk (Kd.N_afterv (ok := (fun k_ => some k_ ≠ (.slice Ao16 t555.length co16 : Value).ownBlock ∧ k_ ≠ gb551 ∧ k_ ≠ gb558)) (by (with_reducible repeat (first | apply Kd.N_alloc | apply Kd.N_drewN | apply Kd.N_drew)); exact HO_559000.out) hg hat)
      have n5_ := Aside0.mk (Kd.N_afterv (ok := (fun k_ => some k_ ≠ (.slice Ao13 t552.length co13 : Value).ownBlock ∧ k_ ≠ gb551 ∧ k_ ≠ gb558)) (by (with_reducible repeat (first | apply Kd.N_alloc | apply Kd.N_drewN | apply Kd.N_drew)); exact HO_559001.out) hg hat)
      have n6_ := Aside0.mk (blk_grown (g := gb551) (o := .cells #[.slice A1_0 l1_0.length c1_0, .slice A1_1 l1_1.length c1_1] 40 (0, 0)) (by (with_reducible repeat (first | refine blk_drewN ?_ _ | refine blk_drew ?_ | refine blk_alloc ?_ _)); exact BK551.out) hg (Kd.N_ne HO576.out BK551.out (by decide)))
      have n7_ := Aside0.mk (blk_grown (g := gb558) (o := .cells #[.slice Ao13 t552.length co13, .slice Ao16 t555.length co16] 43 (0, 0)) (by (with_reducible repeat (first | refine blk_drewN ?_ _ | refine blk_drew ?_ | refine blk_alloc ?_ _)); exact BK558.out) hg (Kd.N_ne HO576.out BK558.out (by decide)))
      have n8_ := Aside0.mk (hb)
      have n9_ := Aside0.mk (ho)
      clear HO_6
      clear HO_7
      clear HO_9
      clear HO_11
      clear HO_559000
      clear HO_559001
      clear BK551
      clear BK558
      clear HB
      clear HO576
      have HO_6 := n0_
      have HO_7 := n1_
      have HO_9 := n2_
      have HO_11 := n3_
      have HO_559000 := n4_
      have HO_559001 := n5_
      have BK551 := n6_
      have BK558 := n7_
      have HB := n8_
      have HO579 := n9_
      clear n0_ n1_ n2_ n3_ n4_ n5_ n6_ n7_ n8_ n9_
      clear ho hb hg hat
      refine hK.out _ _ ⟨(blk_cell BK558.out 0).trans rfl, (blk_cell BK558.out 1).trans rfl⟩ (fun hHeld => ?_)
      clear hK K
      refine norm_ (a' := ?_) ?_ ?_
      rotate_left
      ·
       show Act.put _ (some 79) _ = _
       simp only [Act.put, List.setIfInBounds_toArray, List.set_cons_zero, List.set_cons_succ, i64_w, i32_w]
       rfl
      refine pure_ (i := 6) (N := some 15) (v := ?_) (a' := ?_) #[true, true, true, true, true, true, true] rfl rfl (by kernel_rfl) (fun _ _ _ h => h) (Or.inl ⟨by rfl, ?_⟩) ?_ ?_
      rotate_left
      ·
       intro w'
       go_simp
       with_reducible rfl
      rotate_left
      ·
       simp only [Act.put, List.setIfInBounds_toArray, List.set_cons_zero, List.set_cons_succ, i64_w, i32_w]
       rfl
      refine done_ (by kernel_rfl) ?_
      try go_wp2
      go_loopg [14, 16] kj7 (fun kq v14 v16 w' => ∃ (x14_2 : Int) (x16_2 : Int), v14 = .int .i64 x14_2 ∧ v16 = .int .i64 x16_2 ∧ Aside0 (foretellkeep_ClaimLine.l0 kq t559 t562 t566 t570 (wrap64 ((t552.length : Int) + (t555.length : Int))) x14_2 y577 x16_2 t552 t555 = some r) ∧ Aside0 (kq ≤ kj7) ∧ Aside0 (Kd.V k51 51 w' w.heap.size (fun k_ => some k_ ≠ (v578 : Value).ownBlock ∧ k_ ≠ gb551 ∧ k_ ≠ gb558) (.slice Ao19 t559.length co19) t559) ∧ Aside0 (Kd.V (Kd.int .i64) 3 w' w.heap.size (fun k_ => some k_ ≠ (v578 : Value).ownBlock ∧ k_ ≠ gb551 ∧ k_ ≠ gb558) (.slice Ao35 t562.length co35) t562) ∧ Aside0 (Kd.V Kd.bool 4 w' w.heap.size (fun k_ => some k_ ≠ (v578 : Value).ownBlock ∧ k_ ≠ gb551 ∧ k_ ≠ gb558) (.slice Ao36 t566.length co36) t566) ∧ Aside0 (Kd.V (Kd.int .i64) 3 w' w.heap.size (fun k_ => some k_ ≠ (v578 : Value).ownBlock ∧ k_ ≠ gb551 ∧ k_ ≠ gb558) (.slice Ao37 t570.length co37) t570) ∧ Aside0 (Kd.N (Kd.slice 4 Kd.bool) 30 w' w.heap.size (fun k_ => k_ ≠ gb551 ∧ k_ ≠ gb558) v578 y577) ∧ Aside0 (Kd.N (Kd.slice 4 Kd.bool) 30 w' w.heap.size (fun k_ => some k_ ≠ (v578 : Value).ownBlock ∧ some k_ ≠ ((.slice Ao16 t555.length co16) : Value).ownBlock ∧ k_ ≠ gb551 ∧ k_ ≠ gb558) (.slice Ao13 t552.length co13) t552) ∧ Aside0 (Kd.N (Kd.slice 4 Kd.bool) 30 w' w.heap.size (fun k_ => some k_ ≠ (v578 : Value).ownBlock ∧ some k_ ≠ ((.slice Ao13 t552.length co13) : Value).ownBlock ∧ k_ ≠ gb551 ∧ k_ ≠ gb558) (.slice Ao16 t555.length co16) t555) ∧ Aside0 (w'.heap[gb551]? = some (.cells #[(.slice A1_0 l1_0.length c1_0), (.slice A1_1 l1_1.length c1_1)] 40 (0, 0))) ∧ Aside0 (w'.heap[gb558]? = some (.cells #[(.slice Ao13 t552.length co13), (.slice Ao16 t555.length co16)] 43 (0, 0))) ∧ Aside0 (Below w.heap.size w w'))
      case atStart => exact ⟨(0), (0), (by first | rfl | (simp; done) | (simp [*]; done)), (by first | rfl | (simp; done) | (simp [*]; done)), H', ⟨Nat.le_refl _⟩, ⟨by (with_reducible repeat (first | apply Kd.V_alloc | apply Kd.V_drewN | apply Kd.V_drew)); exact Kd.V_mono HO_6.out (fun _ hk => ⟨hk.2, ⟨hk.1.1, hk.1.2⟩⟩)⟩, ⟨by (with_reducible repeat (first | apply Kd.V_alloc | apply Kd.V_drewN | apply Kd.V_drew)); exact Kd.V_mono HO_7.out (fun _ hk => ⟨hk.2, ⟨hk.1.1, hk.1.2⟩⟩)⟩, ⟨by (with_reducible repeat (first | apply Kd.V_alloc | apply Kd.V_drewN | apply Kd.V_drew)); exact Kd.V_mono HO_9.out (fun _ hk => ⟨hk.2, ⟨hk.1.1, hk.1.2⟩⟩)⟩, ⟨by (with_reducible repeat (first | apply Kd.V_alloc | apply Kd.V_drewN | apply Kd.V_drew)); exact Kd.V_mono HO_11.out (fun _ hk => ⟨hk.2, ⟨hk.1.1, hk.1.2⟩⟩)⟩, ⟨by (with_reducible repeat (first | apply Kd.N_alloc | apply Kd.N_drewN | apply Kd.N_drew)); exact HO579.out⟩, ⟨by (with_reducible repeat (first | apply Kd.N_alloc | apply Kd.N_drewN | apply Kd.N_drew)); exact Kd.N_mono HO_559000.out (fun _ hk => ⟨hk.2, ⟨hk.1.1, ⟨hk.1.2.1, hk.1.2.2⟩⟩⟩)⟩, ⟨by (with_reducible repeat (first | apply Kd.N_alloc | apply Kd.N_drewN | apply Kd.N_drew)); exact Kd.N_mono HO_559001.out (fun _ hk => ⟨hk.2, ⟨hk.1.1, ⟨hk.1.2.1, hk.1.2.2⟩⟩⟩)⟩, ⟨by (with_reducible repeat (first | refine blk_drewN ?_ _ | refine blk_drew ?_ | refine blk_alloc ?_ _)); exact BK551.out⟩, ⟨by (with_reducible repeat (first | refine blk_drewN ?_ _ | refine blk_drew ?_ | refine blk_alloc ?_ _)); exact BK558.out⟩, ⟨by repeat (first | (with_reducible first | exact HB.out | apply below_alloc | apply pw_below_drewN | apply below_drew1 | refine below_set ?_ GE551.out | refine below_set ?_ GE558.out) | exact HB.out)⟩⟩
      case round =>
       clear H'
       try clear c1
       try clear c2
       try clear p2
       try clear c3
       try clear p6
       try clear c14
       try clear c15
       try clear c16
       try clear c17
       try clear c23
       try clear c24
       try clear c25
       try clear c25b0
       try clear c25b1
       try clear c26
       try clear c26b0
       try clear c26b1
       try clear c27
       try clear c27b0
       try clear c27b1
       try clear c28
       try clear c28b0
       try clear c28b1
       try clear c32
       try clear c33
       try clear c34
       try clear hcz10_0
       try clear hcz10_1
       try clear hcz15_0
       try clear hcz15_1
       try clear hcz18_0
       try clear hcz18_1
       try clear hcz21_0
       try clear hcz21_1
       try clear hcz24_0
       try clear hcz24_1
       try clear hfz10_0
       try clear hfz10_1
       try clear hfz15_0
       try clear hfz15_1
       try clear hfz18_0
       try clear hfz18_1
       try clear hfz21_0
       try clear hfz21_1
       try clear hfz24_0
       try clear hfz24_1
       try clear p2
       try clear p6
       obtain ⟨x14_2, x16_2, rfl, rfl, HA, HK2, HO_6, HO_7, HO_9, HO_11, HO_15, HO_559000, HO_559001, BK551, BK558, HB⟩ := hrel
       cases gk with
       | zero => exact absurd HA.out (by simp [foretellkeep_ClaimLine.l0])
       | succ k2 =>
        have H := HA.out
        clear HA
        simp only [foretellkeep_ClaimLine.l0] at H
        by_cases c41 : x16_2 < (wrap64 ((t552.length : Int) + (t555.length : Int)))
        ·
         rw [if_pos c41] at H
         have c41b0 : decide (x16_2 < (wrap64 ((t552.length : Int) + (t555.length : Int)))) = true := decide_eq_true c41
         clear c41
         have HC42 := Aside0.mk H
         clear H
         go_upto_if 89 with (fail)
         go_cut [17] (fun v17 wc => ∃ (kq : Nat) (x17_41 : Int), v17 = .int .i64 x17_41 ∧ Aside0 (foretellkeep_ClaimLine.j2 kq t559 t562 t566 t570 (wrap64 ((t552.length : Int) + (t555.length : Int))) x14_2 y577 x16_2 x17_41 t552 t555 = some r) ∧ Aside0 (kq ≤ k2) ∧ Aside0 (Kd.V k51 51 wc w.heap.size (fun k_ => some k_ ≠ (v578 : Value).ownBlock ∧ k_ ≠ gb551 ∧ k_ ≠ gb558) (.slice Ao19 t559.length co19) t559) ∧ Aside0 (Kd.V (Kd.int .i64) 3 wc w.heap.size (fun k_ => some k_ ≠ (v578 : Value).ownBlock ∧ k_ ≠ gb551 ∧ k_ ≠ gb558) (.slice Ao35 t562.length co35) t562) ∧ Aside0 (Kd.V Kd.bool 4 wc w.heap.size (fun k_ => some k_ ≠ (v578 : Value).ownBlock ∧ k_ ≠ gb551 ∧ k_ ≠ gb558) (.slice Ao36 t566.length co36) t566) ∧ Aside0 (Kd.V (Kd.int .i64) 3 wc w.heap.size (fun k_ => some k_ ≠ (v578 : Value).ownBlock ∧ k_ ≠ gb551 ∧ k_ ≠ gb558) (.slice Ao37 t570.length co37) t570) ∧ Aside0 (Kd.N (Kd.slice 4 Kd.bool) 30 wc w.heap.size (fun k_ => k_ ≠ gb551 ∧ k_ ≠ gb558) v578 y577) ∧ Aside0 (Kd.N (Kd.slice 4 Kd.bool) 30 wc w.heap.size (fun k_ => some k_ ≠ (v578 : Value).ownBlock ∧ some k_ ≠ ((.slice Ao16 t555.length co16) : Value).ownBlock ∧ k_ ≠ gb551 ∧ k_ ≠ gb558) (.slice Ao13 t552.length co13) t552) ∧ Aside0 (Kd.N (Kd.slice 4 Kd.bool) 30 wc w.heap.size (fun k_ => some k_ ≠ (v578 : Value).ownBlock ∧ some k_ ≠ ((.slice Ao13 t552.length co13) : Value).ownBlock ∧ k_ ≠ gb551 ∧ k_ ≠ gb558) (.slice Ao16 t555.length co16) t555) ∧ Aside0 (wc.heap[gb551]? = some (.cells #[(.slice A1_0 l1_0.length c1_0), (.slice A1_1 l1_1.length c1_1)] 40 (0, 0))) ∧ Aside0 (wc.heap[gb558]? = some (.cells #[(.slice Ao13 t552.length co13), (.slice Ao16 t555.length co16)] 43 (0, 0))) ∧ Aside0 (Below w.heap.size w wc))
         case first =>
          have H := HC42.out
          clear HC42
          by_cases c43 : (wrap64 (x16_2 + 1)) = (wrap64 ((t552.length : Int) + (t555.length : Int)))
          ·
           rw [if_pos c43] at H
           have c43b0 : ((wrap64 (x16_2 + 1)) == (wrap64 ((t552.length : Int) + (t555.length : Int)))) = true := beq_iff_eq.mpr c43
           have c43b1 : ((wrap64 (x16_2 + 1)) != (wrap64 ((t552.length : Int) + (t555.length : Int)))) = false := bne_eq_false_iff_eq.mpr c43
           clear c43
           (first | rw [c43b0] | (simp only [i64_w, i32_w]; rw [c43b0]) | skip)
           have H' := Aside0.mk H
           clear H
           have hnb44 := NB558_551.out
           have hnc44 := NB551_558.out
           have hcz45_0 : wr.cell? ⟨gb558, 0, none⟩ = some (.slice Ao13 t552.length co13) := (blk_cell BK558.out 0).trans rfl
           have hcz45_1 : wr.cell? ⟨gb558, 1, none⟩ = some (.slice Ao16 t555.length co16) := (blk_cell BK558.out 1).trans rfl
           have hfz45_0 := blk_frozen BK558.out 0
           have hfz45_1 := blk_frozen BK558.out 1
           go_wp2
           go_meet
           case rel => exact ⟨_, ((t552.length : Int)), (by first | rfl | (simp; done) | (simp [*]; done)), H', ⟨by have := HJ7.out; have := HK2.out; first | omega | exact Nat.le_refl _⟩, ⟨by (with_reducible repeat (first | apply Kd.V_alloc | apply Kd.V_drewN | apply Kd.V_drew)); exact HO_6.out⟩, ⟨by (with_reducible repeat (first | apply Kd.V_alloc | apply Kd.V_drewN | apply Kd.V_drew)); exact HO_7.out⟩, ⟨by (with_reducible repeat (first | apply Kd.V_alloc | apply Kd.V_drewN | apply Kd.V_drew)); exact HO_9.out⟩, ⟨by (with_reducible repeat (first | apply Kd.V_alloc | apply Kd.V_drewN | apply Kd.V_drew)); exact HO_11.out⟩, ⟨by (with_reducible repeat (first | apply Kd.N_alloc | apply Kd.N_drewN | apply Kd.N_drew)); exact HO_15.out⟩, ⟨by (with_reducible repeat (first | apply Kd.N_alloc | apply Kd.N_drewN | apply Kd.N_drew)); exact HO_559000.out⟩, ⟨by (with_reducible repeat (first | apply Kd.N_alloc | apply Kd.N_drewN | apply Kd.N_drew)); exact HO_559001.out⟩, ⟨by (with_reducible repeat (first | refine blk_drewN ?_ _ | refine blk_drew ?_ | refine blk_alloc ?_ _)); exact BK551.out⟩, ⟨by (with_reducible repeat (first | refine blk_drewN ?_ _ | refine blk_drew ?_ | refine blk_alloc ?_ _)); exact BK558.out⟩, ⟨by repeat (first | (with_reducible first | exact HB.out | apply below_alloc | apply pw_below_drewN | apply below_drew1 | refine below_set ?_ GE551.out | refine below_set ?_ GE558.out) | exact HB.out)⟩⟩
          ·
           rw [if_neg c43] at H
           have c43b0 : ((wrap64 (x16_2 + 1)) == (wrap64 ((t552.length : Int) + (t555.length : Int)))) = false := beq_eq_false_iff_ne.mpr c43
           have c43b1 : ((wrap64 (x16_2 + 1)) != (wrap64 ((t552.length : Int) + (t555.length : Int)))) = true := bne_iff_ne.mpr c43
           (first | rw [c43b0] | (simp only [i64_w, i32_w]; rw [c43b0]) | skip)
           have H' := Aside0.mk H
           clear H
           go_wp2
           go_meet
           case rel => exact ⟨_, (wrap64 (x16_2 + 1)), (by first | rfl | (simp; done) | (simp [*]; done)), H', ⟨by have := HJ7.out; have := HK2.out; first | omega | exact Nat.le_refl _⟩, ⟨by (with_reducible repeat (first | apply Kd.V_alloc | apply Kd.V_drewN | apply Kd.V_drew)); exact HO_6.out⟩, ⟨by (with_reducible repeat (first | apply Kd.V_alloc | apply Kd.V_drewN | apply Kd.V_drew)); exact HO_7.out⟩, ⟨by (with_reducible repeat (first | apply Kd.V_alloc | apply Kd.V_drewN | apply Kd.V_drew)); exact HO_9.out⟩, ⟨by (with_reducible repeat (first | apply Kd.V_alloc | apply Kd.V_drewN | apply Kd.V_drew)); exact HO_11.out⟩, ⟨by (with_reducible repeat (first | apply Kd.N_alloc | apply Kd.N_drewN | apply Kd.N_drew)); exact HO_15.out⟩, ⟨by (with_reducible repeat (first | apply Kd.N_alloc | apply Kd.N_drewN | apply Kd.N_drew)); exact HO_559000.out⟩, ⟨by (with_reducible repeat (first | apply Kd.N_alloc | apply Kd.N_drewN | apply Kd.N_drew)); exact HO_559001.out⟩, ⟨by (with_reducible repeat (first | refine blk_drewN ?_ _ | refine blk_drew ?_ | refine blk_alloc ?_ _)); exact BK551.out⟩, ⟨by (with_reducible repeat (first | refine blk_drewN ?_ _ | refine blk_drew ?_ | refine blk_alloc ?_ _)); exact BK558.out⟩, ⟨by repeat (first | (with_reducible first | exact HB.out | apply below_alloc | apply pw_below_drewN | apply below_drew1 | refine below_set ?_ GE551.out | refine below_set ?_ GE558.out) | exact HB.out)⟩⟩
         case rest =>
          clear HC42
          try clear c1
          try clear c2
          try clear p2
          try clear c3
          try clear c4
          try clear p6
          try clear c14
          try clear c15
          try clear c16
          try clear c17
          try clear c23
          try clear c24
          try clear c25
          try clear c25b0
          try clear c25b1
          try clear c26
          try clear c26b0
          try clear c26b1
          try clear c27
          try clear c27b0
          try clear c27b1
          try clear c28
          try clear c28b0
          try clear c28b1
          try clear c32
          try clear c33
          try clear c34
          try clear c41
          try clear c41b0
          try clear c43
          try clear c43b0
          try clear c43b1
          try clear c44
          try clear hcz10_0
          try clear hcz10_1
          try clear hcz15_0
          try clear hcz15_1
          try clear hcz18_0
          try clear hcz18_1
          try clear hcz21_0
          try clear hcz21_1
          try clear hcz24_0
          try clear hcz24_1
          try clear hcz45_0
          try clear hcz45_1
          try clear hfz10_0
          try clear hfz10_1
          try clear hfz15_0
          try clear hfz15_1
          try clear hfz18_0
          try clear hfz18_1
          try clear hfz21_0
          try clear hfz21_1
          try clear hfz24_0
          try clear hfz24_1
          try clear hfz45_0
          try clear hfz45_1
          try clear p2
          try clear p6
          obtain ⟨kq, x17_41, rfl, HA, HJ41, HO_6, HO_7, HO_9, HO_11, HO_15, HO_559000, HO_559001, BK551, BK558, HB⟩ := hcut
          cases kq with
          | zero => exact absurd HA.out (by simp [foretellkeep_ClaimLine.j2])
          | succ kj41 =>
           have H := HA.out
           clear HA
           simp only [foretellkeep_ClaimLine.j2] at H
           have HC46 := Aside0.mk H
           clear H
           go_upto_region 17 with (fail)
           go_cut [18, 19] (fun v18 v19 wc => ∃ (kq : Nat) (x18_45 : Bool) (x19_45 : Int), v18 = .bool x18_45 ∧ v19 = .int .i64 x19_45 ∧ Aside0 (foretellkeep_ClaimLine.j3 kq t559 t562 t566 t570 (wrap64 ((t552.length : Int) + (t555.length : Int))) x14_2 y577 x16_2 x18_45 x19_45 t552 t555 = some r) ∧ Aside0 (kq ≤ kj41) ∧ Aside0 (Kd.V k51 51 wc w.heap.size (fun k_ => some k_ ≠ (v578 : Value).ownBlock ∧ k_ ≠ gb551 ∧ k_ ≠ gb558) (.slice Ao19 t559.length co19) t559) ∧ Aside0 (Kd.V (Kd.int .i64) 3 wc w.heap.size (fun k_ => some k_ ≠ (v578 : Value).ownBlock ∧ k_ ≠ gb551 ∧ k_ ≠ gb558) (.slice Ao35 t562.length co35) t562) ∧ Aside0 (Kd.V Kd.bool 4 wc w.heap.size (fun k_ => some k_ ≠ (v578 : Value).ownBlock ∧ k_ ≠ gb551 ∧ k_ ≠ gb558) (.slice Ao36 t566.length co36) t566) ∧ Aside0 (Kd.V (Kd.int .i64) 3 wc w.heap.size (fun k_ => some k_ ≠ (v578 : Value).ownBlock ∧ k_ ≠ gb551 ∧ k_ ≠ gb558) (.slice Ao37 t570.length co37) t570) ∧ Aside0 (Kd.N (Kd.slice 4 Kd.bool) 30 wc w.heap.size (fun k_ => k_ ≠ gb551 ∧ k_ ≠ gb558) v578 y577) ∧ Aside0 (Kd.N (Kd.slice 4 Kd.bool) 30 wc w.heap.size (fun k_ => some k_ ≠ (v578 : Value).ownBlock ∧ some k_ ≠ ((.slice Ao16 t555.length co16) : Value).ownBlock ∧ k_ ≠ gb551 ∧ k_ ≠ gb558) (.slice Ao13 t552.length co13) t552) ∧ Aside0 (Kd.N (Kd.slice 4 Kd.bool) 30 wc w.heap.size (fun k_ => some k_ ≠ (v578 : Value).ownBlock ∧ some k_ ≠ ((.slice Ao13 t552.length co13) : Value).ownBlock ∧ k_ ≠ gb551 ∧ k_ ≠ gb558) (.slice Ao16 t555.length co16) t555) ∧ Aside0 (wc.heap[gb551]? = some (.cells #[(.slice A1_0 l1_0.length c1_0), (.slice A1_1 l1_1.length c1_1)] 40 (0, 0))) ∧ Aside0 (wc.heap[gb558]? = some (.cells #[(.slice Ao13 t552.length co13), (.slice Ao16 t555.length co16)] 43 (0, 0))) ∧ Aside0 (Below w.heap.size w wc))
           case first =>
            have H := HC46.out
            clear HC46
            by_cases c47 : 0 ≤ x16_2
            ·
             rw [if_pos c47] at H
             have c47b0 : decide (0 ≤ x16_2) = true := decide_eq_true c47
             clear c47
             (first | rw [c47b0] | (simp only [i64_w, i32_w]; rw [c47b0]) | skip)
             by_cases c48 : x16_2 < (y577.length : Int)
             ·
              rw [if_pos c48] at H
              have c48b0 : decide (x16_2 < (y577.length : Int)) = true := decide_eq_true c48
              clear c48
              by_cases c49 : x16_2 < (t562.length : Int)
              ·
               rw [if_pos c49] at H
               have c49b0 : decide (x16_2 < (t562.length : Int)) = true := decide_eq_true c49
               clear c49
               by_cases c50 : 0 ≤ x17_41
               ·
                rw [if_pos c50] at H
                have c50b0 : decide (0 ≤ x17_41) = true := decide_eq_true c50
                clear c50
                by_cases c51 : x17_41 < (y577.length : Int)
                ·
                 rw [if_pos c51] at H
                 have c51b0 : decide (x17_41 < (y577.length : Int)) = true := decide_eq_true c51
                 clear c51
                 by_cases c52 : x17_41 < (t562.length : Int)
                 ·
                  rw [if_pos c52] at H
                  have c52b0 : decide (x17_41 < (t562.length : Int)) = true := decide_eq_true c52
                  clear c52
                  replace H := Option.bind_eq_some_iff.mp H
                  obtain ⟨⟨t584, t585⟩, A530, H⟩ := H
                  replace H : (foretellkeep_ClaimLine.j3 kj41 t559 t562 t566 t570 (wrap64 ((t552.length : Int) + (t555.length : Int))) x14_2 y577 x16_2 t584 t585 t552 t555) = some r := H
                  have A53 := Aside0.mk A530
                  clear A530
                  have H' := Aside0.mk H
                  clear H
                  try go_wp2
                  have n0_ := Aside0.mk (Kd.V_drew HO_6.out)
                  have n1_ := Aside0.mk (Kd.V_drew HO_7.out)
                  have n2_ := Aside0.mk (Kd.V_drew HO_9.out)
                  have n3_ := Aside0.mk (Kd.V_drew HO_11.out)
                  have n4_ := Aside0.mk (Kd.N_drew HO_15.out)
                  have n5_ := Aside0.mk (Kd.N_drew HO_559000.out)
                  have n6_ := Aside0.mk (Kd.N_drew HO_559001.out)
                  have n7_ := Aside0.mk (blk_drew BK551.out)
                  have n8_ := Aside0.mk (blk_drew BK558.out)
                  have n9_ := Aside0.mk (below_drew1 HB.out)
                  clear HO_6
                  clear HO_7
                  clear HO_9
                  clear HO_11
                  clear HO_15
                  clear HO_559000
                  clear HO_559001
                  clear BK551
                  clear BK558
                  clear HB
                  have HO_6 := n0_
                  have HO_7 := n1_
                  have HO_9 := n2_
                  have HO_11 := n3_
                  have HO_15 := n4_
                  have HO_559000 := n5_
                  have HO_559001 := n6_
                  have BK551 := n7_
                  have BK558 := n8_
                  have HB := n9_
                  clear n0_ n1_ n2_ n3_ n4_ n5_ n6_ n7_ n8_ n9_
                  obtain ⟨Ao55, co55, eo55⟩ := Kd.N_slice HO_15.out
                  (first | subst eo55 | (injection eo55 with f1_ f2_ f3_; have f4_ := f1_.symm; have f5_ := f3_.symm; clear f1_ f2_ f3_; subst f4_; subst f5_))
                  have p580 : 0 ≤ (x16_2 : Int) := of_decide_eq_true (by first | (with_reducible assumption) | assumption)
                  have q580 : x16_2 < (y577.length : Int) := of_decide_eq_true (by first | (with_reducible assumption) | assumption)
                  obtain ⟨ad580, A580_0, c580_0, e580, hx580_0, hl580_0, hi580_0⟩ := at_L7 (Kd.N_reads' HO_15.out).2.2 x16_2 p580 q580
                  cases e580
                  obtain ⟨ce580, hce580, hMe580, hcc580⟩ := Kd.N_get HO_15.out [] x16_2 p580 (by first | exact q580 | exact of_decide_eq_true (by first | (with_reducible assumption) | assumption) | (have e_ := (Kd.N_reads' HO_15.out).1; omega))
                  obtain ⟨ua580_0, uc580_0, rfl, ul580_0, ge580_0⟩ := Kd.FK_slice_open hMe580
                  have hv580_0 := hcc580 0 _ rfl
                  rw [Nat.add_zero, show ((Kd.slice 4 Kd.bool)).sz = 1 from rfl, Nat.mul_one] at hv580_0
                  replace hv580_0 := Option.some.inj (hv580_0.symm.trans hx580_0)
                  injection hv580_0 with hva_ hvn_ hvc_
                  rw [hva_] at ge580_0
                  rw [hvc_] at ul580_0
                  have HL580_0 := Aside0.mk (show Kd.V Kd.bool 4 _ w.heap.size _ _ (rd_L7 y577 x16_2) from Kd.V_mk ul580_0 ge580_0)
                  clear hva_ hvn_ hvc_ ge580_0 ul580_0
                  clear hcc580 hce580
                  have HR580_0 := Aside0.mk hi580_0
                  have HC580_0 := Aside0.mk hl580_0
                  clear hi580_0 hl580_0
                  replace p580 := eq_true p580
                  replace q580 := eq_true q580
                  have p581 : 0 ≤ (x16_2 : Int) := of_decide_eq_true (by first | (with_reducible assumption) | assumption)
                  have q581 : x16_2 < (t562.length : Int) := of_decide_eq_true (by first | (with_reducible assumption) | assumption)
                  obtain ⟨ad581, e581, hx581_0⟩ := Kd.at_int (Kd.V_reads' HO_7.out).2.2 x16_2 p581 q581
                  cases e581
                  replace p581 := eq_true p581
                  replace q581 := eq_true q581
                  have p582 : 0 ≤ (x17_41 : Int) := of_decide_eq_true (by first | (with_reducible assumption) | assumption)
                  have q582 : x17_41 < (y577.length : Int) := of_decide_eq_true (by first | (with_reducible assumption) | assumption)
                  obtain ⟨ad582, A582_0, c582_0, e582, hx582_0, hl582_0, hi582_0⟩ := at_L7 (Kd.N_reads' HO_15.out).2.2 x17_41 p582 q582
                  obtain rfl : ad580 = ad582 := (by injection e582)
                  obtain ⟨ce582, hce582, hMe582, hcc582⟩ := Kd.N_get HO_15.out [] x17_41 p582 (by first | exact q582 | exact of_decide_eq_true (by first | (with_reducible assumption) | assumption) | (have e_ := (Kd.N_reads' HO_15.out).1; omega))
                  obtain ⟨ua582_0, uc582_0, rfl, ul582_0, ge582_0⟩ := Kd.FK_slice_open hMe582
                  have hv582_0 := hcc582 0 _ rfl
                  rw [Nat.add_zero, show ((Kd.slice 4 Kd.bool)).sz = 1 from rfl, Nat.mul_one] at hv582_0
                  replace hv582_0 := Option.some.inj (hv582_0.symm.trans hx582_0)
                  injection hv582_0 with hva_ hvn_ hvc_
                  rw [hva_] at ge582_0
                  rw [hvc_] at ul582_0
                  have HL582_0 := Aside0.mk (show Kd.V Kd.bool 4 _ w.heap.size _ _ (rd_L7 y577 x17_41) from Kd.V_mk ul582_0 ge582_0)
                  clear hva_ hvn_ hvc_ ge582_0 ul582_0
                  clear hcc582 hce582
                  have HR582_0 := Aside0.mk hi582_0
                  have HC582_0 := Aside0.mk hl582_0
                  clear hi582_0 hl582_0
                  replace p582 := eq_true p582
                  replace q582 := eq_true q582
                  have p583 : 0 ≤ (x17_41 : Int) := of_decide_eq_true (by first | (with_reducible assumption) | assumption)
                  have q583 : x17_41 < (t562.length : Int) := of_decide_eq_true (by first | (with_reducible assumption) | assumption)
                  obtain ⟨ad583, e583, hx583_0⟩ := Kd.at_int (Kd.V_reads' HO_7.out).2.2 x17_41 p583 q583
                  obtain rfl : ad581 = ad583 := (by injection e583)
                  replace p583 := eq_true p583
                  replace q583 := eq_true q583
                  refine start_ (n := 23) (S := fun w' => w'.cell? (ad580.add (x16_2).toNat) = some (.slice A580_0 (rd_L7 y577 x16_2).length c580_0) ∧ w'.cell? (ad581.add (x16_2).toNat) = some (.int .i64 (rd t562 x16_2)) ∧ w'.cell? (ad580.add (x17_41).toNat) = some (.slice A582_0 (rd_L7 y577 x17_41).length c582_0) ∧ w'.cell? (ad581.add (x17_41).toNat) = some (.int .i64 (rd t562 x17_41))) (ds := []) #[false, false, false, false, false, false, false, false, false, false, false, false, false, false, false, false, false, false, false, false, false, false, false] (by kernel_rfl) rfl rfl ⟨hx580_0, hx581_0, hx582_0, hx583_0⟩ (fun hHeld => ?_); refine with_tabW foretellkeep_ClaimLine.tab17 foretellkeep_ClaimLine.bits17 (fun HT_ HW_ => ?_)
                  generalize wc.drew = w54 at HO_6 HO_7 HO_9 HO_11 HO_15 HO_559000 HO_559001 BK551 BK558 HB HL580_0 HL582_0 HR580_0 HR582_0 hx580_0 hx581_0 hx582_0 hx583_0 hHeld ⊢
                  refine pure_ (i := 0) (N := some 94) (v := ?_) (a' := ?_) #[true, false, false, false, false, false, false, false, false, false, false, false, false, false, false, false, false, false, false, false, false, false, false] rfl rfl (any_of HT_.out (by kernel_rfl)) (fun _ _ _ h => h) (Or.inl ⟨by rfl, ?_⟩) ?_ ?_
                  rotate_left
                  ·
                   intro w'
                   go_simp
                   with_reducible rfl
                  rotate_left
                  ·
                   simp only [Act.put, List.setIfInBounds_toArray, List.set_cons_zero, List.set_cons_succ, i64_w, i32_w]
                   rfl
                  refine pure_ (i := 1) (N := some 95) (v := ?_) (a' := ?_) #[true, true, false, false, false, false, false, false, false, false, false, false, false, false, false, false, false, false, false, false, false, false, false] rfl rfl (any_of HT_.out (by kernel_rfl)) (fun _ _ _ h => h) (Or.inl ⟨by rfl, ?_⟩) ?_ ?_
                  rotate_left
                  ·
                   intro w'
                   go_simp
                   with_reducible rfl
                  rotate_left
                  ·
                   simp only [Act.put, List.setIfInBounds_toArray, List.set_cons_zero, List.set_cons_succ, i64_w, i32_w]
                   rfl
                  refine pure_ (i := 2) (N := some 96) (v := ?_) (a' := ?_) #[true, true, true, false, false, false, false, false, false, false, false, false, false, false, false, false, false, false, false, false, false, false, false] rfl rfl (any_of HT_.out (by kernel_rfl)) (fun _ _ _ h => h) (Or.inl ⟨by rfl, ?_⟩) ?_ ?_
                  rotate_left
                  ·
                   intro w'
                   go_simp
                   with_reducible rfl
                  rotate_left
                  ·
                   simp only [Act.put, List.setIfInBounds_toArray, List.set_cons_zero, List.set_cons_succ, i64_w, i32_w]
                   rfl
                  refine pure_ (i := 3) (N := some 97) (v := ?_) (a' := ?_) #[true, true, true, true, false, false, false, false, false, false, false, false, false, false, false, false, false, false, false, false, false, false, false] rfl rfl (any_of HT_.out (by kernel_rfl)) (fun _ _ _ h => h) (Or.inl ⟨by rfl, ?_⟩) ?_ ?_
                  rotate_left
                  ·
                   intro w'
                   go_simp
                   with_reducible rfl
                  rotate_left
                  ·
                   simp only [Act.put, List.setIfInBounds_toArray, List.set_cons_zero, List.set_cons_succ, i64_w, i32_w]
                   rfl
                  refine pure_ (i := 5) (N := some 99) (v := ?_) (a' := ?_) #[true, true, true, true, false, true, false, false, false, false, false, false, false, false, false, false, false, false, false, false, false, false, false] rfl rfl (any_of HT_.out (by kernel_rfl)) (fun _ _ _ h => h) (Or.inl ⟨by rfl, ?_⟩) ?_ ?_
                  rotate_left
                  ·
                   intro w'
                   go_simp
                   with_reducible rfl
                  rotate_left
                  ·
                   simp only [Act.put, List.setIfInBounds_toArray, List.set_cons_zero, List.set_cons_succ, i64_w, i32_w]
                   rfl
                  refine pure_ (i := 6) (N := some 100) (v := ?_) (a' := ?_) #[true, true, true, true, false, true, true, false, false, false, false, false, false, false, false, false, false, false, false, false, false, false, false] rfl rfl (any_of HT_.out (by kernel_rfl)) (fun _ _ _ h => h) (Or.inl ⟨by rfl, ?_⟩) ?_ ?_
                  rotate_left
                  ·
                   intro w'
                   go_simp
                   with_reducible rfl
                  rotate_left
                  ·
                   simp only [Act.put, List.setIfInBounds_toArray, List.set_cons_zero, List.set_cons_succ, i64_w, i32_w]
                   rfl
                  refine pure_ (i := 7) (N := some 101) (v := ?_) (a' := ?_) #[true, true, true, true, false, true, true, true, false, false, false, false, false, false, false, false, false, false, false, false, false, false, false] rfl rfl (any_of HT_.out (by kernel_rfl)) (fun _ _ _ h => h) (Or.inl ⟨by rfl, ?_⟩) ?_ ?_
                  rotate_left
                  ·
                   intro w'
                   go_simp
                   with_reducible rfl
                  rotate_left
                  ·
                   simp only [Act.put, List.setIfInBounds_toArray, List.set_cons_zero, List.set_cons_succ, i64_w, i32_w]
                   rfl
                  refine pure_ (i := 9) (N := some 103) (v := ?_) (a' := ?_) #[true, true, true, true, false, true, true, true, false, true, false, false, false, false, false, false, false, false, false, false, false, false, false] rfl rfl (any_of HT_.out (by kernel_rfl)) (fun _ _ _ h => h) (Or.inl ⟨by rfl, ?_⟩) ?_ ?_
                  rotate_left
                  ·
                   intro w'
                   go_simp
                   with_reducible rfl
                  rotate_left
                  ·
                   simp only [Act.put, List.setIfInBounds_toArray, List.set_cons_zero, List.set_cons_succ, i64_w, i32_w]
                   rfl
                  refine pure_ (i := 10) (N := some 104) (v := ?_) (a' := ?_) #[true, true, true, true, false, true, true, true, false, true, true, false, false, false, false, false, false, false, false, false, false, false, false] rfl rfl (any_of HT_.out (by kernel_rfl)) (fun _ _ _ h => h) (Or.inl ⟨by rfl, ?_⟩) ?_ ?_
                  rotate_left
                  ·
                   intro w'
                   go_simp
                   with_reducible rfl
                  rotate_left
                  ·
                   simp only [Act.put, List.setIfInBounds_toArray, List.set_cons_zero, List.set_cons_succ, i64_w, i32_w]
                   rfl
                  refine pure_ (i := 11) (N := some 105) (v := ?_) (a' := ?_) #[true, true, true, true, false, true, true, true, false, true, true, true, false, false, false, false, false, false, false, false, false, false, false] rfl rfl (any_of HT_.out (by kernel_rfl)) (fun _ _ _ h => h) (Or.inl ⟨by rfl, ?_⟩) ?_ ?_
                  rotate_left
                  ·
                   intro w'
                   go_simp
                   with_reducible rfl
                  rotate_left
                  ·
                   simp only [Act.put, List.setIfInBounds_toArray, List.set_cons_zero, List.set_cons_succ, i64_w, i32_w]
                   rfl
                  refine pure_ (i := 13) (N := some 107) (v := ?_) (a' := ?_) #[true, true, true, true, false, true, true, true, false, true, true, true, false, true, false, false, false, false, false, false, false, false, false] rfl rfl (any_of HT_.out (by kernel_rfl)) (fun _ _ _ h => h) (Or.inl ⟨by rfl, ?_⟩) ?_ ?_
                  rotate_left
                  ·
                   intro w'
                   go_simp
                   with_reducible rfl
                  rotate_left
                  ·
                   simp only [Act.put, List.setIfInBounds_toArray, List.set_cons_zero, List.set_cons_succ, i64_w, i32_w]
                   rfl
                  refine pure_ (i := 14) (N := some 108) (v := ?_) (a' := ?_) #[true, true, true, true, false, true, true, true, false, true, true, true, false, true, true, false, false, false, false, false, false, false, false] rfl rfl (any_of HT_.out (by kernel_rfl)) (fun _ _ _ h => h) (Or.inl ⟨by rfl, ?_⟩) ?_ ?_
                  rotate_left
                  ·
                   intro w'
                   go_simp
                   with_reducible rfl
                  rotate_left
                  ·
                   simp only [Act.put, List.setIfInBounds_toArray, List.set_cons_zero, List.set_cons_succ, i64_w, i32_w]
                   rfl
                  refine pure_ (i := 15) (N := some 109) (v := ?_) (a' := ?_) #[true, true, true, true, false, true, true, true, false, true, true, true, false, true, true, true, false, false, false, false, false, false, false] rfl rfl (any_of HT_.out (by kernel_rfl)) (fun _ _ _ h => h) (Or.inl ⟨by rfl, ?_⟩) ?_ ?_
                  rotate_left
                  ·
                   intro w'
                   go_simp
                   with_reducible rfl
                  rotate_left
                  ·
                   simp only [Act.put, List.setIfInBounds_toArray, List.set_cons_zero, List.set_cons_succ, i64_w, i32_w]
                   rfl
                  refine take_ (i := 4) (N := some 98) (v := ?_) (a' := ?_) #[true, true, true, true, true, true, true, true, false, true, true, true, false, true, true, true, false, false, false, false, false, false, false] rfl rfl (take_ofW HT_.out HW_.out (by kernel_rfl)) (fun _ _ _ h => h) (Or.inl ⟨by rfl, ?_⟩) hHeld ?_ ?_
                  rotate_left
                  ·
                   rintro w' ⟨s0, s1, s2, s3⟩
                   go_simp
                   with_reducible rfl
                  rotate_left
                  ·
                   simp only [Act.put, List.setIfInBounds_toArray, List.set_cons_zero, List.set_cons_succ, i64_w, i32_w]
                   rfl
                  refine take_ (i := 8) (N := some 102) (v := ?_) (a' := ?_) #[true, true, true, true, true, true, true, true, true, true, true, true, false, true, true, true, false, false, false, false, false, false, false] rfl rfl (take_ofW HT_.out HW_.out (by kernel_rfl)) (fun _ _ _ h => h) (Or.inl ⟨by rfl, ?_⟩) hHeld ?_ ?_
                  rotate_left
                  ·
                   rintro w' ⟨s0, s1, s2, s3⟩
                   go_simp
                   with_reducible rfl
                  rotate_left
                  ·
                   simp only [Act.put, List.setIfInBounds_toArray, List.set_cons_zero, List.set_cons_succ, i64_w, i32_w]
                   rfl
                  refine take_ (i := 12) (N := some 106) (v := ?_) (a' := ?_) #[true, true, true, true, true, true, true, true, true, true, true, true, true, true, true, true, false, false, false, false, false, false, false] rfl rfl (take_ofW HT_.out HW_.out (by kernel_rfl)) (fun _ _ _ h => h) (Or.inl ⟨by rfl, ?_⟩) hHeld ?_ ?_
                  rotate_left
                  ·
                   rintro w' ⟨s0, s1, s2, s3⟩
                   go_simp
                   with_reducible rfl
                  rotate_left
                  ·
                   simp only [Act.put, List.setIfInBounds_toArray, List.set_cons_zero, List.set_cons_succ, i64_w, i32_w]
                   rfl
                  refine take_ (i := 16) (N := some 110) (v := ?_) (a' := ?_) #[true, true, true, true, true, true, true, true, true, true, true, true, true, true, true, true, true, false, false, false, false, false, false] rfl rfl (take_ofW HT_.out HW_.out (by kernel_rfl)) (fun _ _ _ h => h) (Or.inl ⟨by rfl, ?_⟩) hHeld ?_ ?_
                  rotate_left
                  ·
                   rintro w' ⟨s0, s1, s2, s3⟩
                   go_simp
                   with_reducible rfl
                  rotate_left
                  ·
                   simp only [Act.put, List.setIfInBounds_toArray, List.set_cons_zero, List.set_cons_succ, i64_w, i32_w]
                   rfl
                  refine one_ (i := 17) (N := some 111) #[true, true, true, true, true, true, true, true, true, true, true, true, true, true, true, true, true, true, false, false, false, false, false] rfl rfl (one_of HT_.out (by kernel_rfl)) (by decide) (fun K hK => ?_)
                  refine goes_ Tryd.func28 (by kernel_rfl) rfl #[.slice Ao19 t559.length co19, .slice A580_0 (rd_L7 y577 x16_2).length c580_0, .int .i64 (rd t562 x16_2), .slice A582_0 (rd_L7 y577 x17_41).length c582_0, .int .i64 (rd t562 x17_41)] (by rfl) rfl rfl (by (try simp only [List.map_toArray, List.map_cons, List.map_nil]); first | done | rfl | (simp only [List.length_drop, List.length_take]; rfl)) ?_
                  with_reducible refine (logic_Follows.calls kj41 _ _ t559 _ _ (rd_L7 y577 x16_2) (rd t562 x16_2) _ _ (rd_L7 y577 x17_41) (rd t562 x17_41) t584 t585 _ ?side1 ?side2 ?side3 ?side4 ?side5 ?side6 ?side7 A53.out).mono ?_
                  (case side1 => repeat (first | exact (Kd.V_reads' HO_6.out).2.2 | (with_reducible refine Kd.C_alloc ?_ _) | (with_reducible refine Kd.C_drewN ?_ _) | (with_reducible refine Kd.C_drew ?_)))
                  (case side2 => exact (Kd.V_reads' HO_6.out).2.1)
                  (case side3 => repeat (first | exact (by repeat (first | (with_reducible exact HR580_0.out) | (with_reducible refine Kd.C_alloc ?_ _) | (with_reducible refine Kd.C_drewN ?_ _) | (with_reducible refine Kd.C_drew ?_) | exact HR580_0.out)) | (with_reducible refine Kd.C_alloc ?_ _) | (with_reducible refine Kd.C_drewN ?_ _) | (with_reducible refine Kd.C_drew ?_)))
                  (case side4 => exact HC580_0.out)
                  (case side5 => repeat (first | exact (by repeat (first | (with_reducible exact HR582_0.out) | (with_reducible refine Kd.C_alloc ?_ _) | (with_reducible refine Kd.C_drewN ?_ _) | (with_reducible refine Kd.C_drew ?_) | exact HR582_0.out)) | (with_reducible refine Kd.C_alloc ?_ _) | (with_reducible refine Kd.C_drewN ?_ _) | (with_reducible refine Kd.C_drew ?_)))
                  (case side6 => exact HC582_0.out)
                  (case side7 => first | exact hG_ | exact Glob.drewN hG_ _ | exact Glob.below hG_ (by repeat (first | (with_reducible first | exact HB.out | apply below_alloc | apply pw_below_drewN | apply below_drew1 | refine below_set ?_ GE551.out | refine below_set ?_ GE558.out) | exact HB.out)))
                  rintro e w56 ⟨rfl, hb⟩
                  have HS0_ := (hb.cell (World.block_lt_of_cell? _ _ (hHeld.1))).trans (hHeld.1)
                  have HS1_ := (hb.cell (World.block_lt_of_cell? _ _ (hHeld.2.1))).trans (hHeld.2.1)
                  have HS2_ := (hb.cell (World.block_lt_of_cell? _ _ (hHeld.2.2.1))).trans (hHeld.2.2.1)
                  have HS3_ := (hb.cell (World.block_lt_of_cell? _ _ (hHeld.2.2.2))).trans (hHeld.2.2.2)
                  refine ⟨_, rfl, ?_⟩
                  have n0_ := Aside0.mk (Kd.V_below (by (with_reducible repeat (first | apply Kd.V_alloc | apply Kd.V_drewN | apply Kd.V_drew)); exact HO_6.out) hb)
                  have n1_ := Aside0.mk (Kd.V_below (by (with_reducible repeat (first | apply Kd.V_alloc | apply Kd.V_drewN | apply Kd.V_drew)); exact HO_7.out) hb)
                  have n2_ := Aside0.mk (Kd.V_below (by (with_reducible repeat (first | apply Kd.V_alloc | apply Kd.V_drewN | apply Kd.V_drew)); exact HO_9.out) hb)
                  have n3_ := Aside0.mk (Kd.V_below (by (with_reducible repeat (first | apply Kd.V_alloc | apply Kd.V_drewN | apply Kd.V_drew)); exact HO_11.out) hb)
                  have n4_ := Aside0.mk (Kd.N_below (by (with_reducible repeat (first | apply Kd.N_alloc | apply Kd.N_drewN | apply Kd.N_drew)); exact HO_15.out) hb)
                  have n5_ := Aside0.mk (Kd.N_below (by (with_reducible repeat (first | apply Kd.N_alloc | apply Kd.N_drewN | apply Kd.N_drew)); exact HO_559000.out) hb)
                  have n6_ := Aside0.mk (Kd.N_below (by (with_reducible repeat (first | apply Kd.N_alloc | apply Kd.N_drewN | apply Kd.N_drew)); exact HO_559001.out) hb)
                  have n7_ := Aside0.mk (Kd.V_below (by (with_reducible repeat (first | apply Kd.V_alloc | apply Kd.V_drewN | apply Kd.V_drew)); exact HL580_0.out) hb)
                  have n8_ := Aside0.mk (Kd.V_below (by (with_reducible repeat (first | apply Kd.V_alloc | apply Kd.V_drewN | apply Kd.V_drew)); exact HL582_0.out) hb)
                  have n9_ := Aside0.mk (blk_below (g := gb551) (o := .cells #[.slice A1_0 l1_0.length c1_0, .slice A1_1 l1_1.length c1_1] 40 (0, 0)) (by (with_reducible repeat (first | refine blk_drewN ?_ _ | refine blk_drew ?_ | refine blk_alloc ?_ _)); exact BK551.out) hb)
                  have n10_ := Aside0.mk (blk_below (g := gb558) (o := .cells #[.slice Ao13 t552.length co13, .slice Ao16 t555.length co16] 43 (0, 0)) (by (with_reducible repeat (first | refine blk_drewN ?_ _ | refine blk_drew ?_ | refine blk_alloc ?_ _)); exact BK558.out) hb)
                  have n11_ := Aside0.mk (Kd.C_below (by repeat (first | (with_reducible exact HR580_0.out) | (with_reducible refine Kd.C_alloc ?_ _) | (with_reducible refine Kd.C_drewN ?_ _) | (with_reducible refine Kd.C_drew ?_) | exact HR580_0.out)) hb)
                  have n12_ := Aside0.mk (Kd.C_below (by repeat (first | (with_reducible exact HR582_0.out) | (with_reducible refine Kd.C_alloc ?_ _) | (with_reducible refine Kd.C_drewN ?_ _) | (with_reducible refine Kd.C_drew ?_) | exact HR582_0.out)) hb)
                  have n13_ := Aside0.mk (below_step (by repeat (first | (with_reducible first | exact HB.out | apply below_alloc | apply pw_below_drewN | apply below_drew1 | refine below_set ?_ GE551.out | refine below_set ?_ GE558.out) | exact HB.out)) hb)
                  clear HO_6
                  clear HO_7
                  clear HO_9
                  clear HO_11
                  clear HO_15
                  clear HO_559000
                  clear HO_559001
                  clear HL580_0
                  clear HL582_0
                  clear BK551
                  clear BK558
                  clear HR580_0
                  clear HR582_0
                  clear HB
                  have HO_6 := n0_
                  have HO_7 := n1_
                  have HO_9 := n2_
                  have HO_11 := n3_
                  have HO_15 := n4_
                  have HO_559000 := n5_
                  have HO_559001 := n6_
                  have HL580_0 := n7_
                  have HL582_0 := n8_
                  have BK551 := n9_
                  have BK558 := n10_
                  have HR580_0 := n11_
                  have HR582_0 := n12_
                  have HB := n13_
                  clear n0_ n1_ n2_ n3_ n4_ n5_ n6_ n7_ n8_ n9_ n10_ n11_ n12_ n13_
                  (try clear hb)
                  (try clear hb2)
                  (try clear hk)
                  (try clear hi)
                  refine hK.out _ _ ⟨HS0_, HS1_, HS2_, HS3_⟩ (fun hHeld => ?_)
                  clear hK K
                  refine norm_ (a' := ?_) ?_ ?_
                  rotate_left
                  ·
                   show Act.put _ (some 111) _ = _
                   simp only [Act.put, List.setIfInBounds_toArray, List.set_cons_zero, List.set_cons_succ, i64_w, i32_w]
                   rfl
                  refine pure_ (i := 18) (N := some 93) (v := ?_) (a' := ?_) #[true, true, true, true, true, true, true, true, true, true, true, true, true, true, true, true, true, true, true, false, false, false, false] rfl rfl (any_of HT_.out (by kernel_rfl)) (fun _ _ _ h => h) (Or.inl ⟨by rfl, ?_⟩) ?_ ?_
                  rotate_left
                  ·
                   intro w'
                   go_simp
                   with_reducible rfl
                  rotate_left
                  ·
                   simp only [Act.put, List.setIfInBounds_toArray, List.set_cons_zero, List.set_cons_succ, i64_w, i32_w]
                   rfl
                  refine pure_ (i := 19) (N := some 112) (v := ?_) (a' := ?_) #[true, true, true, true, true, true, true, true, true, true, true, true, true, true, true, true, true, true, true, true, false, false, false] rfl rfl (any_of HT_.out (by kernel_rfl)) (fun _ _ _ h => h) (Or.inl ⟨by rfl, ?_⟩) ?_ ?_
                  rotate_left
                  ·
                   intro w'
                   go_simp
                   with_reducible rfl
                  rotate_left
                  ·
                   simp only [Act.put, List.setIfInBounds_toArray, List.set_cons_zero, List.set_cons_succ, i64_w, i32_w]
                   rfl
                  refine pure_ (i := 20) (N := some 113) (v := ?_) (a' := ?_) #[true, true, true, true, true, true, true, true, true, true, true, true, true, true, true, true, true, true, true, true, true, false, false] rfl rfl (any_of HT_.out (by kernel_rfl)) (fun _ _ _ h => h) (Or.inl ⟨by rfl, ?_⟩) ?_ ?_
                  rotate_left
                  ·
                   intro w'
                   go_simp
                   with_reducible rfl
                  rotate_left
                  ·
                   simp only [Act.put, List.setIfInBounds_toArray, List.set_cons_zero, List.set_cons_succ, i64_w, i32_w]
                   rfl
                  refine pure_ (i := 21) (N := some 18) (v := ?_) (a' := ?_) #[true, true, true, true, true, true, true, true, true, true, true, true, true, true, true, true, true, true, true, true, true, true, false] rfl rfl (any_of HT_.out (by kernel_rfl)) (fun _ _ _ h => h) (Or.inl ⟨by rfl, ?_⟩) ?_ ?_
                  rotate_left
                  ·
                   intro w'
                   go_simp
                   with_reducible rfl
                  rotate_left
                  ·
                   simp only [Act.put, List.setIfInBounds_toArray, List.set_cons_zero, List.set_cons_succ, i64_w, i32_w]
                   rfl
                  refine pure_ (i := 22) (N := some 19) (v := ?_) (a' := ?_) #[true, true, true, true, true, true, true, true, true, true, true, true, true, true, true, true, true, true, true, true, true, true, true] rfl rfl (any_of HT_.out (by kernel_rfl)) (fun _ _ _ h => h) (Or.inl ⟨by rfl, ?_⟩) ?_ ?_
                  rotate_left
                  ·
                   intro w'
                   go_simp
                   with_reducible rfl
                  rotate_left
                  ·
                   simp only [Act.put, List.setIfInBounds_toArray, List.set_cons_zero, List.set_cons_succ, i64_w, i32_w]
                   rfl
                  refine done_ (done_of HT_.out (by kernel_rfl)) ?_
                  try go_wp2
                  go_meet
                  case rel => exact ⟨_, (t584), (t585), (by first | rfl | (simp; done) | (simp [*]; done)), (by first | rfl | (simp; done) | (simp [*]; done)), H', ⟨by have := HJ7.out; have := HK2.out; have := HJ41.out; first | omega | exact Nat.le_refl _⟩, ⟨by (with_reducible repeat (first | apply Kd.V_alloc | apply Kd.V_drewN | apply Kd.V_drew)); exact HO_6.out⟩, ⟨by (with_reducible repeat (first | apply Kd.V_alloc | apply Kd.V_drewN | apply Kd.V_drew)); exact HO_7.out⟩, ⟨by (with_reducible repeat (first | apply Kd.V_alloc | apply Kd.V_drewN | apply Kd.V_drew)); exact HO_9.out⟩, ⟨by (with_reducible repeat (first | apply Kd.V_alloc | apply Kd.V_drewN | apply Kd.V_drew)); exact HO_11.out⟩, ⟨by (with_reducible repeat (first | apply Kd.N_alloc | apply Kd.N_drewN | apply Kd.N_drew)); exact HO_15.out⟩, ⟨by (with_reducible repeat (first | apply Kd.N_alloc | apply Kd.N_drewN | apply Kd.N_drew)); exact HO_559000.out⟩, ⟨by (with_reducible repeat (first | apply Kd.N_alloc | apply Kd.N_drewN | apply Kd.N_drew)); exact HO_559001.out⟩, ⟨by (with_reducible repeat (first | refine blk_drewN ?_ _ | refine blk_drew ?_ | refine blk_alloc ?_ _)); exact BK551.out⟩, ⟨by (with_reducible repeat (first | refine blk_drewN ?_ _ | refine blk_drew ?_ | refine blk_alloc ?_ _)); exact BK558.out⟩, ⟨by repeat (first | (with_reducible first | exact HB.out | apply below_alloc | apply pw_below_drewN | apply below_drew1 | refine below_set ?_ GE551.out | refine below_set ?_ GE558.out) | exact HB.out)⟩⟩
                 ·
                  rw [if_neg c52] at H
                  exact absurd H (by simp)
                ·
                 rw [if_neg c51] at H
                 exact absurd H (by simp)
               ·
                rw [if_neg c50] at H
                exact absurd H (by simp)
              ·
               rw [if_neg c49] at H
               exact absurd H (by simp)
             ·
              rw [if_neg c48] at H
              exact absurd H (by simp)
            ·
             rw [if_neg c47] at H
             exact absurd H (by simp)
           case rest =>
            clear HC46
            try clear c1
            try clear c2
            try clear p2
            try clear c3
            try clear c4
            try clear c5
            try clear p5
            try clear q5
            try clear hx5
            try clear p6
            try clear c14
            try clear c15
            try clear c16
            try clear c17
            try clear c23
            try clear c24
            try clear c25
            try clear c25b0
            try clear c25b1
            try clear c26
            try clear c26b0
            try clear c26b1
            try clear c27
            try clear c27b0
            try clear c27b1
            try clear c28
            try clear c28b0
            try clear c28b1
            try clear c32
            try clear c33
            try clear c34
            try clear c41
            try clear c41b0
            try clear c43
            try clear c43b0
            try clear c43b1
            try clear c44
            try clear c47
            try clear c47b0
            try clear c48
            try clear c48b0
            try clear c49
            try clear c49b0
            try clear c50
            try clear c50b0
            try clear c51
            try clear c51b0
            try clear c52
            try clear c52b0
            try clear hcz10_0
            try clear hcz10_1
            try clear hcz15_0
            try clear hcz15_1
            try clear hcz18_0
            try clear hcz18_1
            try clear hcz21_0
            try clear hcz21_1
            try clear hcz24_0
            try clear hcz24_1
            try clear hcz45_0
            try clear hcz45_1
            try clear hfz10_0
            try clear hfz10_1
            try clear hfz15_0
            try clear hfz15_1
            try clear hfz18_0
            try clear hfz18_1
            try clear hfz21_0
            try clear hfz21_1
            try clear hfz24_0
            try clear hfz24_1
            try clear hfz45_0
            try clear hfz45_1
            try clear hx580_0
            try clear hx581_0
            try clear hx582_0
            try clear hx583_0
            try clear p2
            try clear p580
            try clear p581
            try clear p582
            try clear p583
            try clear p6
            try clear q580
            try clear q581
            try clear q582
            try clear q583
            obtain ⟨kq, x18_45, x19_45, rfl, rfl, HA, HJ45, HO_6, HO_7, HO_9, HO_11, HO_15, HO_559000, HO_559001, BK551, BK558, HB⟩ := hcut
            cases kq with
            | zero => exact absurd HA.out (by simp [foretellkeep_ClaimLine.j3])
            | succ kj45 =>
             have H := HA.out
             clear HA
             simp only [foretellkeep_ClaimLine.j3] at H
             by_cases c57 : 0 ≤ x16_2
             ·
              rw [if_pos c57] at H
              have c57b0 : decide (0 ≤ x16_2) = true := decide_eq_true c57
              clear c57
              by_cases c58 : x16_2 < (y577.length : Int)
              ·
               rw [if_pos c58] at H
               have c58b0 : decide (x16_2 < (y577.length : Int)) = true := decide_eq_true c58
               clear c58
               by_cases c59 : x16_2 < (t562.length : Int)
               ·
                rw [if_pos c59] at H
                have c59b0 : decide (x16_2 < (t562.length : Int)) = true := decide_eq_true c59
                clear c59
                replace H := Option.bind_eq_some_iff.mp H
                obtain ⟨⟨t588, t589⟩, A600, H⟩ := H
                replace H : ((logic_Meets.f kj45 t559 (rd_L7 y577 x16_2) (rd t562 x16_2)).bind fun bt594 => (if x19_45 = 0 then (if t589 = 0 then (if bt594.2 = 0 then (if x18_45 = true then (if (t588.length : Int) = (t559.length : Int) then (if 0 < (t588.length : Int) then (if x16_2 < (t566.length : Int) then (foretellkeep_ClaimLine.j4 kj45 t559 t562 t566 t570 (wrap64 ((t552.length : Int) + (t555.length : Int))) x14_2 y577 x16_2 bt594.1 ((rdOf false t588 0) != (rdOf false t566 x16_2)) t552 t555) else (none)) else (none)) else (none)) else (none)) else (none)) else (none)) else (none))) = some r := H
                have A60 := Aside0.mk A600
                clear A600
                replace H := Option.bind_eq_some_iff.mp H
                obtain ⟨⟨t594, t595⟩, A610, H⟩ := H
                replace H : (if x19_45 = 0 then (if t589 = 0 then (if t595 = 0 then (if x18_45 = true then (if (t588.length : Int) = (t559.length : Int) then (if 0 < (t588.length : Int) then (if x16_2 < (t566.length : Int) then (foretellkeep_ClaimLine.j4 kj45 t559 t562 t566 t570 (wrap64 ((t552.length : Int) + (t555.length : Int))) x14_2 y577 x16_2 t594 ((rdOf false t588 0) != (rdOf false t566 x16_2)) t552 t555) else (none)) else (none)) else (none)) else (none)) else (none)) else (none)) else (none)) = some r := H
                have A61 := Aside0.mk A610
                clear A610
                have HC62 := Aside0.mk H
                clear H
                try go_wp2
                have n0_ := Aside0.mk (Kd.V_drew HO_6.out)
                have n1_ := Aside0.mk (Kd.V_drew HO_7.out)
                have n2_ := Aside0.mk (Kd.V_drew HO_9.out)
                have n3_ := Aside0.mk (Kd.V_drew HO_11.out)
                have n4_ := Aside0.mk (Kd.N_drew HO_15.out)
                have n5_ := Aside0.mk (Kd.N_drew HO_559000.out)
                have n6_ := Aside0.mk (Kd.N_drew HO_559001.out)
                have n7_ := Aside0.mk (blk_drew BK551.out)
                have n8_ := Aside0.mk (blk_drew BK558.out)
                have n9_ := Aside0.mk (below_drew1 HB.out)
                clear HO_6
                clear HO_7
                clear HO_9
                clear HO_11
                clear HO_15
                clear HO_559000
                clear HO_559001
                clear BK551
                clear BK558
                clear HB
                have HO_6 := n0_
                have HO_7 := n1_
                have HO_9 := n2_
                have HO_11 := n3_
                have HO_15 := n4_
                have HO_559000 := n5_
                have HO_559001 := n6_
                have BK551 := n7_
                have BK558 := n8_
                have HB := n9_
                clear n0_ n1_ n2_ n3_ n4_ n5_ n6_ n7_ n8_ n9_
                obtain ⟨Ao64, co64, eo64⟩ := Kd.N_slice HO_15.out
                (first | subst eo64 | (injection eo64 with f1_ f2_ f3_; have f4_ := f1_.symm; have f5_ := f3_.symm; clear f1_ f2_ f3_; subst f4_; subst f5_))
                have p586 : 0 ≤ (x16_2 : Int) := of_decide_eq_true (by first | (with_reducible assumption) | assumption)
                have q586 : x16_2 < (y577.length : Int) := of_decide_eq_true (by first | (with_reducible assumption) | assumption)
                obtain ⟨ad586, A586_0, c586_0, e586, hx586_0, hl586_0, hi586_0⟩ := at_L7 (Kd.N_reads' HO_15.out).2.2 x16_2 p586 q586
                cases e586
                obtain ⟨ce586, hce586, hMe586, hcc586⟩ := Kd.N_get HO_15.out [] x16_2 p586 (by first | exact q586 | exact of_decide_eq_true (by first | (with_reducible assumption) | assumption) | (have e_ := (Kd.N_reads' HO_15.out).1; omega))
                obtain ⟨ua586_0, uc586_0, rfl, ul586_0, ge586_0⟩ := Kd.FK_slice_open hMe586
                have hv586_0 := hcc586 0 _ rfl
                rw [Nat.add_zero, show ((Kd.slice 4 Kd.bool)).sz = 1 from rfl, Nat.mul_one] at hv586_0
                replace hv586_0 := Option.some.inj (hv586_0.symm.trans hx586_0)
                injection hv586_0 with hva_ hvn_ hvc_
                rw [hva_] at ge586_0
                rw [hvc_] at ul586_0
                have HL586_0 := Aside0.mk (show Kd.V Kd.bool 4 _ w.heap.size _ _ (rd_L7 y577 x16_2) from Kd.V_mk ul586_0 ge586_0)
                clear hva_ hvn_ hvc_ ge586_0 ul586_0
                clear hcc586 hce586
                have HR586_0 := Aside0.mk hi586_0
                have HC586_0 := Aside0.mk hl586_0
                clear hi586_0 hl586_0
                replace p586 := eq_true p586
                replace q586 := eq_true q586
                have p587 : 0 ≤ (x16_2 : Int) := of_decide_eq_true (by first | (with_reducible assumption) | assumption)
                have q587 : x16_2 < (t562.length : Int) := of_decide_eq_true (by first | (with_reducible assumption) | assumption)
                obtain ⟨ad587, e587, hx587_0⟩ := Kd.at_int (Kd.V_reads' HO_7.out).2.2 x16_2 p587 q587
                cases e587
                replace p587 := eq_true p587
                replace q587 := eq_true q587
                refine start_ (n := 15) (S := fun w' => w'.cell? (ad586.add (x16_2).toNat) = some (.slice A586_0 (rd_L7 y577 x16_2).length c586_0) ∧ w'.cell? (ad587.add (x16_2).toNat) = some (.int .i64 (rd t562 x16_2))) (ds := []) #[false, false, false, false, false, false, false, false, false, false, false, false, false, false, false] (by kernel_rfl) rfl rfl ⟨hx586_0, hx587_0⟩ (fun hHeld => ?_); refine with_tabW foretellkeep_ClaimLine.tab18 foretellkeep_ClaimLine.bits18 (fun HT_ HW_ => ?_)
                generalize wc.drew = w63 at HO_6 HO_7 HO_9 HO_11 HO_15 HO_559000 HO_559001 BK551 BK558 HB HL586_0 HR586_0 hx586_0 hx587_0 hHeld ⊢
                refine pure_ (i := 0) (N := some 115) (v := ?_) (a' := ?_) #[true, false, false, false, false, false, false, false, false, false, false, false, false, false, false] rfl rfl (any_of HT_.out (by kernel_rfl)) (fun _ _ _ h => h) (Or.inl ⟨by rfl, ?_⟩) ?_ ?_
                rotate_left
                ·
                 intro w'
                 go_simp
                 with_reducible rfl
                rotate_left
                ·
                 simp only [Act.put, List.setIfInBounds_toArray, List.set_cons_zero, List.set_cons_succ, i64_w, i32_w]
                 rfl
                refine pure_ (i := 1) (N := some 116) (v := ?_) (a' := ?_) #[true, true, false, false, false, false, false, false, false, false, false, false, false, false, false] rfl rfl (any_of HT_.out (by kernel_rfl)) (fun _ _ _ h => h) (Or.inl ⟨by rfl, ?_⟩) ?_ ?_
                rotate_left
                ·
                 intro w'
                 go_simp
                 with_reducible rfl
                rotate_left
                ·
                 simp only [Act.put, List.setIfInBounds_toArray, List.set_cons_zero, List.set_cons_succ, i64_w, i32_w]
                 rfl
                refine pure_ (i := 2) (N := some 117) (v := ?_) (a' := ?_) #[true, true, true, false, false, false, false, false, false, false, false, false, false, false, false] rfl rfl (any_of HT_.out (by kernel_rfl)) (fun _ _ _ h => h) (Or.inl ⟨by rfl, ?_⟩) ?_ ?_
                rotate_left
                ·
                 intro w'
                 go_simp
                 with_reducible rfl
                rotate_left
                ·
                 simp only [Act.put, List.setIfInBounds_toArray, List.set_cons_zero, List.set_cons_succ, i64_w, i32_w]
                 rfl
                refine pure_ (i := 3) (N := some 118) (v := ?_) (a' := ?_) #[true, true, true, true, false, false, false, false, false, false, false, false, false, false, false] rfl rfl (any_of HT_.out (by kernel_rfl)) (fun _ _ _ h => h) (Or.inl ⟨by rfl, ?_⟩) ?_ ?_
                rotate_left
                ·
                 intro w'
                 go_simp
                 with_reducible rfl
                rotate_left
                ·
                 simp only [Act.put, List.setIfInBounds_toArray, List.set_cons_zero, List.set_cons_succ, i64_w, i32_w]
                 rfl
                refine pure_ (i := 5) (N := some 120) (v := ?_) (a' := ?_) #[true, true, true, true, false, true, false, false, false, false, false, false, false, false, false] rfl rfl (any_of HT_.out (by kernel_rfl)) (fun _ _ _ h => h) (Or.inl ⟨by rfl, ?_⟩) ?_ ?_
                rotate_left
                ·
                 intro w'
                 go_simp
                 with_reducible rfl
                rotate_left
                ·
                 simp only [Act.put, List.setIfInBounds_toArray, List.set_cons_zero, List.set_cons_succ, i64_w, i32_w]
                 rfl
                refine pure_ (i := 6) (N := some 121) (v := ?_) (a' := ?_) #[true, true, true, true, false, true, true, false, false, false, false, false, false, false, false] rfl rfl (any_of HT_.out (by kernel_rfl)) (fun _ _ _ h => h) (Or.inl ⟨by rfl, ?_⟩) ?_ ?_
                rotate_left
                ·
                 intro w'
                 go_simp
                 with_reducible rfl
                rotate_left
                ·
                 simp only [Act.put, List.setIfInBounds_toArray, List.set_cons_zero, List.set_cons_succ, i64_w, i32_w]
                 rfl
                refine pure_ (i := 7) (N := some 122) (v := ?_) (a' := ?_) #[true, true, true, true, false, true, true, true, false, false, false, false, false, false, false] rfl rfl (any_of HT_.out (by kernel_rfl)) (fun _ _ _ h => h) (Or.inl ⟨by rfl, ?_⟩) ?_ ?_
                rotate_left
                ·
                 intro w'
                 go_simp
                 with_reducible rfl
                rotate_left
                ·
                 simp only [Act.put, List.setIfInBounds_toArray, List.set_cons_zero, List.set_cons_succ, i64_w, i32_w]
                 rfl
                refine take_ (i := 4) (N := some 119) (v := ?_) (a' := ?_) #[true, true, true, true, true, true, true, true, false, false, false, false, false, false, false] rfl rfl (take_ofW HT_.out HW_.out (by kernel_rfl)) (fun _ _ _ h => h) (Or.inl ⟨by rfl, ?_⟩) hHeld ?_ ?_
                rotate_left
                ·
                 rintro w' ⟨s0, s1⟩
                 go_simp
                 with_reducible rfl
                rotate_left
                ·
                 simp only [Act.put, List.setIfInBounds_toArray, List.set_cons_zero, List.set_cons_succ, i64_w, i32_w]
                 rfl
                refine take_ (i := 8) (N := some 123) (v := ?_) (a' := ?_) #[true, true, true, true, true, true, true, true, true, false, false, false, false, false, false] rfl rfl (take_ofW HT_.out HW_.out (by kernel_rfl)) (fun _ _ _ h => h) (Or.inl ⟨by rfl, ?_⟩) hHeld ?_ ?_
                rotate_left
                ·
                 rintro w' ⟨s0, s1⟩
                 go_simp
                 with_reducible rfl
                rotate_left
                ·
                 simp only [Act.put, List.setIfInBounds_toArray, List.set_cons_zero, List.set_cons_succ, i64_w, i32_w]
                 rfl
                refine one_ (i := 9) (N := some 124) #[true, true, true, true, true, true, true, true, true, true, false, false, false, false, false] rfl rfl (one_of HT_.out (by kernel_rfl)) (by decide) (fun K hK => ?_)
                refine goes_ Tryd.func19 (by kernel_rfl) rfl #[.slice Ao19 t559.length co19, .slice A586_0 (rd_L7 y577 x16_2).length c586_0, .int .i64 (rd t562 x16_2)] (by rfl) rfl rfl (by (try simp only [List.map_toArray, List.map_cons, List.map_nil]); first | done | rfl | (simp only [List.length_drop, List.length_take]; rfl)) ?_
                with_reducible refine (logic_Truths.calls kj45 _ _ t559 _ _ (rd_L7 y577 x16_2) (rd t562 x16_2) t588 t589 _ ?side1 ?side2 ?side3 ?side4 ?side5 A60.out).mono ?_
                (case side1 => repeat (first | exact (Kd.V_reads' HO_6.out).2.2 | (with_reducible refine Kd.C_alloc ?_ _) | (with_reducible refine Kd.C_drewN ?_ _) | (with_reducible refine Kd.C_drew ?_)))
                (case side2 => exact (Kd.V_reads' HO_6.out).2.1)
                (case side3 => repeat (first | exact (by repeat (first | (with_reducible exact HR586_0.out) | (with_reducible refine Kd.C_alloc ?_ _) | (with_reducible refine Kd.C_drewN ?_ _) | (with_reducible refine Kd.C_drew ?_) | exact HR586_0.out)) | (with_reducible refine Kd.C_alloc ?_ _) | (with_reducible refine Kd.C_drewN ?_ _) | (with_reducible refine Kd.C_drew ?_)))
                (case side4 => exact HC586_0.out)
                (case side5 => first | exact hG_ | exact Glob.drewN hG_ _ | exact Glob.below hG_ (by repeat (first | (with_reducible first | exact HB.out | apply below_alloc | apply pw_below_drewN | apply below_drew1 | refine below_set ?_ GE551.out | refine below_set ?_ GE558.out) | exact HB.out)))
                rintro e w65 ⟨v590, rfl, ho0, hb⟩
                have HS0_ := (hb.cell (World.block_lt_of_cell? _ _ (hHeld.1))).trans (hHeld.1)
                have HS1_ := (hb.cell (World.block_lt_of_cell? _ _ (hHeld.2))).trans (hHeld.2)
                refine ⟨_, rfl, ?_⟩
                have n0_ := Aside0.mk (Kd.V_below (by (with_reducible repeat (first | apply Kd.V_alloc | apply Kd.V_drewN | apply Kd.V_drew)); exact HO_6.out) hb)
                have n1_ := Aside0.mk (Kd.V_below (by (with_reducible repeat (first | apply Kd.V_alloc | apply Kd.V_drewN | apply Kd.V_drew)); exact HO_7.out) hb)
                have n2_ := Aside0.mk (Kd.V_below (by (with_reducible repeat (first | apply Kd.V_alloc | apply Kd.V_drewN | apply Kd.V_drew)); exact HO_9.out) hb)
                have n3_ := Aside0.mk (Kd.V_below (by (with_reducible repeat (first | apply Kd.V_alloc | apply Kd.V_drewN | apply Kd.V_drew)); exact HO_11.out) hb)
                have n4_ := Aside0.mk (Kd.N_below (by (with_reducible repeat (first | apply Kd.N_alloc | apply Kd.N_drewN | apply Kd.N_drew)); exact HO_15.out) hb)
                have n5_ := Aside0.mk (Kd.N_below (by (with_reducible repeat (first | apply Kd.N_alloc | apply Kd.N_drewN | apply Kd.N_drew)); exact HO_559000.out) hb)
                have n6_ := Aside0.mk (Kd.N_below (by (with_reducible repeat (first | apply Kd.N_alloc | apply Kd.N_drewN | apply Kd.N_drew)); exact HO_559001.out) hb)
                have n7_ := Aside0.mk (Kd.V_below (by (with_reducible repeat (first | apply Kd.V_alloc | apply Kd.V_drewN | apply Kd.V_drew)); exact HL586_0.out) hb)
                have n8_ := Aside0.mk (Kd.V_lower (Kd.V_mono (ok' := fun k_ => k_ ≠ gb551 ∧ k_ ≠ gb558) (Kd.R_V (Kd.R_bound ho0)) (fun k_ hk_ => ⟨(Kd.freshB (g := gb551) (o := .cells #[.slice A1_0 l1_0.length c1_0, .slice A1_1 l1_1.length c1_1] 40 (0, 0)) (by (with_reducible repeat (first | refine blk_drewN ?_ _ | refine blk_drew ?_ | refine blk_alloc ?_ _)); exact BK551.out) k_ hk_.2.1), (Kd.freshB (g := gb558) (o := .cells #[.slice Ao13 t552.length co13, .slice Ao16 t555.length co16] 43 (0, 0)) (by (with_reducible repeat (first | refine blk_drewN ?_ _ | refine blk_drew ?_ | refine blk_alloc ?_ _)); exact BK558.out) k_ hk_.2.1)⟩)) (below_size (by repeat (first | (with_reducible first | exact HB.out | apply below_alloc | apply pw_below_drewN | apply below_drew1 | refine below_set ?_ GE551.out | refine below_set ?_ GE558.out) | exact HB.out))))
                have n9_ := Aside0.mk (blk_below (g := gb551) (o := .cells #[.slice A1_0 l1_0.length c1_0, .slice A1_1 l1_1.length c1_1] 40 (0, 0)) (by (with_reducible repeat (first | refine blk_drewN ?_ _ | refine blk_drew ?_ | refine blk_alloc ?_ _)); exact BK551.out) hb)
                have n10_ := Aside0.mk (blk_below (g := gb558) (o := .cells #[.slice Ao13 t552.length co13, .slice Ao16 t555.length co16] 43 (0, 0)) (by (with_reducible repeat (first | refine blk_drewN ?_ _ | refine blk_drew ?_ | refine blk_alloc ?_ _)); exact BK558.out) hb)
                have n11_ := Aside0.mk (Kd.C_below (by repeat (first | (with_reducible exact HR586_0.out) | (with_reducible refine Kd.C_alloc ?_ _) | (with_reducible refine Kd.C_drewN ?_ _) | (with_reducible refine Kd.C_drew ?_) | exact HR586_0.out)) hb)
                have n12_ := Aside0.mk (below_step (by repeat (first | (with_reducible first | exact HB.out | apply below_alloc | apply pw_below_drewN | apply below_drew1 | refine below_set ?_ GE551.out | refine below_set ?_ GE558.out) | exact HB.out)) hb)
                clear HO_6
                clear HO_7
                clear HO_9
                clear HO_11
                clear HO_15
                clear HO_559000
                clear HO_559001
                clear HL586_0
                clear BK551
                clear BK558
                clear HR586_0
                clear HB
                have HO_6 := n0_
                have HO_7 := n1_
                have HO_9 := n2_
                have HO_11 := n3_
                have HO_15 := n4_
                have HO_559000 := n5_
                have HO_559001 := n6_
                have HL586_0 := n7_
                have HO591 := n8_
                have BK551 := n9_
                have BK558 := n10_
                have HR586_0 := n11_
                have HB := n12_
                clear n0_ n1_ n2_ n3_ n4_ n5_ n6_ n7_ n8_ n9_ n10_ n11_ n12_
                (try clear hb)
                (try clear hb2)
                (try clear hk)
                (try clear hi)
                (try clear ho0)
                refine hK.out _ _ ⟨HS0_, HS1_⟩ (fun hHeld => ?_)
                clear hK K
                refine norm_ (a' := ?_) ?_ ?_
                rotate_left
                ·
                 show Act.put _ (some 124) _ = _
                 simp only [Act.put, List.setIfInBounds_toArray, List.set_cons_zero, List.set_cons_succ, i64_w, i32_w]
                 rfl
                refine pure_ (i := 10) (N := some 114) (v := ?_) (a' := ?_) #[true, true, true, true, true, true, true, true, true, true, true, false, false, false, false] rfl rfl (any_of HT_.out (by kernel_rfl)) (fun _ _ _ h => h) (Or.inl ⟨by rfl, ?_⟩) ?_ ?_
                rotate_left
                ·
                 intro w'
                 go_simp
                 with_reducible rfl
                rotate_left
                ·
                 simp only [Act.put, List.setIfInBounds_toArray, List.set_cons_zero, List.set_cons_succ, i64_w, i32_w]
                 rfl
                refine pure_ (i := 11) (N := some 125) (v := ?_) (a' := ?_) #[true, true, true, true, true, true, true, true, true, true, true, true, false, false, false] rfl rfl (any_of HT_.out (by kernel_rfl)) (fun _ _ _ h => h) (Or.inl ⟨by rfl, ?_⟩) ?_ ?_
                rotate_left
                ·
                 intro w'
                 go_simp
                 with_reducible rfl
                rotate_left
                ·
                 simp only [Act.put, List.setIfInBounds_toArray, List.set_cons_zero, List.set_cons_succ, i64_w, i32_w]
                 rfl
                refine pure_ (i := 12) (N := some 126) (v := ?_) (a' := ?_) #[true, true, true, true, true, true, true, true, true, true, true, true, true, false, false] rfl rfl (any_of HT_.out (by kernel_rfl)) (fun _ _ _ h => h) (Or.inl ⟨by rfl, ?_⟩) ?_ ?_
                rotate_left
                ·
                 intro w'
                 go_simp
                 with_reducible rfl
                rotate_left
                ·
                 simp only [Act.put, List.setIfInBounds_toArray, List.set_cons_zero, List.set_cons_succ, i64_w, i32_w]
                 rfl
                refine pure_ (i := 13) (N := some 20) (v := ?_) (a' := ?_) #[true, true, true, true, true, true, true, true, true, true, true, true, true, true, false] rfl rfl (any_of HT_.out (by kernel_rfl)) (fun _ _ _ h => h) (Or.inl ⟨by rfl, ?_⟩) ?_ ?_
                rotate_left
                ·
                 intro w'
                 go_simp
                 with_reducible rfl
                rotate_left
                ·
                 simp only [Act.put, List.setIfInBounds_toArray, List.set_cons_zero, List.set_cons_succ, i64_w, i32_w]
                 rfl
                refine pure_ (i := 14) (N := some 21) (v := ?_) (a' := ?_) #[true, true, true, true, true, true, true, true, true, true, true, true, true, true, true] rfl rfl (any_of HT_.out (by kernel_rfl)) (fun _ _ _ h => h) (Or.inl ⟨by rfl, ?_⟩) ?_ ?_
                rotate_left
                ·
                 intro w'
                 go_simp
                 with_reducible rfl
                rotate_left
                ·
                 simp only [Act.put, List.setIfInBounds_toArray, List.set_cons_zero, List.set_cons_succ, i64_w, i32_w]
                 rfl
                refine done_ (done_of HT_.out (by kernel_rfl)) ?_
                obtain ⟨Ao66, co66, eo66⟩ := Kd.V_slice HO591.out
                subst eo66
                try go_wp2
                have n0_ := Aside0.mk (Kd.V_drew HO_6.out)
                have n1_ := Aside0.mk (Kd.V_drew HO_7.out)
                have n2_ := Aside0.mk (Kd.V_drew HO_9.out)
                have n3_ := Aside0.mk (Kd.V_drew HO_11.out)
                have n4_ := Aside0.mk (Kd.N_drew HO_15.out)
                have n5_ := Aside0.mk (Kd.N_drew HO_559000.out)
                have n6_ := Aside0.mk (Kd.N_drew HO_559001.out)
                have n7_ := Aside0.mk (Kd.V_drew HL586_0.out)
                have n8_ := Aside0.mk (Kd.V_drew HO591.out)
                have n9_ := Aside0.mk (blk_drew BK551.out)
                have n10_ := Aside0.mk (blk_drew BK558.out)
                have n11_ := Aside0.mk (Kd.C_drew HR586_0.out)
                have n12_ := Aside0.mk (below_drew1 HB.out)
                clear HO_6
                clear HO_7
                clear HO_9
                clear HO_11
                clear HO_15
                clear HO_559000
                clear HO_559001
                clear HL586_0
                clear HO591
                clear BK551
                clear BK558
                clear HR586_0
                clear HB
                have HO_6 := n0_
                have HO_7 := n1_
                have HO_9 := n2_
                have HO_11 := n3_
                have HO_15 := n4_
                have HO_559000 := n5_
                have HO_559001 := n6_
                have HL586_0 := n7_
                have HO591 := n8_
                have BK551 := n9_
                have BK558 := n10_
                have HR586_0 := n11_
                have HB := n12_
                clear n0_ n1_ n2_ n3_ n4_ n5_ n6_ n7_ n8_ n9_ n10_ n11_ n12_
                have p592 : 0 ≤ (x16_2 : Int) := of_decide_eq_true (by first | (with_reducible assumption) | assumption)
                have q592 : x16_2 < (y577.length : Int) := of_decide_eq_true (by first | (with_reducible assumption) | assumption)
                obtain ⟨ad592, A592_0, c592_0, e592, hx592_0, hl592_0, hi592_0⟩ := at_L7 (Kd.N_reads' HO_15.out).2.2 x16_2 p592 q592
                obtain rfl : ad586 = ad592 := (by injection e592)
                obtain ⟨ce592, hce592, hMe592, hcc592⟩ := Kd.N_get HO_15.out [] x16_2 p592 (by first | exact q592 | exact of_decide_eq_true (by first | (with_reducible assumption) | assumption) | (have e_ := (Kd.N_reads' HO_15.out).1; omega))
                obtain ⟨ua592_0, uc592_0, rfl, ul592_0, ge592_0⟩ := Kd.FK_slice_open hMe592
                have hv592_0 := hcc592 0 _ rfl
                rw [Nat.add_zero, show ((Kd.slice 4 Kd.bool)).sz = 1 from rfl, Nat.mul_one] at hv592_0
                replace hv592_0 := Option.some.inj (hv592_0.symm.trans hx592_0)
                injection hv592_0 with hva_ hvn_ hvc_
                rw [hva_] at ge592_0
                rw [hvc_] at ul592_0
                have HL592_0 := Aside0.mk (show Kd.V Kd.bool 4 _ w.heap.size _ _ (rd_L7 y577 x16_2) from Kd.V_mk ul592_0 ge592_0)
                clear hva_ hvn_ hvc_ ge592_0 ul592_0
                clear hcc592 hce592
                have HR592_0 := Aside0.mk hi592_0
                have HC592_0 := Aside0.mk hl592_0
                clear hi592_0 hl592_0
                replace p592 := eq_true p592
                replace q592 := eq_true q592
                have p593 : 0 ≤ (x16_2 : Int) := of_decide_eq_true (by first | (with_reducible assumption) | assumption)
                have q593 : x16_2 < (t562.length : Int) := of_decide_eq_true (by first | (with_reducible assumption) | assumption)
                obtain ⟨ad593, e593, hx593_0⟩ := Kd.at_int (Kd.V_reads' HO_7.out).2.2 x16_2 p593 q593
                obtain rfl : ad587 = ad593 := (by injection e593)
                replace p593 := eq_true p593
                replace q593 := eq_true q593
                refine start_ (n := 15) (S := fun w' => w'.cell? (ad586.add (x16_2).toNat) = some (.slice A592_0 (rd_L7 y577 x16_2).length c592_0) ∧ w'.cell? (ad587.add (x16_2).toNat) = some (.int .i64 (rd t562 x16_2))) (ds := []) #[false, false, false, false, false, false, false, false, false, false, false, false, false, false, false] (by kernel_rfl) rfl rfl ⟨hx592_0, hx593_0⟩ (fun hHeld => ?_); refine with_tabW foretellkeep_ClaimLine.tab19 foretellkeep_ClaimLine.bits19 (fun HT_ HW_ => ?_)
                generalize w65.drew = w67 at HO_6 HO_7 HO_9 HO_11 HO_15 HO_559000 HO_559001 HL586_0 HO591 BK551 BK558 HR586_0 HB HL592_0 HR592_0 hx592_0 hx593_0 hHeld ⊢
                refine pure_ (i := 0) (N := some 128) (v := ?_) (a' := ?_) #[true, false, false, false, false, false, false, false, false, false, false, false, false, false, false] rfl rfl (any_of HT_.out (by kernel_rfl)) (fun _ _ _ h => h) (Or.inl ⟨by rfl, ?_⟩) ?_ ?_
                rotate_left
                ·
                 intro w'
                 go_simp
                 with_reducible rfl
                rotate_left
                ·
                 simp only [Act.put, List.setIfInBounds_toArray, List.set_cons_zero, List.set_cons_succ, i64_w, i32_w]
                 rfl
                refine pure_ (i := 1) (N := some 129) (v := ?_) (a' := ?_) #[true, true, false, false, false, false, false, false, false, false, false, false, false, false, false] rfl rfl (any_of HT_.out (by kernel_rfl)) (fun _ _ _ h => h) (Or.inl ⟨by rfl, ?_⟩) ?_ ?_
                rotate_left
                ·
                 intro w'
                 go_simp
                 with_reducible rfl
                rotate_left
                ·
                 simp only [Act.put, List.setIfInBounds_toArray, List.set_cons_zero, List.set_cons_succ, i64_w, i32_w]
                 rfl
                refine pure_ (i := 2) (N := some 130) (v := ?_) (a' := ?_) #[true, true, true, false, false, false, false, false, false, false, false, false, false, false, false] rfl rfl (any_of HT_.out (by kernel_rfl)) (fun _ _ _ h => h) (Or.inl ⟨by rfl, ?_⟩) ?_ ?_
                rotate_left
                ·
                 intro w'
                 go_simp
                 with_reducible rfl
                rotate_left
                ·
                 simp only [Act.put, List.setIfInBounds_toArray, List.set_cons_zero, List.set_cons_succ, i64_w, i32_w]
                 rfl
                refine pure_ (i := 3) (N := some 131) (v := ?_) (a' := ?_) #[true, true, true, true, false, false, false, false, false, false, false, false, false, false, false] rfl rfl (any_of HT_.out (by kernel_rfl)) (fun _ _ _ h => h) (Or.inl ⟨by rfl, ?_⟩) ?_ ?_
                rotate_left
                ·
                 intro w'
                 go_simp
                 with_reducible rfl
                rotate_left
                ·
                 simp only [Act.put, List.setIfInBounds_toArray, List.set_cons_zero, List.set_cons_succ, i64_w, i32_w]
                 rfl
                refine pure_ (i := 5) (N := some 133) (v := ?_) (a' := ?_) #[true, true, true, true, false, true, false, false, false, false, false, false, false, false, false] rfl rfl (any_of HT_.out (by kernel_rfl)) (fun _ _ _ h => h) (Or.inl ⟨by rfl, ?_⟩) ?_ ?_
                rotate_left
                ·
                 intro w'
                 go_simp
                 with_reducible rfl
                rotate_left
                ·
                 simp only [Act.put, List.setIfInBounds_toArray, List.set_cons_zero, List.set_cons_succ, i64_w, i32_w]
                 rfl
                refine pure_ (i := 6) (N := some 134) (v := ?_) (a' := ?_) #[true, true, true, true, false, true, true, false, false, false, false, false, false, false, false] rfl rfl (any_of HT_.out (by kernel_rfl)) (fun _ _ _ h => h) (Or.inl ⟨by rfl, ?_⟩) ?_ ?_
                rotate_left
                ·
                 intro w'
                 go_simp
                 with_reducible rfl
                rotate_left
                ·
                 simp only [Act.put, List.setIfInBounds_toArray, List.set_cons_zero, List.set_cons_succ, i64_w, i32_w]
                 rfl
                refine pure_ (i := 7) (N := some 135) (v := ?_) (a' := ?_) #[true, true, true, true, false, true, true, true, false, false, false, false, false, false, false] rfl rfl (any_of HT_.out (by kernel_rfl)) (fun _ _ _ h => h) (Or.inl ⟨by rfl, ?_⟩) ?_ ?_
                rotate_left
                ·
                 intro w'
                 go_simp
                 with_reducible rfl
                rotate_left
                ·
                 simp only [Act.put, List.setIfInBounds_toArray, List.set_cons_zero, List.set_cons_succ, i64_w, i32_w]
                 rfl
                refine take_ (i := 4) (N := some 132) (v := ?_) (a' := ?_) #[true, true, true, true, true, true, true, true, false, false, false, false, false, false, false] rfl rfl (take_ofW HT_.out HW_.out (by kernel_rfl)) (fun _ _ _ h => h) (Or.inl ⟨by rfl, ?_⟩) hHeld ?_ ?_
                rotate_left
                ·
                 rintro w' ⟨s0, s1⟩
                 go_simp
                 with_reducible rfl
                rotate_left
                ·
                 simp only [Act.put, List.setIfInBounds_toArray, List.set_cons_zero, List.set_cons_succ, i64_w, i32_w]
                 rfl
                refine take_ (i := 8) (N := some 136) (v := ?_) (a' := ?_) #[true, true, true, true, true, true, true, true, true, false, false, false, false, false, false] rfl rfl (take_ofW HT_.out HW_.out (by kernel_rfl)) (fun _ _ _ h => h) (Or.inl ⟨by rfl, ?_⟩) hHeld ?_ ?_
                rotate_left
                ·
                 rintro w' ⟨s0, s1⟩
                 go_simp
                 with_reducible rfl
                rotate_left
                ·
                 simp only [Act.put, List.setIfInBounds_toArray, List.set_cons_zero, List.set_cons_succ, i64_w, i32_w]
                 rfl
                refine one_ (i := 9) (N := some 137) #[true, true, true, true, true, true, true, true, true, true, false, false, false, false, false] rfl rfl (one_of HT_.out (by kernel_rfl)) (by decide) (fun K hK => ?_)
                refine goes_ Tryd.func22 (by kernel_rfl) rfl #[.slice Ao19 t559.length co19, .slice A592_0 (rd_L7 y577 x16_2).length c592_0, .int .i64 (rd t562 x16_2)] (by rfl) rfl rfl (by (try simp only [List.map_toArray, List.map_cons, List.map_nil]); first | done | rfl | (simp only [List.length_drop, List.length_take]; rfl)) ?_
                with_reducible refine (logic_Meets.calls kj45 _ _ t559 _ _ (rd_L7 y577 x16_2) (rd t562 x16_2) t594 t595 _ ?side1 ?side2 ?side3 ?side4 ?side5 A61.out).mono ?_
                (case side1 => repeat (first | exact (Kd.V_reads' HO_6.out).2.2 | (with_reducible refine Kd.C_alloc ?_ _) | (with_reducible refine Kd.C_drewN ?_ _) | (with_reducible refine Kd.C_drew ?_)))
                (case side2 => exact (Kd.V_reads' HO_6.out).2.1)
                (case side3 => repeat (first | exact (by repeat (first | (with_reducible exact HR592_0.out) | (with_reducible refine Kd.C_alloc ?_ _) | (with_reducible refine Kd.C_drewN ?_ _) | (with_reducible refine Kd.C_drew ?_) | exact HR592_0.out)) | (with_reducible refine Kd.C_alloc ?_ _) | (with_reducible refine Kd.C_drewN ?_ _) | (with_reducible refine Kd.C_drew ?_)))
                (case side4 => exact HC592_0.out)
                (case side5 => first | exact hG_ | exact Glob.drewN hG_ _ | exact Glob.below hG_ (by repeat (first | (with_reducible first | exact HB.out | apply below_alloc | apply pw_below_drewN | apply below_drew1 | refine below_set ?_ GE551.out | refine below_set ?_ GE558.out) | exact HB.out)))
                rintro e w68 ⟨rfl, hb⟩
                have HS0_ := (hb.cell (World.block_lt_of_cell? _ _ (hHeld.1))).trans (hHeld.1)
                have HS1_ := (hb.cell (World.block_lt_of_cell? _ _ (hHeld.2))).trans (hHeld.2)
                refine ⟨_, rfl, ?_⟩
                have n0_ := Aside0.mk (Kd.V_below (by (with_reducible repeat (first | apply Kd.V_alloc | apply Kd.V_drewN | apply Kd.V_drew)); exact HO_6.out) hb)
                have n1_ := Aside0.mk (Kd.V_below (by (with_reducible repeat (first | apply Kd.V_alloc | apply Kd.V_drewN | apply Kd.V_drew)); exact HO_7.out) hb)
                have n2_ := Aside0.mk (Kd.V_below (by (with_reducible repeat (first | apply Kd.V_alloc | apply Kd.V_drewN | apply Kd.V_drew)); exact HO_9.out) hb)
                have n3_ := Aside0.mk (Kd.V_below (by (with_reducible repeat (first | apply Kd.V_alloc | apply Kd.V_drewN | apply Kd.V_drew)); exact HO_11.out) hb)
                have n4_ := Aside0.mk (Kd.N_below (by (with_reducible repeat (first | apply Kd.N_alloc | apply Kd.N_drewN | apply Kd.N_drew)); exact HO_15.out) hb)
                have n5_ := Aside0.mk (Kd.N_below (by (with_reducible repeat (first | apply Kd.N_alloc | apply Kd.N_drewN | apply Kd.N_drew)); exact HO_559000.out) hb)
                have n6_ := Aside0.mk (Kd.N_below (by (with_reducible repeat (first | apply Kd.N_alloc | apply Kd.N_drewN | apply Kd.N_drew)); exact HO_559001.out) hb)
                have n7_ := Aside0.mk (Kd.V_below (by (with_reducible repeat (first | apply Kd.V_alloc | apply Kd.V_drewN | apply Kd.V_drew)); exact HL586_0.out) hb)
                have n8_ := Aside0.mk (Kd.V_below (by (with_reducible repeat (first | apply Kd.V_alloc | apply Kd.V_drewN | apply Kd.V_drew)); exact HO591.out) hb)
                have n9_ := Aside0.mk (Kd.V_below (by (with_reducible repeat (first | apply Kd.V_alloc | apply Kd.V_drewN | apply Kd.V_drew)); exact HL592_0.out) hb)
                have n10_ := Aside0.mk (blk_below (g := gb551) (o := .cells #[.slice A1_0 l1_0.length c1_0, .slice A1_1 l1_1.length c1_1] 40 (0, 0)) (by (with_reducible repeat (first | refine blk_drewN ?_ _ | refine blk_drew ?_ | refine blk_alloc ?_ _)); exact BK551.out) hb)
                have n11_ := Aside0.mk (blk_below (g := gb558) (o := .cells #[.slice Ao13 t552.length co13, .slice Ao16 t555.length co16] 43 (0, 0)) (by (with_reducible repeat (first | refine blk_drewN ?_ _ | refine blk_drew ?_ | refine blk_alloc ?_ _)); exact BK558.out) hb)
                have n12_ := Aside0.mk (Kd.C_below (by repeat (first | (with_reducible exact HR586_0.out) | (with_reducible refine Kd.C_alloc ?_ _) | (with_reducible refine Kd.C_drewN ?_ _) | (with_reducible refine Kd.C_drew ?_) | exact HR586_0.out)) hb)
                have n13_ := Aside0.mk (Kd.C_below (by repeat (first | (with_reducible exact HR592_0.out) | (with_reducible refine Kd.C_alloc ?_ _) | (with_reducible refine Kd.C_drewN ?_ _) | (with_reducible refine Kd.C_drew ?_) | exact HR592_0.out)) hb)
                have n14_ := Aside0.mk (below_step (by repeat (first | (with_reducible first | exact HB.out | apply below_alloc | apply pw_below_drewN | apply below_drew1 | refine below_set ?_ GE551.out | refine below_set ?_ GE558.out) | exact HB.out)) hb)
                clear HO_6
                clear HO_7
                clear HO_9
                clear HO_11
                clear HO_15
                clear HO_559000
                clear HO_559001
                clear HL586_0
                clear HO591
                clear HL592_0
                clear BK551
                clear BK558
                clear HR586_0
                clear HR592_0
                clear HB
                have HO_6 := n0_
                have HO_7 := n1_
                have HO_9 := n2_
                have HO_11 := n3_
                have HO_15 := n4_
                have HO_559000 := n5_
                have HO_559001 := n6_
                have HL586_0 := n7_
                have HO591 := n8_
                have HL592_0 := n9_
                have BK551 := n10_
                have BK558 := n11_
                have HR586_0 := n12_
                have HR592_0 := n13_
                have HB := n14_
                clear n0_ n1_ n2_ n3_ n4_ n5_ n6_ n7_ n8_ n9_ n10_ n11_ n12_ n13_ n14_
                (try clear hb)
                (try clear hb2)
                (try clear hk)
                (try clear hi)
                refine hK.out _ _ ⟨HS0_, HS1_⟩ (fun hHeld => ?_)
                clear hK K
                refine norm_ (a' := ?_) ?_ ?_
                rotate_left
                ·
                 show Act.put _ (some 137) _ = _
                 simp only [Act.put, List.setIfInBounds_toArray, List.set_cons_zero, List.set_cons_succ, i64_w, i32_w]
                 rfl
                refine pure_ (i := 10) (N := some 127) (v := ?_) (a' := ?_) #[true, true, true, true, true, true, true, true, true, true, true, false, false, false, false] rfl rfl (any_of HT_.out (by kernel_rfl)) (fun _ _ _ h => h) (Or.inl ⟨by rfl, ?_⟩) ?_ ?_
                rotate_left
                ·
                 intro w'
                 go_simp
                 with_reducible rfl
                rotate_left
                ·
                 simp only [Act.put, List.setIfInBounds_toArray, List.set_cons_zero, List.set_cons_succ, i64_w, i32_w]
                 rfl
                refine pure_ (i := 11) (N := some 138) (v := ?_) (a' := ?_) #[true, true, true, true, true, true, true, true, true, true, true, true, false, false, false] rfl rfl (any_of HT_.out (by kernel_rfl)) (fun _ _ _ h => h) (Or.inl ⟨by rfl, ?_⟩) ?_ ?_
                rotate_left
                ·
                 intro w'
                 go_simp
                 with_reducible rfl
                rotate_left
                ·
                 simp only [Act.put, List.setIfInBounds_toArray, List.set_cons_zero, List.set_cons_succ, i64_w, i32_w]
                 rfl
                refine pure_ (i := 12) (N := some 139) (v := ?_) (a' := ?_) #[true, true, true, true, true, true, true, true, true, true, true, true, true, false, false] rfl rfl (any_of HT_.out (by kernel_rfl)) (fun _ _ _ h => h) (Or.inl ⟨by rfl, ?_⟩) ?_ ?_
                rotate_left
                ·
                 intro w'
                 go_simp
                 with_reducible rfl
                rotate_left
                ·
                 simp only [Act.put, List.setIfInBounds_toArray, List.set_cons_zero, List.set_cons_succ, i64_w, i32_w]
                 rfl
                refine pure_ (i := 13) (N := some 22) (v := ?_) (a' := ?_) #[true, true, true, true, true, true, true, true, true, true, true, true, true, true, false] rfl rfl (any_of HT_.out (by kernel_rfl)) (fun _ _ _ h => h) (Or.inl ⟨by rfl, ?_⟩) ?_ ?_
                rotate_left
                ·
                 intro w'
                 go_simp
                 with_reducible rfl
                rotate_left
                ·
                 simp only [Act.put, List.setIfInBounds_toArray, List.set_cons_zero, List.set_cons_succ, i64_w, i32_w]
                 rfl
                refine pure_ (i := 14) (N := some 23) (v := ?_) (a' := ?_) #[true, true, true, true, true, true, true, true, true, true, true, true, true, true, true] rfl rfl (any_of HT_.out (by kernel_rfl)) (fun _ _ _ h => h) (Or.inl ⟨by rfl, ?_⟩) ?_ ?_
                rotate_left
                ·
                 intro w'
                 go_simp
                 with_reducible rfl
                rotate_left
                ·
                 simp only [Act.put, List.setIfInBounds_toArray, List.set_cons_zero, List.set_cons_succ, i64_w, i32_w]
                 rfl
                refine done_ (done_of HT_.out (by kernel_rfl)) ?_
                go_upto_region 20 with (fail)
                go_cut [170] (fun v170 wc => ∃ (kq : Nat) (x170_61 : Bool), v170 = .bool x170_61 ∧ Aside0 (foretellkeep_ClaimLine.j4 kq t559 t562 t566 t570 (wrap64 ((t552.length : Int) + (t555.length : Int))) x14_2 y577 x16_2 t594 x170_61 t552 t555 = some r) ∧ Aside0 (kq ≤ kj45) ∧ Aside0 (Kd.V k51 51 wc w.heap.size (fun k_ => some k_ ≠ ((.slice (some ad586) y577.length co64) : Value).ownBlock ∧ k_ ≠ gb551 ∧ k_ ≠ gb558) (.slice Ao19 t559.length co19) t559) ∧ Aside0 (Kd.V (Kd.int .i64) 3 wc w.heap.size (fun k_ => some k_ ≠ ((.slice (some ad586) y577.length co64) : Value).ownBlock ∧ k_ ≠ gb551 ∧ k_ ≠ gb558) (.slice (some ad587) t562.length co35) t562) ∧ Aside0 (Kd.V Kd.bool 4 wc w.heap.size (fun k_ => some k_ ≠ ((.slice (some ad586) y577.length co64) : Value).ownBlock ∧ k_ ≠ gb551 ∧ k_ ≠ gb558) (.slice Ao36 t566.length co36) t566) ∧ Aside0 (Kd.V (Kd.int .i64) 3 wc w.heap.size (fun k_ => some k_ ≠ ((.slice (some ad586) y577.length co64) : Value).ownBlock ∧ k_ ≠ gb551 ∧ k_ ≠ gb558) (.slice Ao37 t570.length co37) t570) ∧ Aside0 (Kd.N (Kd.slice 4 Kd.bool) 30 wc w.heap.size (fun k_ => k_ ≠ gb551 ∧ k_ ≠ gb558) (.slice (some ad586) y577.length co64) y577) ∧ Aside0 (Kd.N (Kd.slice 4 Kd.bool) 30 wc w.heap.size (fun k_ => some k_ ≠ ((.slice (some ad586) y577.length co64) : Value).ownBlock ∧ some k_ ≠ ((.slice Ao16 t555.length co16) : Value).ownBlock ∧ k_ ≠ gb551 ∧ k_ ≠ gb558) (.slice Ao13 t552.length co13) t552) ∧ Aside0 (Kd.N (Kd.slice 4 Kd.bool) 30 wc w.heap.size (fun k_ => some k_ ≠ ((.slice (some ad586) y577.length co64) : Value).ownBlock ∧ some k_ ≠ ((.slice Ao13 t552.length co13) : Value).ownBlock ∧ k_ ≠ gb551 ∧ k_ ≠ gb558) (.slice Ao16 t555.length co16) t555) ∧ Aside0 (wc.heap[gb551]? = some (.cells #[(.slice A1_0 l1_0.length c1_0), (.slice A1_1 l1_1.length c1_1)] 40 (0, 0))) ∧ Aside0 (wc.heap[gb558]? = some (.cells #[(.slice Ao13 t552.length co13), (.slice Ao16 t555.length co16)] 43 (0, 0))) ∧ Aside0 (Kd.C Kd.bool wc A586_0 (rd_L7 y577 x16_2).length (rd_L7 y577 x16_2)) ∧ Aside0 (Kd.C Kd.bool wc A592_0 (rd_L7 y577 x16_2).length (rd_L7 y577 x16_2)) ∧ Aside0 (Below w.heap.size w wc))
                case first =>
                 have H := HC62.out
                 clear HC62
                 by_cases c69 : x19_45 = 0
                 ·
                  rw [if_pos c69] at H
                  have c69b0 : (x19_45 == 0) = true := beq_iff_eq.mpr c69
                  have c69b1 : (x19_45 != 0) = false := bne_eq_false_iff_eq.mpr c69
                  clear c69
                  (first | rw [c69b0] | (simp only [i64_w, i32_w]; rw [c69b0]) | skip)
                  by_cases c70 : t589 = 0
                  ·
                   rw [if_pos c70] at H
                   have c70b0 : (t589 == 0) = true := beq_iff_eq.mpr c70
                   have c70b1 : (t589 != 0) = false := bne_eq_false_iff_eq.mpr c70
                   clear c70
                   by_cases c71 : t595 = 0
                   ·
                    rw [if_pos c71] at H
                    have c71b0 : (t595 == 0) = true := beq_iff_eq.mpr c71
                    have c71b1 : (t595 != 0) = false := bne_eq_false_iff_eq.mpr c71
                    clear c71
                    by_cases c72 : x18_45 = true
                    ·
                     subst c72
                     have H1 : (if (t588.length : Int) = (t559.length : Int) then (if 0 < (t588.length : Int) then (if x16_2 < (t566.length : Int) then (foretellkeep_ClaimLine.j4 kj45 t559 t562 t566 t570 (wrap64 ((t552.length : Int) + (t555.length : Int))) x14_2 y577 x16_2 t594 ((rdOf false t588 0) != (rdOf false t566 x16_2)) t552 t555) else (none)) else (none)) else (none)) = some r := by rw [if_pos rfl] at H; exact H
                     clear H
                     have H := H1
                     clear H1
                     by_cases c73 : (t588.length : Int) = (t559.length : Int)
                     ·
                      rw [if_pos c73] at H
                      have c73b0 : ((t588.length : Int) == (t559.length : Int)) = true := beq_iff_eq.mpr c73
                      have c73b1 : ((t588.length : Int) != (t559.length : Int)) = false := bne_eq_false_iff_eq.mpr c73
                      have c73b2 : (t588.length == t559.length) = true := by first | simpa using c73 | (simp at c73 ⊢; omega)
                      clear c73
                      by_cases c74 : 0 < (t588.length : Int)
                      ·
                       rw [if_pos c74] at H
                       have c74b0 : decide (0 < (t588.length : Int)) = true := decide_eq_true c74
                       have c74b1 : decide (0 < t588.length) = true := decide_eq_true (by omega)
                       clear c74
                       by_cases c75 : x16_2 < (t566.length : Int)
                       ·
                        rw [if_pos c75] at H
                        have c75b0 : decide (x16_2 < (t566.length : Int)) = true := decide_eq_true c75
                        clear c75
                        have H' := Aside0.mk H
                        clear H
                        try go_wp2
                        have n0_ := Aside0.mk (Kd.V_drew HO_6.out)
                        have n1_ := Aside0.mk (Kd.V_drew HO_7.out)
                        have n2_ := Aside0.mk (Kd.V_drew HO_9.out)
                        have n3_ := Aside0.mk (Kd.V_drew HO_11.out)
                        have n4_ := Aside0.mk (Kd.N_drew HO_15.out)
                        have n5_ := Aside0.mk (Kd.N_drew HO_559000.out)
                        have n6_ := Aside0.mk (Kd.N_drew HO_559001.out)
                        have n7_ := Aside0.mk (Kd.V_drew HL586_0.out)
                        have n8_ := Aside0.mk (Kd.V_drew HO591.out)
                        have n9_ := Aside0.mk (Kd.V_drew HL592_0.out)
                        have n10_ := Aside0.mk (blk_drew BK551.out)
                        have n11_ := Aside0.mk (blk_drew BK558.out)
                        have n12_ := Aside0.mk (Kd.C_drew HR586_0.out)
                        have n13_ := Aside0.mk (Kd.C_drew HR592_0.out)
                        have n14_ := Aside0.mk (below_drew1 HB.out)
                        clear HO_6
                        clear HO_7
                        clear HO_9
                        clear HO_11
                        clear HO_15
                        clear HO_559000
                        clear HO_559001
                        clear HL586_0
                        clear HO591
                        clear HL592_0
                        clear BK551
                        clear BK558
                        clear HR586_0
                        clear HR592_0
                        clear HB
                        have HO_6 := n0_
                        have HO_7 := n1_
                        have HO_9 := n2_
                        have HO_11 := n3_
                        have HO_15 := n4_
                        have HO_559000 := n5_
                        have HO_559001 := n6_
                        have HL586_0 := n7_
                        have HO591 := n8_
                        have HL592_0 := n9_
                        have BK551 := n10_
                        have BK558 := n11_
                        have HR586_0 := n12_
                        have HR592_0 := n13_
                        have HB := n14_
                        clear n0_ n1_ n2_ n3_ n4_ n5_ n6_ n7_ n8_ n9_ n10_ n11_ n12_ n13_ n14_
                        have p596 : 0 ≤ (0 : Int) := (by omega)
                        have q596 : 0 < (t588.length : Int) := of_decide_eq_true (by first | (with_reducible assumption) | assumption)
                        obtain ⟨ad596, e596, hx596_0⟩ := Kd.at_bool (Kd.V_reads' HO591.out).2.2 0 p596 q596
                        cases e596
                        have qi596 : (0 < t588.length) = True := eq_true (by omega)
                        (try rw [show ((0 : Int)).toNat = 0 from rfl] at hx596_0)
                        (try rw [Addr.add_zero'] at hx596_0)
                        replace p596 := eq_true p596
                        replace q596 := eq_true q596
                        have p597 : 0 ≤ (x16_2 : Int) := of_decide_eq_true (by first | (with_reducible assumption) | assumption)
                        have q597 : x16_2 < (t566.length : Int) := of_decide_eq_true (by first | (with_reducible assumption) | assumption)
                        obtain ⟨ad597, e597, hx597_0⟩ := Kd.at_bool (Kd.V_reads' HO_9.out).2.2 x16_2 p597 q597
                        cases e597
                        replace p597 := eq_true p597
                        replace q597 := eq_true q597
                        refine start_ (n := 31) (S := fun w' => w'.cell? ad596 = some (.bool (rdOf false t588 0)) ∧ w'.cell? (ad597.add (x16_2).toNat) = some (.bool (rdOf false t566 x16_2))) (ds := []) #[false, false, false, false, false, false, false, false, false, false, false, false, false, false, false, false, false, false, false, false, false, false, false, false, false, false, false, false, false, false, false] (by kernel_rfl) rfl rfl ⟨hx596_0, hx597_0⟩ (fun hHeld => ?_); refine with_tabW foretellkeep_ClaimLine.tab20 foretellkeep_ClaimLine.bits20 (fun HT_ HW_ => ?_)
                        generalize w68.drew = w76 at HO_6 HO_7 HO_9 HO_11 HO_15 HO_559000 HO_559001 HL586_0 HO591 HL592_0 BK551 BK558 HR586_0 HR592_0 HB hx596_0 hx597_0 hHeld ⊢
                        refine pure_ (i := 0) (N := some 140) (v := ?_) (a' := ?_) #[true, false, false, false, false, false, false, false, false, false, false, false, false, false, false, false, false, false, false, false, false, false, false, false, false, false, false, false, false, false, false] rfl rfl (any_of HT_.out (by kernel_rfl)) (fun _ _ _ h => h) (Or.inl ⟨by rfl, ?_⟩) ?_ ?_
                        rotate_left
                        ·
                         intro w'
                         go_simp
                         with_reducible rfl
                        rotate_left
                        ·
                         simp only [Act.put, List.setIfInBounds_toArray, List.set_cons_zero, List.set_cons_succ, i64_w, i32_w]
                         rfl
                        refine pure_ (i := 1) (N := some 141) (v := ?_) (a' := ?_) #[true, true, false, false, false, false, false, false, false, false, false, false, false, false, false, false, false, false, false, false, false, false, false, false, false, false, false, false, false, false, false] rfl rfl (any_of HT_.out (by kernel_rfl)) (fun _ _ _ h => h) (Or.inl ⟨by rfl, ?_⟩) ?_ ?_
                        rotate_left
                        ·
                         intro w'
                         go_simp
                         with_reducible rfl
                        rotate_left
                        ·
                         simp only [Act.put, List.setIfInBounds_toArray, List.set_cons_zero, List.set_cons_succ, i64_w, i32_w]
                         rfl
                        refine pure_ (i := 2) (N := some 142) (v := ?_) (a' := ?_) #[true, true, true, false, false, false, false, false, false, false, false, false, false, false, false, false, false, false, false, false, false, false, false, false, false, false, false, false, false, false, false] rfl rfl (any_of HT_.out (by kernel_rfl)) (fun _ _ _ h => h) (Or.inl ⟨by rfl, ?_⟩) ?_ ?_
                        rotate_left
                        ·
                         intro w'
                         go_simp
                         with_reducible rfl
                        rotate_left
                        ·
                         simp only [Act.put, List.setIfInBounds_toArray, List.set_cons_zero, List.set_cons_succ, i64_w, i32_w]
                         rfl
                        refine pure_ (i := 3) (N := some 143) (v := ?_) (a' := ?_) #[true, true, true, true, false, false, false, false, false, false, false, false, false, false, false, false, false, false, false, false, false, false, false, false, false, false, false, false, false, false, false] rfl rfl (any_of HT_.out (by kernel_rfl)) (fun _ _ _ h => h) (Or.inl ⟨by rfl, ?_⟩) ?_ ?_
                        rotate_left
                        ·
                         intro w'
                         go_simp
                         with_reducible rfl
                        rotate_left
                        ·
                         simp only [Act.put, List.setIfInBounds_toArray, List.set_cons_zero, List.set_cons_succ, i64_w, i32_w]
                         rfl
                        refine pure_ (i := 4) (N := some 144) (v := ?_) (a' := ?_) #[true, true, true, true, true, false, false, false, false, false, false, false, false, false, false, false, false, false, false, false, false, false, false, false, false, false, false, false, false, false, false] rfl rfl (any_of HT_.out (by kernel_rfl)) (fun _ _ _ h => h) (Or.inl ⟨by rfl, ?_⟩) ?_ ?_
                        rotate_left
                        ·
                         intro w'
                         go_simp
                         with_reducible rfl
                        rotate_left
                        ·
                         simp only [Act.put, List.setIfInBounds_toArray, List.set_cons_zero, List.set_cons_succ, i64_w, i32_w]
                         rfl
                        refine pure_ (i := 5) (N := some 145) (v := ?_) (a' := ?_) #[true, true, true, true, true, true, false, false, false, false, false, false, false, false, false, false, false, false, false, false, false, false, false, false, false, false, false, false, false, false, false] rfl rfl (any_of HT_.out (by kernel_rfl)) (fun _ _ _ h => h) (Or.inl ⟨by rfl, ?_⟩) ?_ ?_
                        rotate_left
                        ·
                         intro w'
                         go_simp
                         with_reducible rfl
                        rotate_left
                        ·
                         simp only [Act.put, List.setIfInBounds_toArray, List.set_cons_zero, List.set_cons_succ, i64_w, i32_w]
                         rfl
                        refine pure_ (i := 6) (N := some 146) (v := ?_) (a' := ?_) #[true, true, true, true, true, true, true, false, false, false, false, false, false, false, false, false, false, false, false, false, false, false, false, false, false, false, false, false, false, false, false] rfl rfl (any_of HT_.out (by kernel_rfl)) (fun _ _ _ h => h) (Or.inl ⟨by rfl, ?_⟩) ?_ ?_
                        rotate_left
                        ·
                         intro w'
                         go_simp
                         with_reducible rfl
                        rotate_left
                        ·
                         simp only [Act.put, List.setIfInBounds_toArray, List.set_cons_zero, List.set_cons_succ, i64_w, i32_w]
                         rfl
                        refine pure_ (i := 7) (N := some 147) (v := ?_) (a' := ?_) #[true, true, true, true, true, true, true, true, false, false, false, false, false, false, false, false, false, false, false, false, false, false, false, false, false, false, false, false, false, false, false] rfl rfl (any_of HT_.out (by kernel_rfl)) (fun _ _ _ h => h) (Or.inl ⟨by rfl, ?_⟩) ?_ ?_
                        rotate_left
                        ·
                         intro w'
                         go_simp
                         with_reducible rfl
                        rotate_left
                        ·
                         simp only [Act.put, List.setIfInBounds_toArray, List.set_cons_zero, List.set_cons_succ, i64_w, i32_w]
                         rfl
                        refine pure_ (i := 8) (N := some 148) (v := ?_) (a' := ?_) #[true, true, true, true, true, true, true, true, true, false, false, false, false, false, false, false, false, false, false, false, false, false, false, false, false, false, false, false, false, false, false] rfl rfl (any_of HT_.out (by kernel_rfl)) (fun _ _ _ h => h) (Or.inl ⟨by rfl, ?_⟩) ?_ ?_
                        rotate_left
                        ·
                         intro w'
                         go_simp
                         with_reducible rfl
                        rotate_left
                        ·
                         simp only [Act.put, List.setIfInBounds_toArray, List.set_cons_zero, List.set_cons_succ, i64_w, i32_w]
                         rfl
                        refine pure_ (i := 9) (N := some 149) (v := ?_) (a' := ?_) #[true, true, true, true, true, true, true, true, true, true, false, false, false, false, false, false, false, false, false, false, false, false, false, false, false, false, false, false, false, false, false] rfl rfl (any_of HT_.out (by kernel_rfl)) (fun _ _ _ h => h) (Or.inl ⟨by rfl, ?_⟩) ?_ ?_
                        rotate_left
                        ·
                         intro w'
                         go_simp
                         with_reducible rfl
                        rotate_left
                        ·
                         simp only [Act.put, List.setIfInBounds_toArray, List.set_cons_zero, List.set_cons_succ, i64_w, i32_w]
                         rfl
                        refine pure_ (i := 10) (N := some 150) (v := ?_) (a' := ?_) #[true, true, true, true, true, true, true, true, true, true, true, false, false, false, false, false, false, false, false, false, false, false, false, false, false, false, false, false, false, false, false] rfl rfl (any_of HT_.out (by kernel_rfl)) (fun _ _ _ h => h) (Or.inl ⟨by rfl, ?_⟩) ?_ ?_
                        rotate_left
                        ·
                         intro w'
                         go_simp
                         with_reducible rfl
                        rotate_left
                        ·
                         simp only [Act.put, List.setIfInBounds_toArray, List.set_cons_zero, List.set_cons_succ, i64_w, i32_w]
                         rfl
                        refine pure_ (i := 11) (N := some 151) (v := ?_) (a' := ?_) #[true, true, true, true, true, true, true, true, true, true, true, true, false, false, false, false, false, false, false, false, false, false, false, false, false, false, false, false, false, false, false] rfl rfl (any_of HT_.out (by kernel_rfl)) (fun _ _ _ h => h) (Or.inl ⟨by rfl, ?_⟩) ?_ ?_
                        rotate_left
                        ·
                         intro w'
                         go_simp
                         with_reducible rfl
                        rotate_left
                        ·
                         simp only [Act.put, List.setIfInBounds_toArray, List.set_cons_zero, List.set_cons_succ, i64_w, i32_w]
                         rfl
                        refine pure_ (i := 12) (N := some 152) (v := ?_) (a' := ?_) #[true, true, true, true, true, true, true, true, true, true, true, true, true, false, false, false, false, false, false, false, false, false, false, false, false, false, false, false, false, false, false] rfl rfl (any_of HT_.out (by kernel_rfl)) (fun _ _ _ h => h) (Or.inl ⟨by rfl, ?_⟩) ?_ ?_
                        rotate_left
                        ·
                         intro w'
                         go_simp
                         with_reducible rfl
                        rotate_left
                        ·
                         simp only [Act.put, List.setIfInBounds_toArray, List.set_cons_zero, List.set_cons_succ, i64_w, i32_w]
                         rfl
                        refine pure_ (i := 13) (N := some 153) (v := ?_) (a' := ?_) #[true, true, true, true, true, true, true, true, true, true, true, true, true, true, false, false, false, false, false, false, false, false, false, false, false, false, false, false, false, false, false] rfl rfl (any_of HT_.out (by kernel_rfl)) (fun _ _ _ h => h) (Or.inl ⟨by rfl, ?_⟩) ?_ ?_
                        rotate_left
                        ·
                         intro w'
                         go_simp
                         with_reducible rfl
                        rotate_left
                        ·
                         simp only [Act.put, List.setIfInBounds_toArray, List.set_cons_zero, List.set_cons_succ, i64_w, i32_w]
                         rfl
                        refine pure_ (i := 14) (N := some 154) (v := ?_) (a' := ?_) #[true, true, true, true, true, true, true, true, true, true, true, true, true, true, true, false, false, false, false, false, false, false, false, false, false, false, false, false, false, false, false] rfl rfl (any_of HT_.out (by kernel_rfl)) (fun _ _ _ h => h) (Or.inl ⟨by rfl, ?_⟩) ?_ ?_
                        rotate_left
                        ·
                         intro w'
                         go_simp
                         with_reducible rfl
                        rotate_left
                        ·
                         simp only [Act.put, List.setIfInBounds_toArray, List.set_cons_zero, List.set_cons_succ, i64_w, i32_w]
                         rfl
                        refine pure_ (i := 15) (N := some 155) (v := ?_) (a' := ?_) #[true, true, true, true, true, true, true, true, true, true, true, true, true, true, true, true, false, false, false, false, false, false, false, false, false, false, false, false, false, false, false] rfl rfl (any_of HT_.out (by kernel_rfl)) (fun _ _ _ h => h) (Or.inl ⟨by rfl, ?_⟩) ?_ ?_
                        rotate_left
                        ·
                         intro w'
                         go_simp
                         with_reducible rfl
                        rotate_left
                        ·
                         simp only [Act.put, List.setIfInBounds_toArray, List.set_cons_zero, List.set_cons_succ, i64_w, i32_w]
                         rfl
                        refine pure_ (i := 16) (N := some 156) (v := ?_) (a' := ?_) #[true, true, true, true, true, true, true, true, true, true, true, true, true, true, true, true, true, false, false, false, false, false, false, false, false, false, false, false, false, false, false] rfl rfl (any_of HT_.out (by kernel_rfl)) (fun _ _ _ h => h) (Or.inl ⟨by rfl, ?_⟩) ?_ ?_
                        rotate_left
                        ·
                         intro w'
                         go_simp
                         with_reducible rfl
                        rotate_left
                        ·
                         simp only [Act.put, List.setIfInBounds_toArray, List.set_cons_zero, List.set_cons_succ, i64_w, i32_w]
                         rfl
                        refine pure_ (i := 17) (N := some 157) (v := ?_) (a' := ?_) #[true, true, true, true, true, true, true, true, true, true, true, true, true, true, true, true, true, true, false, false, false, false, false, false, false, false, false, false, false, false, false] rfl rfl (any_of HT_.out (by kernel_rfl)) (fun _ _ _ h => h) (Or.inl ⟨by rfl, ?_⟩) ?_ ?_
                        rotate_left
                        ·
                         intro w'
                         go_simp
                         with_reducible rfl
                        rotate_left
                        ·
                         simp only [Act.put, List.setIfInBounds_toArray, List.set_cons_zero, List.set_cons_succ, i64_w, i32_w]
                         rfl
                        refine pure_ (i := 18) (N := some 158) (v := ?_) (a' := ?_) #[true, true, true, true, true, true, true, true, true, true, true, true, true, true, true, true, true, true, true, false, false, false, false, false, false, false, false, false, false, false, false] rfl rfl (any_of HT_.out (by kernel_rfl)) (fun _ _ _ h => h) (Or.inl ⟨by rfl, ?_⟩) ?_ ?_
                        rotate_left
                        ·
                         intro w'
                         go_simp
                         with_reducible rfl
                        rotate_left
                        ·
                         simp only [Act.put, List.setIfInBounds_toArray, List.set_cons_zero, List.set_cons_succ, i64_w, i32_w]
                         rfl
                        refine pure_ (i := 19) (N := some 159) (v := ?_) (a' := ?_) #[true, true, true, true, true, true, true, true, true, true, true, true, true, true, true, true, true, true, true, true, false, false, false, false, false, false, false, false, false, false, false] rfl rfl (any_of HT_.out (by kernel_rfl)) (fun _ _ _ h => h) (Or.inl ⟨by rfl, ?_⟩) ?_ ?_
                        rotate_left
                        ·
                         intro w'
                         go_simp
                         with_reducible rfl
                        rotate_left
                        ·
                         simp only [Act.put, List.setIfInBounds_toArray, List.set_cons_zero, List.set_cons_succ, i64_w, i32_w]
                         rfl
                        refine pure_ (i := 20) (N := some 160) (v := ?_) (a' := ?_) #[true, true, true, true, true, true, true, true, true, true, true, true, true, true, true, true, true, true, true, true, true, false, false, false, false, false, false, false, false, false, false] rfl rfl (any_of HT_.out (by kernel_rfl)) (fun _ _ _ h => h) (Or.inl ⟨by rfl, ?_⟩) ?_ ?_
                        rotate_left
                        ·
                         intro w'
                         go_simp
                         with_reducible rfl
                        rotate_left
                        ·
                         simp only [Act.put, List.setIfInBounds_toArray, List.set_cons_zero, List.set_cons_succ, i64_w, i32_w]
                         rfl
                        refine pure_ (i := 21) (N := some 161) (v := ?_) (a' := ?_) #[true, true, true, true, true, true, true, true, true, true, true, true, true, true, true, true, true, true, true, true, true, true, false, false, false, false, false, false, false, false, false] rfl rfl (any_of HT_.out (by kernel_rfl)) (fun _ _ _ h => h) (Or.inl ⟨by rfl, ?_⟩) ?_ ?_
                        rotate_left
                        ·
                         intro w'
                         go_simp
                         with_reducible rfl
                        rotate_left
                        ·
                         simp only [Act.put, List.setIfInBounds_toArray, List.set_cons_zero, List.set_cons_succ, i64_w, i32_w]
                         rfl
                        refine pure_ (i := 22) (N := some 162) (v := ?_) (a' := ?_) #[true, true, true, true, true, true, true, true, true, true, true, true, true, true, true, true, true, true, true, true, true, true, true, false, false, false, false, false, false, false, false] rfl rfl (any_of HT_.out (by kernel_rfl)) (fun _ _ _ h => h) (Or.inl ⟨by rfl, ?_⟩) ?_ ?_
                        rotate_left
                        ·
                         intro w'
                         go_simp
                         with_reducible rfl
                        rotate_left
                        ·
                         simp only [Act.put, List.setIfInBounds_toArray, List.set_cons_zero, List.set_cons_succ, i64_w, i32_w]
                         rfl
                        refine pure_ (i := 23) (N := some 163) (v := ?_) (a' := ?_) #[true, true, true, true, true, true, true, true, true, true, true, true, true, true, true, true, true, true, true, true, true, true, true, true, false, false, false, false, false, false, false] rfl rfl (any_of HT_.out (by kernel_rfl)) (fun _ _ _ h => h) (Or.inl ⟨by rfl, ?_⟩) ?_ ?_
                        rotate_left
                        ·
                         intro w'
                         go_simp
                         with_reducible rfl
                        rotate_left
                        ·
                         simp only [Act.put, List.setIfInBounds_toArray, List.set_cons_zero, List.set_cons_succ, i64_w, i32_w]
                         rfl
                        refine pure_ (i := 25) (N := some 165) (v := ?_) (a' := ?_) #[true, true, true, true, true, true, true, true, true, true, true, true, true, true, true, true, true, true, true, true, true, true, true, true, false, true, false, false, false, false, false] rfl rfl (any_of HT_.out (by kernel_rfl)) (fun _ _ _ h => h) (Or.inl ⟨by rfl, ?_⟩) ?_ ?_
                        rotate_left
                        ·
                         intro w'
                         go_simp
                         with_reducible rfl
                        rotate_left
                        ·
                         simp only [Act.put, List.setIfInBounds_toArray, List.set_cons_zero, List.set_cons_succ, i64_w, i32_w]
                         rfl
                        refine pure_ (i := 26) (N := some 166) (v := ?_) (a' := ?_) #[true, true, true, true, true, true, true, true, true, true, true, true, true, true, true, true, true, true, true, true, true, true, true, true, false, true, true, false, false, false, false] rfl rfl (any_of HT_.out (by kernel_rfl)) (fun _ _ _ h => h) (Or.inl ⟨by rfl, ?_⟩) ?_ ?_
                        rotate_left
                        ·
                         intro w'
                         go_simp
                         with_reducible rfl
                        rotate_left
                        ·
                         simp only [Act.put, List.setIfInBounds_toArray, List.set_cons_zero, List.set_cons_succ, i64_w, i32_w]
                         rfl
                        refine pure_ (i := 27) (N := some 167) (v := ?_) (a' := ?_) #[true, true, true, true, true, true, true, true, true, true, true, true, true, true, true, true, true, true, true, true, true, true, true, true, false, true, true, true, false, false, false] rfl rfl (any_of HT_.out (by kernel_rfl)) (fun _ _ _ h => h) (Or.inl ⟨by rfl, ?_⟩) ?_ ?_
                        rotate_left
                        ·
                         intro w'
                         go_simp
                         with_reducible rfl
                        rotate_left
                        ·
                         simp only [Act.put, List.setIfInBounds_toArray, List.set_cons_zero, List.set_cons_succ, i64_w, i32_w]
                         rfl
                        refine take_ (i := 24) (N := some 164) (v := ?_) (a' := ?_) #[true, true, true, true, true, true, true, true, true, true, true, true, true, true, true, true, true, true, true, true, true, true, true, true, true, true, true, true, false, false, false] rfl rfl (take_ofW HT_.out HW_.out (by kernel_rfl)) (fun _ _ _ h => h) (Or.inl ⟨by rfl, ?_⟩) hHeld ?_ ?_
                        rotate_left
                        ·
                         rintro w' ⟨s0, s1⟩
                         go_simp
                         with_reducible rfl
                        rotate_left
                        ·
                         simp only [Act.put, List.setIfInBounds_toArray, List.set_cons_zero, List.set_cons_succ, i64_w, i32_w]
                         rfl
                        refine take_ (i := 28) (N := some 168) (v := ?_) (a' := ?_) #[true, true, true, true, true, true, true, true, true, true, true, true, true, true, true, true, true, true, true, true, true, true, true, true, true, true, true, true, true, false, false] rfl rfl (take_ofW HT_.out HW_.out (by kernel_rfl)) (fun _ _ _ h => h) (Or.inl ⟨by rfl, ?_⟩) hHeld ?_ ?_
                        rotate_left
                        ·
                         rintro w' ⟨s0, s1⟩
                         go_simp
                         with_reducible rfl
                        rotate_left
                        ·
                         simp only [Act.put, List.setIfInBounds_toArray, List.set_cons_zero, List.set_cons_succ, i64_w, i32_w]
                         rfl
                        refine pure_ (i := 29) (N := some 169) (v := ?_) (a' := ?_) #[true, true, true, true, true, true, true, true, true, true, true, true, true, true, true, true, true, true, true, true, true, true, true, true, true, true, true, true, true, true, false] rfl rfl (any_of HT_.out (by kernel_rfl)) (fun _ _ _ h => h) (Or.inl ⟨by rfl, ?_⟩) ?_ ?_
                        rotate_left
                        ·
                         intro w'
                         go_simp
                         with_reducible rfl
                        rotate_left
                        ·
                         simp only [Act.put, List.setIfInBounds_toArray, List.set_cons_zero, List.set_cons_succ, i64_w, i32_w]
                         rfl
                        refine pure_ (i := 30) (N := some 170) (v := ?_) (a' := ?_) #[true, true, true, true, true, true, true, true, true, true, true, true, true, true, true, true, true, true, true, true, true, true, true, true, true, true, true, true, true, true, true] rfl rfl (any_of HT_.out (by kernel_rfl)) (fun _ _ _ h => h) (Or.inl ⟨by rfl, ?_⟩) ?_ ?_
                        rotate_left
                        ·
                         intro w'
                         go_simp
                         with_reducible rfl
                        rotate_left
                        ·
                         simp only [Act.put, List.setIfInBounds_toArray, List.set_cons_zero, List.set_cons_succ, i64_w, i32_w]
                         rfl
                        refine done_ (done_of HT_.out (by kernel_rfl)) ?_
                        try go_wp2
                        go_meet
                        case rel => exact ⟨_, (((rdOf false t588 0) != (rdOf false t566 x16_2))), (by first | rfl | (simp; done) | (simp [*]; done)), H', ⟨by have := HJ7.out; have := HK2.out; have := HJ41.out; have := HJ45.out; first | omega | exact Nat.le_refl _⟩, ⟨by (with_reducible repeat (first | apply Kd.V_alloc | apply Kd.V_drewN | apply Kd.V_drew)); exact HO_6.out⟩, ⟨by (with_reducible repeat (first | apply Kd.V_alloc | apply Kd.V_drewN | apply Kd.V_drew)); exact HO_7.out⟩, ⟨by (with_reducible repeat (first | apply Kd.V_alloc | apply Kd.V_drewN | apply Kd.V_drew)); exact HO_9.out⟩, ⟨by (with_reducible repeat (first | apply Kd.V_alloc | apply Kd.V_drewN | apply Kd.V_drew)); exact HO_11.out⟩, ⟨by (with_reducible repeat (first | apply Kd.N_alloc | apply Kd.N_drewN | apply Kd.N_drew)); exact HO_15.out⟩, ⟨by (with_reducible repeat (first | apply Kd.N_alloc | apply Kd.N_drewN | apply Kd.N_drew)); exact HO_559000.out⟩, ⟨by (with_reducible repeat (first | apply Kd.N_alloc | apply Kd.N_drewN | apply Kd.N_drew)); exact HO_559001.out⟩, ⟨by (with_reducible repeat (first | refine blk_drewN ?_ _ | refine blk_drew ?_ | refine blk_alloc ?_ _)); exact BK551.out⟩, ⟨by (with_reducible repeat (first | refine blk_drewN ?_ _ | refine blk_drew ?_ | refine blk_alloc ?_ _)); exact BK558.out⟩, ⟨by repeat (first | (with_reducible exact HR586_0.out) | (with_reducible refine Kd.C_alloc ?_ _) | (with_reducible refine Kd.C_drewN ?_ _) | (with_reducible refine Kd.C_drew ?_) | exact HR586_0.out)⟩, ⟨by repeat (first | (with_reducible exact HR592_0.out) | (with_reducible refine Kd.C_alloc ?_ _) | (with_reducible refine Kd.C_drewN ?_ _) | (with_reducible refine Kd.C_drew ?_) | exact HR592_0.out)⟩, ⟨by repeat (first | (with_reducible first | exact HB.out | apply below_alloc | apply pw_below_drewN | apply below_drew1 | refine below_set ?_ GE551.out | refine below_set ?_ GE558.out) | exact HB.out)⟩⟩
                       ·
                        rw [if_neg c75] at H
                        exact absurd H (by simp)
                      ·
                       rw [if_neg c74] at H
                       exact absurd H (by simp)
                     ·
                      rw [if_neg c73] at H
                      exact absurd H (by simp)
                    ·
                     rw [if_neg c72] at H
                     exact absurd H (by simp)
                   ·
                    rw [if_neg c71] at H
                    exact absurd H (by simp)
                  ·
                   rw [if_neg c70] at H
                   exact absurd H (by simp)
                 ·
                  rw [if_neg c69] at H
                  exact absurd H (by simp)
                case rest =>
                 clear HC62
                 try clear p2
                 try clear c6
                 try clear c7
                 try clear c69
                 try clear c69b0
                 try clear c69b1
                 try clear c70
                 try clear c70b0
                 try clear c70b1
                 obtain ⟨kq, x170_61, rfl, HA, HJ61, HO_6, HO_7, HO_9, HO_11, HO_15, HO_559000, HO_559001, BK551, BK558, HR586_0, HR592_0, HB⟩ := hcut
                 cases kq with
                 | zero => exact absurd HA.out (by simp [foretellkeep_ClaimLine.j4])
                 | succ kj61 =>
                  have H := HA.out
                  clear HA
                  simp only [foretellkeep_ClaimLine.j4] at H
                  by_cases c82 : x170_61 = true
                  ·
                   subst c82
                   have H1 : (some false) = some r := by rw [if_pos rfl] at H; exact H
                   clear H
                   have H := H1
                   clear H1
                   exact absurd ((Option.some.inj H).trans hr_.out) (by decide)
                  ·
                   replace c82 := Bool.eq_false_iff.mpr c82
                   subst c82
                   have H1 : (if x16_2 ≥ (t552.length : Int) then (foretellkeep_ClaimLine.l0 kj61 t559 t562 t566 t570 (wrap64 ((t552.length : Int) + (t555.length : Int))) (Go.bits .or .i64 x14_2 t594) y577 (wrap64 (x16_2 + 1)) t552 t555) else (foretellkeep_ClaimLine.l0 kj61 t559 t562 t566 t570 (wrap64 ((t552.length : Int) + (t555.length : Int))) x14_2 y577 (wrap64 (x16_2 + 1)) t552 t555)) = some r := by rw [if_neg (show ¬ (false = true) by decide)] at H; exact H
                   clear H
                   have H := H1
                   clear H1
                   by_cases c83 : x16_2 ≥ (t552.length : Int)
                   ·
                    rw [if_pos c83] at H
                    have c83b0 : decide ((t552.length : Int) ≤ x16_2) = true := decide_eq_true c83
                    clear c83
                    have H' := Aside0.mk H
                    clear H
                    have hnb84 := NB558_551.out
                    have hnc84 := NB551_558.out
                    have hcz85_0 : wc.cell? ⟨gb558, 0, none⟩ = some (.slice Ao13 t552.length co13) := (blk_cell BK558.out 0).trans rfl
                    have hcz85_1 : wc.cell? ⟨gb558, 1, none⟩ = some (.slice Ao16 t555.length co16) := (blk_cell BK558.out 1).trans rfl
                    have hfz85_0 := blk_frozen BK558.out 0
                    have hfz85_1 := blk_frozen BK558.out 1
                    go_wp2
                    go_roundg kj61
                    case measure => have := HJ7.out; have := HK2.out; have := HJ41.out; have := HJ45.out; have := HJ61.out; omega
                    case rel => exact ⟨(Go.bits .or .i64 x14_2 t594), (wrap64 (x16_2 + 1)), (by first | rfl | (simp; done) | (simp [*]; done)), (by first | rfl | (simp; done) | (simp [*]; done)), H', ⟨by have := HJ7.out; have := HK2.out; have := HJ41.out; have := HJ45.out; have := HJ61.out; omega⟩, ⟨by (with_reducible repeat (first | apply Kd.V_alloc | apply Kd.V_drewN | apply Kd.V_drew)); exact HO_6.out⟩, ⟨by (with_reducible repeat (first | apply Kd.V_alloc | apply Kd.V_drewN | apply Kd.V_drew)); exact HO_7.out⟩, ⟨by (with_reducible repeat (first | apply Kd.V_alloc | apply Kd.V_drewN | apply Kd.V_drew)); exact HO_9.out⟩, ⟨by (with_reducible repeat (first | apply Kd.V_alloc | apply Kd.V_drewN | apply Kd.V_drew)); exact HO_11.out⟩, ⟨by (with_reducible repeat (first | apply Kd.N_alloc | apply Kd.N_drewN | apply Kd.N_drew)); exact HO_15.out⟩, ⟨by (with_reducible repeat (first | apply Kd.N_alloc | apply Kd.N_drewN | apply Kd.N_drew)); exact HO_559000.out⟩, ⟨by (with_reducible repeat (first | apply Kd.N_alloc | apply Kd.N_drewN | apply Kd.N_drew)); exact HO_559001.out⟩, ⟨by (with_reducible repeat (first | refine blk_drewN ?_ _ | refine blk_drew ?_ | refine blk_alloc ?_ _)); exact BK551.out⟩, ⟨by (with_reducible repeat (first | refine blk_drewN ?_ _ | refine blk_drew ?_ | refine blk_alloc ?_ _)); exact BK558.out⟩, ⟨by repeat (first | (with_reducible first | exact HB.out | apply below_alloc | apply pw_below_drewN | apply below_drew1 | refine below_set ?_ GE551.out | refine below_set ?_ GE558.out) | exact HB.out)⟩⟩
                   ·
                    rw [if_neg c83] at H
                    have c83b0 : decide ((t552.length : Int) ≤ x16_2) = false := decide_eq_false c83
                    clear c83
                    have H' := Aside0.mk H
                    clear H
                    have hnb86 := NB558_551.out
                    have hnc86 := NB551_558.out
                    have hcz87_0 : wc.cell? ⟨gb558, 0, none⟩ = some (.slice Ao13 t552.length co13) := (blk_cell BK558.out 0).trans rfl
                    have hcz87_1 : wc.cell? ⟨gb558, 1, none⟩ = some (.slice Ao16 t555.length co16) := (blk_cell BK558.out 1).trans rfl
                    have hfz87_0 := blk_frozen BK558.out 0
                    have hfz87_1 := blk_frozen BK558.out 1
                    go_wp2
                    go_roundg kj61
                    case measure => have := HJ7.out; have := HK2.out; have := HJ41.out; have := HJ45.out; have := HJ61.out; omega
                    case rel => exact ⟨(x14_2), (wrap64 (x16_2 + 1)), (by first | rfl | (simp; done) | (simp [*]; done)), (by first | rfl | (simp; done) | (simp [*]; done)), H', ⟨by have := HJ7.out; have := HK2.out; have := HJ41.out; have := HJ45.out; have := HJ61.out; omega⟩, ⟨by (with_reducible repeat (first | apply Kd.V_alloc | apply Kd.V_drewN | apply Kd.V_drew)); exact HO_6.out⟩, ⟨by (with_reducible repeat (first | apply Kd.V_alloc | apply Kd.V_drewN | apply Kd.V_drew)); exact HO_7.out⟩, ⟨by (with_reducible repeat (first | apply Kd.V_alloc | apply Kd.V_drewN | apply Kd.V_drew)); exact HO_9.out⟩, ⟨by (with_reducible repeat (first | apply Kd.V_alloc | apply Kd.V_drewN | apply Kd.V_drew)); exact HO_11.out⟩, ⟨by (with_reducible repeat (first | apply Kd.N_alloc | apply Kd.N_drewN | apply Kd.N_drew)); exact HO_15.out⟩, ⟨by (with_reducible repeat (first | apply Kd.N_alloc | apply Kd.N_drewN | apply Kd.N_drew)); exact HO_559000.out⟩, ⟨by (with_reducible repeat (first | apply Kd.N_alloc | apply Kd.N_drewN | apply Kd.N_drew)); exact HO_559001.out⟩, ⟨by (with_reducible repeat (first | refine blk_drewN ?_ _ | refine blk_drew ?_ | refine blk_alloc ?_ _)); exact BK551.out⟩, ⟨by (with_reducible repeat (first | refine blk_drewN ?_ _ | refine blk_drew ?_ | refine blk_alloc ?_ _)); exact BK558.out⟩, ⟨by repeat (first | (with_reducible first | exact HB.out | apply below_alloc | apply pw_below_drewN | apply below_drew1 | refine below_set ?_ GE551.out | refine below_set ?_ GE558.out) | exact HB.out)⟩⟩
               ·
                rw [if_neg c59] at H
                exact absurd H (by simp)
              ·
               rw [if_neg c58] at H
               exact absurd H (by simp)
             ·
              rw [if_neg c57] at H
              exact absurd H (by simp)
        ·
         rw [if_neg c41] at H
         have c41b0 : decide (x16_2 < (wrap64 ((t552.length : Int) + (t555.length : Int)))) = false := decide_eq_false c41
         clear c41
         obtain ⟨ji88, hji88⟩ : ∃ j_ : Int, (shl .i64 1 (t570.length : Int)) = j_ := ⟨_, rfl⟩
         replace H : (some (x14_2 == (wrap64 ((ji88) - 1)))) = some r := by first | (rw [hji88] at H; exact H) | (simp only [hji88] at H ⊢; exact H)
         have hji88_ : (IntKind.i64.wrap (1 * 2 ^ min (t570.length : Int).toNat 64)) = ji88 := hji88
         have hji88z : (t570.length : Int) ≤ 64 → (IntKind.i64.wrap (1 * 2 ^ (t570.length : Int).toNat)) = ji88 := shl_small hji88
         have hji88p : (IntKind.i64.wrap (1 * 2 ^ min t570.length 64)) = ji88 := hji88_
         have hji88q : (t570.length : Int) ≤ 64 → (IntKind.i64.wrap (1 * 2 ^ t570.length)) = ji88 := hji88z
         have hji88r : (IntKind.i64.wrap (2 ^ min t570.length 64)) = ji88 := by have h_ := hji88p; rw [Int.one_mul] at h_; exact h_
         have hji88s : (t570.length : Int) ≤ 64 → (IntKind.i64.wrap (2 ^ t570.length)) = ji88 := fun hle_ => by have h_ := hji88q hle_; rw [Int.one_mul] at h_; exact h_
         have hji88u : (IntKind.i64.wrap (2 ^ min (t570.length : Int).toNat 64)) = ji88 := by have h_ := hji88_; rw [Int.one_mul] at h_; exact h_
         have hji88v : (t570.length : Int) ≤ 64 → (IntKind.i64.wrap (2 ^ (t570.length : Int).toNat)) = ji88 := fun hle_ => by have h_ := hji88z hle_; rw [Int.one_mul] at h_; exact h_
         have hji88y : (wrap64 (1 * 2 ^ min (t570.length : Int).toNat 64)) = ji88 := (i64_w _).symm.trans hji88_
         have hji88x : (t570.length : Int) ≤ 64 → (wrap64 (1 * 2 ^ (t570.length : Int).toNat)) = ji88 := fun h_ => (i64_w _).symm.trans (hji88z h_)
         obtain rfl := Option.some.inj H
         go_wp2
         go_ret
         exact ⟨by first | rfl | (simp [errW_none, errW_some] <;> rfl) | (simp only [← hji88]; first | rfl | (simp [errW_none, errW_some] <;> rfl)) | (simp [*, errW_none, errW_some] <;> rfl), by repeat (first | (with_reducible first | exact HB.out | apply below_alloc | apply pw_below_drewN | apply below_drew1 | refine below_set ?_ GE551.out | refine below_set ?_ GE558.out) | exact HB.out)⟩
     ·
      rw [if_neg c34] at H
      exact absurd H (by simp)
    ·
     rw [if_neg c33] at H
     exact absurd H (by simp)

end Go.Proofs.YtcoaeefmmnohkaaDoor.P
