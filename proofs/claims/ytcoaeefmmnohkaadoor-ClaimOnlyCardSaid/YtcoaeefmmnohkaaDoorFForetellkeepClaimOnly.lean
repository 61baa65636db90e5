-- a walk, laid out by a program of this repo over the seat's translation
import Derived.Test.YtcoaeefmmnohkaaDoorF0
import Derived.Test.YtcoaeefmmnohkaaDoorFGrown
import Derived.Test.YtcoaeefmmnohkaaDoorFForm
import Derived.Test.YtcoaeefmmnohkaaDoorFLogic
import Derived.Test.YtcoaeefmmnohkaaDoorFSpell
import Derived.Test.YtcoaeefmmnohkaaDoorFLogicMeets
import Derived.Test.YtcoaeefmmnohkaaDoorFWordClaims
import Derived.Test.YtcoaeefmmnohkaaDoorFLogicFollows
namespace Go.Proofs.YtcoaeefmmnohkaaDoor.P
open Go.RowKit Go.Proofs.YtcoaeefmmnohkaaDoorW.PrintWords Go.Proofs.YtcoaeefmmnohkaaDoorW.PrintLast Go.Proofs.YtcoaeefmmnohkaaDoorW.PrintMore Go.Proofs.YtcoaeefmmnohkaaDoor.G
attribute [local go_sem] max2_int min2_int max_two min_two max_three min_three max_four min_four   -- for this text's walks alone
set_option linter.unusedVariables false
set_option linter.unusedSimpArgs false

/-! ### foretellkeep_ClaimOnly: function 13 -/
mutual
def foretellkeep_ClaimOnly.j0 : Nat → List Int → List (S51) → List Int → List Int → Int → Bool → List (List Bool) → List (List Bool) → Option (Bool)
 | 0, _, _, _, _, _, _, _, _ => none
 | k + 1, x2, x8, x9, x11, x13, x59, x479000, x479001 => if x59 = true then (some false) else (if ([] : List (List Bool)).length + x479000.length < 5864062014805 then ((some (([] : List (List Bool)) ++ x479000 : List (List Bool))).bind fun y490 => (if y490.length + x479001.length < 5864062014805 then (if ([] : List Int).length + x9.length < 17592186044416 then (foretellkeep_ClaimOnly.l0 k x2 x8 x9 x11 x13 (y490 ++ x479001) (([] : List Int) ++ x9) false 0 x479000 x479001) else (none)) else (none))) else (none))
def foretellkeep_ClaimOnly.j3 : Nat → List (S51) → List Int → Int → List (List Bool) → List Int → Bool → List (List Bool) → List (List Bool) → Option (Bool)
 | 0, _, _, _, _, _, _, _, _ => none
 | k + 1, x8, x11, x13, x14, x15, x16, x479000, x479001 => foretellkeep_ClaimOnly.l1 k x8 x11 x13 x14 x15 x16 0 true 0 x479000 x479001
def foretellkeep_ClaimOnly.l1 : Nat → List (S51) → List Int → Int → List (List Bool) → List Int → Bool → Int → Bool → Int → List (List Bool) → List (List Bool) → Option (Bool)
 | 0, _, _, _, _, _, _, _, _, _, _, _ => none
 | k + 1, x8, x11, x13, x14, x15, x16, x18, x19, x20, x479000, x479001 => if x20 < x13 then (if (wrap64 (x20 + 1)) = x13 then (foretellkeep_ClaimOnly.j5 k x8 x11 x13 x14 x15 x16 x18 x19 x20 (x479000.length : Int) x479000 x479001) else (foretellkeep_ClaimOnly.j5 k x8 x11 x13 x14 x15 x16 x18 x19 x20 (wrap64 (x20 + 1)) x479000 x479001)) else (if x19 = true then (some ((x18 == (wrap64 ((shl .i64 1 (x11.length : Int)) - 1))) == (!x16))) else (some (false == (!x16))))
def foretellkeep_ClaimOnly.j5 : Nat → List (S51) → List Int → Int → List (List Bool) → List Int → Bool → Int → Bool → Int → Int → List (List Bool) → List (List Bool) → Option (Bool)
 | 0, _, _, _, _, _, _, _, _, _, _, _, _ => none
 | k + 1, x8, x11, x13, x14, x15, x16, x18, x19, x20, x21, x479000, x479001 => if 0 ≤ x20 then (if x20 < (x14.length : Int) then (if x20 < (x15.length : Int) then (if 0 ≤ x21 then (if x21 < (x14.length : Int) then (if x21 < (x15.length : Int) then ((logic_Follows.f k x8 (rd_L7 x14 x20) (rd x15 x20) (rd_L7 x14 x21) (rd x15 x21)).bind fun bt508 => ((logic_Meets.f k x8 (rd_L7 x14 x20) (rd x15 x20)).bind fun bt512 => (if bt508.2 = 0 then (foretellkeep_ClaimOnly.j6 k x8 x11 x13 x14 x15 x16 x18 x19 x20 bt508.1 bt512.1 (bt512.2 != 0) x479000 x479001) else (foretellkeep_ClaimOnly.j6 k x8 x11 x13 x14 x15 x16 x18 x19 x20 bt508.1 bt512.1 true x479000 x479001)))) else (none)) else (none)) else (none)) else (none)) else (none)) else (none)
def foretellkeep_ClaimOnly.j6 : Nat → List (S51) → List Int → Int → List (List Bool) → List Int → Bool → Int → Bool → Int → Bool → Int → Bool → List (List Bool) → List (List Bool) → Option (Bool)
 | 0, _, _, _, _, _, _, _, _, _, _, _, _, _, _ => none
 | k + 1, x8, x11, x13, x14, x15, x16, x18, x19, x20, x22, x24, x154, x479000, x479001 => if x154 = true then (some false) else (if x19 = true then (if x20 ≥ (x479000.length : Int) then (foretellkeep_ClaimOnly.l1 k x8 x11 x13 x14 x15 x16 (Go.bits .or .i64 x18 x24) x22 (wrap64 (x20 + 1)) x479000 x479001) else (foretellkeep_ClaimOnly.l1 k x8 x11 x13 x14 x15 x16 x18 x22 (wrap64 (x20 + 1)) x479000 x479001)) else (if x20 ≥ (x479000.length : Int) then (foretellkeep_ClaimOnly.l1 k x8 x11 x13 x14 x15 x16 (Go.bits .or .i64 x18 x24) false (wrap64 (x20 + 1)) x479000 x479001) else (foretellkeep_ClaimOnly.l1 k x8 x11 x13 x14 x15 x16 x18 false (wrap64 (x20 + 1)) x479000 x479001)))
def foretellkeep_ClaimOnly.l0 : Nat → List Int → List (S51) → List Int → List Int → Int → List (List Bool) → List Int → Bool → Int → List (List Bool) → List (List Bool) → Option (Bool)
 | 0, _, _, _, _, _, _, _, _, _, _, _ => none
 | k + 1, x2, x8, x9, x11, x13, x14, x15, x16, x17, x479000, x479001 => if x17 < x13 then (if x17 < (x2.length : Int) then (if 0 ≤ x17 then ((foretellkeep_picked.f (rd x2 x17) (shl .i64 1 (x11.length : Int))).bind fun t500 => (if x17 < (x15.length : Int) then (foretellkeep_ClaimOnly.j2 k x2 x8 x9 x11 x13 x14 (x15.set (x17 : Int).toNat t500) x16 x17 x479000 x479001) else (none))) else (none)) else (foretellkeep_ClaimOnly.j3 k x8 x11 x13 x14 x15 x16 x479000 x479001)) else (foretellkeep_ClaimOnly.j3 k x8 x11 x13 x14 x15 x16 x479000 x479001)
def foretellkeep_ClaimOnly.j2 : Nat → List Int → List (S51) → List Int → List Int → Int → List (List Bool) → List Int → Bool → Int → List (List Bool) → List (List Bool) → Option (Bool)
 | 0, _, _, _, _, _, _, _, _, _, _, _ => none
 | k + 1, x2, x8, x9, x11, x13, x14, x15, x16, x17, x479000, x479001 => if x16 = true then (foretellkeep_ClaimOnly.l0 k x2 x8 x9 x11 x13 x14 x15 true (wrap64 (x17 + 1)) x479000 x479001) else (if 0 ≤ x17 then (if x17 < (x15.length : Int) then (if x17 < (x9.length : Int) then (foretellkeep_ClaimOnly.l0 k x2 x8 x9 x11 x13 x14 x15 ((rd x15 x17) != (rd x9 x17)) (wrap64 (x17 + 1)) x479000 x479001) else (none)) else (none)) else (none))
end
def foretellkeep_ClaimOnly.f (k : Nat) (l0 : List (S79)) (l1_0 : List Int) (l1_1 : List Int) (l2 : List Int) : Option (Bool) := (foretellkeep_Word.f k l1_0 l1_1).bind fun bt472 => ((foretellkeep_Formula.f k l0 3 3).bind fun t479 => ((word_Claims.f k t479 bt472.1 bt472.2 3).bind fun bt482 => ((logic_Ahead.f k t479 3).bind fun bt486 => (if bt482.2 = 0 then (if bt486.2 = 0 then (foretellkeep_ClaimOnly.j0 k l2 t479 bt482.1 bt486.1 (wrap64 ((bt472.1.length : Int) + (bt472.2.length : Int))) ((bt482.1.length : Int) != (wrap64 ((bt472.1.length : Int) + (bt472.2.length : Int)))) bt472.1 bt472.2) else (foretellkeep_ClaimOnly.j0 k l2 t479 bt482.1 bt486.1 (wrap64 ((bt472.1.length : Int) + (bt472.2.length : Int))) true bt472.1 bt472.2)) else (foretellkeep_ClaimOnly.j0 k l2 t479 bt482.1 bt486.1 (wrap64 ((bt472.1.length : Int) + (bt472.2.length : Int))) true bt472.1 bt472.2)))))
theorem foretellkeep_ClaimOnly.mono_l : ∀ k, (∀ y0 y1 y2 y3 y4 y5 y6 y7, LeO (foretellkeep_ClaimOnly.j0 k y0 y1 y2 y3 y4 y5 y6 y7) (foretellkeep_ClaimOnly.j0 (k + 1) y0 y1 y2 y3 y4 y5 y6 y7)) ∧ (∀ y0 y1 y2 y3 y4 y5 y6 y7, LeO (foretellkeep_ClaimOnly.j3 k y0 y1 y2 y3 y4 y5 y6 y7) (foretellkeep_ClaimOnly.j3 (k + 1) y0 y1 y2 y3 y4 y5 y6 y7)) ∧ (∀ y0 y1 y2 y3 y4 y5 y6 y7 y8 y9 y10, LeO (foretellkeep_ClaimOnly.l1 k y0 y1 y2 y3 y4 y5 y6 y7 y8 y9 y10) (foretellkeep_ClaimOnly.l1 (k + 1) y0 y1 y2 y3 y4 y5 y6 y7 y8 y9 y10)) ∧ (∀ y0 y1 y2 y3 y4 y5 y6 y7 y8 y9 y10 y11, LeO (foretellkeep_ClaimOnly.j5 k y0 y1 y2 y3 y4 y5 y6 y7 y8 y9 y10 y11) (foretellkeep_ClaimOnly.j5 (k + 1) y0 y1 y2 y3 y4 y5 y6 y7 y8 y9 y10 y11)) ∧ (∀ y0 y1 y2 y3 y4 y5 y6 y7 y8 y9 y10 y11 y12 y13, LeO (foretellkeep_ClaimOnly.j6 k y0 y1 y2 y3 y4 y5 y6 y7 y8 y9 y10 y11 y12 y13) (foretellkeep_ClaimOnly.j6 (k + 1) y0 y1 y2 y3 y4 y5 y6 y7 y8 y9 y10 y11 y12 y13)) ∧ (∀ y0 y1 y2 y3 y4 y5 y6 y7 y8 y9 y10, LeO (foretellkeep_ClaimOnly.l0 k y0 y1 y2 y3 y4 y5 y6 y7 y8 y9 y10) (foretellkeep_ClaimOnly.l0 (k + 1) y0 y1 y2 y3 y4 y5 y6 y7 y8 y9 y10)) ∧ (∀ y0 y1 y2 y3 y4 y5 y6 y7 y8 y9 y10, LeO (foretellkeep_ClaimOnly.j2 k y0 y1 y2 y3 y4 y5 y6 y7 y8 y9 y10) (foretellkeep_ClaimOnly.j2 (k + 1) y0 y1 y2 y3 y4 y5 y6 y7 y8 y9 y10))
 | 0 => ⟨fun _ _ _ _ _ _ _ _ r h => by simp [foretellkeep_ClaimOnly.j0] at h, fun _ _ _ _ _ _ _ _ r h => by simp [foretellkeep_ClaimOnly.j3] at h, fun _ _ _ _ _ _ _ _ _ _ _ r h => by simp [foretellkeep_ClaimOnly.l1] at h, fun _ _ _ _ _ _ _ _ _ _ _ _ r h => by simp [foretellkeep_ClaimOnly.j5] at h, fun _ _ _ _ _ _ _ _ _ _ _ _ _ _ r h => by simp [foretellkeep_ClaimOnly.j6] at h, fun _ _ _ _ _ _ _ _ _ _ _ r h => by simp [foretellkeep_ClaimOnly.l0] at h, fun _ _ _ _ _ _ _ _ _ _ _ r h => by simp [foretellkeep_ClaimOnly.j2] at h⟩
 | k + 1 => by
  obtain ⟨ih0, ih1, ih2, ih3, ih4, ih5, ih6⟩ := foretellkeep_ClaimOnly.mono_l k
  refine ⟨?_, ?_, ?_, ?_, ?_, ?_, ?_⟩
  ·
   intro y0 y1 y2 y3 y4 y5 y6 y7
   unfold foretellkeep_ClaimOnly.j0
   repeat' first
   | (with_reducible exact ih0 _ _ _ _ _ _ _ _)
   | (with_reducible exact ih1 _ _ _ _ _ _ _ _)
   | (with_reducible exact ih2 _ _ _ _ _ _ _ _ _ _ _)
   | (with_reducible exact ih3 _ _ _ _ _ _ _ _ _ _ _ _)
   | (with_reducible exact ih4 _ _ _ _ _ _ _ _ _ _ _ _ _ _)
   | (with_reducible exact ih5 _ _ _ _ _ _ _ _ _ _ _)
   | (with_reducible exact ih6 _ _ _ _ _ _ _ _ _ _ _)
   | (with_reducible exact foretellkeep_Formula.mono _ _ _ _)
   | (with_reducible exact foretellkeep_Word.mono _ _ _)
   | (with_reducible exact logic_Ahead.mono _ _ _)
   | (with_reducible exact logic_Follows.mono _ _ _ _ _ _)
   | (with_reducible exact logic_Meets.mono _ _ _ _)
   | (with_reducible exact word_Claims.mono _ _ _ _ _)
   | (with_reducible exact LeO.refl _)
   | (with_reducible exact LeO.none _)
   | (with_reducible refine LeO.ite ?_ ?_)
   | (with_reducible refine LeO.bind ?_ (fun _ => ?_))
   | exact ih0 _ _ _ _ _ _ _ _
   | exact ih1 _ _ _ _ _ _ _ _
   | exact ih2 _ _ _ _ _ _ _ _ _ _ _
   | exact ih3 _ _ _ _ _ _ _ _ _ _ _ _
   | exact ih4 _ _ _ _ _ _ _ _ _ _ _ _ _ _
   | exact ih5 _ _ _ _ _ _ _ _ _ _ _
   | exact ih6 _ _ _ _ _ _ _ _ _ _ _
   | exact foretellkeep_Formula.mono _ _ _ _
   | exact foretellkeep_Word.mono _ _ _
   | exact logic_Ahead.mono _ _ _
   | exact logic_Follows.mono _ _ _ _ _ _
   | exact logic_Meets.mono _ _ _ _
   | exact word_Claims.mono _ _ _ _ _
   | exact LeO.none _
   | refine LeO.ite ?_ ?_
   | refine LeO.bind ?_ (fun _ => ?_)
  ·
   intro y0 y1 y2 y3 y4 y5 y6 y7
   unfold foretellkeep_ClaimOnly.j3
   repeat' first
   | (with_reducible exact ih0 _ _ _ _ _ _ _ _)
   | (with_reducible exact ih1 _ _ _ _ _ _ _ _)
   | (with_reducible exact ih2 _ _ _ _ _ _ _ _ _ _ _)
   | (with_reducible exact ih3 _ _ _ _ _ _ _ _ _ _ _ _)
   | (with_reducible exact ih4 _ _ _ _ _ _ _ _ _ _ _ _ _ _)
   | (with_reducible exact ih5 _ _ _ _ _ _ _ _ _ _ _)
   | (with_reducible exact ih6 _ _ _ _ _ _ _ _ _ _ _)
   | (with_reducible exact foretellkeep_Formula.mono _ _ _ _)
   | (with_reducible exact foretellkeep_Word.mono _ _ _)
   | (with_reducible exact logic_Ahead.mono _ _ _)
   | (with_reducible exact logic_Follows.mono _ _ _ _ _ _)
   | (with_reducible exact logic_Meets.mono _ _ _ _)
   | (with_reducible exact word_Claims.mono _ _ _ _ _)
   | (with_reducible exact LeO.refl _)
   | (with_reducible exact LeO.none _)
   | (with_reducible refine LeO.ite ?_ ?_)
   | (with_reducible refine LeO.bind ?_ (fun _ => ?_))
   | exact ih0 _ _ _ _ _ _ _ _
   | exact ih1 _ _ _ _ _ _ _ _
   | exact ih2 _ _ _ _ _ _ _ _ _ _ _
   | exact ih3 _ _ _ _ _ _ _ _ _ _ _ _
   | exact ih4 _ _ _ _ _ _ _ _ _ _ _ _ _ _
   | exact ih5 _ _ _ _ _ _ _ _ _ _ _
   | exact ih6 _ _ _ _ _ _ _ _ _ _ _
   | exact foretellkeep_Formula.mono _ _ _ _
   | exact foretellkeep_Word.mono _ _ _
   | exact logic_Ahead.mono _ _ _
   | exact logic_Follows.mono _ _ _ _ _ _
   | exact logic_Meets.mono _ _ _ _
   | exact word_Claims.mono _ _ _ _ _
   | exact LeO.none _
   | refine LeO.ite ?_ ?_
   | refine LeO.bind ?_ (fun _ => ?_)
  ·
   intro y0 y1 y2 y3 y4 y5 y6 y7 y8 y9 y10
   unfold foretellkeep_ClaimOnly.l1
   repeat' first
   | (with_reducible exact ih0 _ _ _ _ _ _ _ _)
   | (with_reducible exact ih1 _ _ _ _ _ _ _ _)
   | (with_reducible exact ih2 _ _ _ _ _ _ _ _ _ _ _)
   | (with_reducible exact ih3 _ _ _ _ _ _ _ _ _ _ _ _)
   | (with_reducible exact ih4 _ _ _ _ _ _ _ _ _ _ _ _ _ _)
   | (with_reducible exact ih5 _ _ _ _ _ _ _ _ _ _ _)
   | (with_reducible exact ih6 _ _ _ _ _ _ _ _ _ _ _)
   | (with_reducible exact foretellkeep_Formula.mono _ _ _ _)
   | (with_reducible exact foretellkeep_Word.mono _ _ _)
   | (with_reducible exact logic_Ahead.mono _ _ _)
   | (with_reducible exact logic_Follows.mono _ _ _ _ _ _)
   | (with_reducible exact logic_Meets.mono _ _ _ _)
   | (with_reducible exact word_Claims.mono _ _ _ _ _)
   | (with_reducible exact LeO.refl _)
   | (with_reducible exact LeO.none _)
   | (with_reducible refine LeO.ite ?_ ?_)
   | (with_reducible refine LeO.bind ?_ (fun _ => ?_))
   | exact ih0 _ _ _ _ _ _ _ _
   | exact ih1 _ _ _ _ _ _ _ _
   | exact ih2 _ _ _ _ _ _ _ _ _ _ _
   | exact ih3 _ _ _ _ _ _ _ _ _ _ _ _
   | exact ih4 _ _ _ _ _ _ _ _ _ _ _ _ _ _
   | exact ih5 _ _ _ _ _ _ _ _ _ _ _
   | exact ih6 _ _ _ _ _ _ _ _ _ _ _
   | exact foretellkeep_Formula.mono _ _ _ _
   | exact foretellkeep_Word.mono _ _ _
   | exact logic_Ahead.mono _ _ _
   | exact logic_Follows.mono _ _ _ _ _ _
   | exact logic_Meets.mono _ _ _ _
   | exact word_Claims.mono _ _ _ _ _
   | exact LeO.none _
   | refine LeO.ite ?_ ?_
   | refine LeO.bind ?_ (fun _ => ?_)
  ·
   intro y0 y1 y2 y3 y4 y5 y6 y7 y8 y9 y10 y11
   unfold foretellkeep_ClaimOnly.j5
   repeat' first
   | (with_reducible exact ih0 _ _ _ _ _ _ _ _)
   | (with_reducible exact ih1 _ _ _ _ _ _ _ _)
   | (with_reducible exact ih2 _ _ _ _ _ _ _ _ _ _ _)
   | (with_reducible exact ih3 _ _ _ _ _ _ _ _ _ _ _ _)
   | (with_reducible exact ih4 _ _ _ _ _ _ _ _ _ _ _ _ _ _)
   | (with_reducible exact ih5 _ _ _ _ _ _ _ _ _ _ _)
   | (with_reducible exact ih6 _ _ _ _ _ _ _ _ _ _ _)
   | (with_reducible exact foretellkeep_Formula.mono _ _ _ _)
   | (with_reducible exact foretellkeep_Word.mono _ _ _)
   | (with_reducible exact logic_Ahead.mono _ _ _)
   | (with_reducible exact logic_Follows.mono _ _ _ _ _ _)
   | (with_reducible exact logic_Meets.mono _ _ _ _)
   | (with_reducible exact word_Claims.mono _ _ _ _ _)
   | (with_reducible exact LeO.refl _)
   | (with_reducible exact LeO.none _)
   | (with_reducible refine LeO.ite ?_ ?_)
   | (with_reducible refine LeO.bind ?_ (fun _ => ?_))
   | exact ih0 _ _ _ _ _ _ _ _
   | exact ih1 _ _ _ _ _ _ _ _
   | exact ih2 _ _ _ _ _ _ _ _ _ _ _
   | exact ih3 _ _ _ _ _ _ _ _ _ _ _ _
   | exact ih4 _ _ _ _ _ _ _ _ _ _ _ _ _ _
   | exact ih5 _ _ _ _ _ _ _ _ _ _ _
   | exact ih6 _ _ _ _ _ _ _ _ _ _ _
   | exact foretellkeep_Formula.mono _ _ _ _
   | exact foretellkeep_Word.mono _ _ _
   | exact logic_Ahead.mono _ _ _
   | exact logic_Follows.mono _ _ _ _ _ _
   | exact logic_Meets.mono _ _ _ _
   | exact word_Claims.mono _ _ _ _ _
   | exact LeO.none _
   | refine LeO.ite ?_ ?_
   | refine LeO.bind ?_ (fun _ => ?_)
  ·
   intro y0 y1 y2 y3 y4 y5 y6 y7 y8 y9 y10 y11 y12 y13
   unfold foretellkeep_ClaimOnly.j6
   repeat' first
   | (with_reducible exact ih0 _ _ _ _ _ _ _ _)
   | (with_reducible exact ih1 _ _ _ _ _ _ _ _)
   | (with_reducible exact ih2 _ _ _ _ _ _ _ _ _ _ _)
   | (with_reducible exact ih3 _ _ _ _ _ _ _ _ _ _ _ _)
   | (with_reducible exact ih4 _ _ _ _ _ _ _ _ _ _ _ _ _ _)
   | (with_reducible exact ih5 _ _ _ _ _ _ _ _ _ _ _)
   | (with_reducible exact ih6 _ _ _ _ _ _ _ _ _ _ _)
   | (with_reducible exact foretellkeep_Formula.mono _ _ _ _)
   | (with_reducible exact foretellkeep_Word.mono _ _ _)
   | (with_reducible exact logic_Ahead.mono _ _ _)
   | (with_reducible exact logic_Follows.mono _ _ _ _ _ _)
   | (with_reducible exact logic_Meets.mono _ _ _ _)
   | (with_reducible exact word_Claims.mono _ _ _ _ _)
   | (with_reducible exact LeO.refl _)
   | (with_reducible exact LeO.none _)
   | (with_reducible refine LeO.ite ?_ ?_)
   | (with_reducible refine LeO.bind ?_ (fun _ => ?_))
   | exact ih0 _ _ _ _ _ _ _ _
   | exact ih1 _ _ _ _ _ _ _ _
   | exact ih2 _ _ _ _ _ _ _ _ _ _ _
   | exact ih3 _ _ _ _ _ _ _ _ _ _ _ _
   | exact ih4 _ _ _ _ _ _ _ _ _ _ _ _ _ _
   | exact ih5 _ _ _ _ _ _ _ _ _ _ _
   | exact ih6 _ _ _ _ _ _ _ _ _ _ _
   | exact foretellkeep_Formula.mono _ _ _ _
   | exact foretellkeep_Word.mono _ _ _
   | exact logic_Ahead.mono _ _ _
   | exact logic_Follows.mono _ _ _ _ _ _
   | exact logic_Meets.mono _ _ _ _
   | exact word_Claims.mono _ _ _ _ _
   | exact LeO.none _
   | refine LeO.ite ?_ ?_
   | refine LeO.bind ?_ (fun _ => ?_)
  ·
   intro y0 y1 y2 y3 y4 y5 y6 y7 y8 y9 y10
   unfold foretellkeep_ClaimOnly.l0
   repeat' first
   | (with_reducible exact ih0 _ _ _ _ _ _ _ _)
   | (with_reducible exact ih1 _ _ _ _ _ _ _ _)
   | (with_reducible exact ih2 _ _ _ _ _ _ _ _ _ _ _)
   | (with_reducible exact ih3 _ _ _ _ _ _ _ _ _ _ _ _)
   | (with_reducible exact ih4 _ _ _ _ _ _ _ _ _ _ _ _ _ _)
   | (with_reducible exact ih5 _ _ _ _ _ _ _ _ _ _ _)
   | (with_reducible exact ih6 _ _ _ _ _ _ _ _ _ _ _)
   | (with_reducible exact foretellkeep_Formula.mono _ _ _ _)
   | (with_reducible exact foretellkeep_Word.mono _ _ _)
   | (with_reducible exact logic_Ahead.mono _ _ _)
   | (with_reducible exact logic_Follows.mono _ _ _ _ _ _)
   | (with_reducible exact logic_Meets.mono _ _ _ _)
   | (with_reducible exact word_Claims.mono _ _ _ _ _)
   | (with_reducible exact LeO.refl _)
   | (with_reducible exact LeO.none _)
   | (with_reducible refine LeO.ite ?_ ?_)
   | (with_reducible refine LeO.bind ?_ (fun _ => ?_))
   | exact ih0 _ _ _ _ _ _ _ _
   | exact ih1 _ _ _ _ _ _ _ _
   | exact ih2 _ _ _ _ _ _ _ _ _ _ _
   | exact ih3 _ _ _ _ _ _ _ _ _ _ _ _
   | exact ih4 _ _ _ _ _ _ _ _ _ _ _ _ _ _
   | exact ih5 _ _ _ _ _ _ _ _ _ _ _
   | exact ih6 _ _ _ _ _ _ _ _ _ _ _
   | exact foretellkeep_Formula.mono _ _ _ _
   | exact foretellkeep_Word.mono _ _ _
   | exact logic_Ahead.mono _ _ _
   | exact logic_Follows.mono _ _ _ _ _ _
   | exact logic_Meets.mono _ _ _ _
   | exact word_Claims.mono _ _ _ _ _
   | exact LeO.none _
   | refine LeO.ite ?_ ?_
   | refine LeO.bind ?_ (fun _ => ?_)
  ·
   intro y0 y1 y2 y3 y4 y5 y6 y7 y8 y9 y10
   unfold foretellkeep_ClaimOnly.j2
   repeat' first
   | (with_reducible exact ih0 _ _ _ _ _ _ _ _)
   | (with_reducible exact ih1 _ _ _ _ _ _ _ _)
   | (with_reducible exact ih2 _ _ _ _ _ _ _ _ _ _ _)
   | (with_reducible exact ih3 _ _ _ _ _ _ _ _ _ _ _ _)
   | (with_reducible exact ih4 _ _ _ _ _ _ _ _ _ _ _ _ _ _)
   | (with_reducible exact ih5 _ _ _ _ _ _ _ _ _ _ _)
   | (with_reducible exact ih6 _ _ _ _ _ _ _ _ _ _ _)
   | (with_reducible exact foretellkeep_Formula.mono _ _ _ _)
   | (with_reducible exact foretellkeep_Word.mono _ _ _)
   | (with_reducible exact logic_Ahead.mono _ _ _)
   | (with_reducible exact logic_Follows.mono _ _ _ _ _ _)
   | (with_reducible exact logic_Meets.mono _ _ _ _)
   | (with_reducible exact word_Claims.mono _ _ _ _ _)
   | (with_reducible exact LeO.refl _)
   | (with_reducible exact LeO.none _)
   | (with_reducible refine LeO.ite ?_ ?_)
   | (with_reducible refine LeO.bind ?_ (fun _ => ?_))
   | exact ih0 _ _ _ _ _ _ _ _
   | exact ih1 _ _ _ _ _ _ _ _
   | exact ih2 _ _ _ _ _ _ _ _ _ _ _
   | exact ih3 _ _ _ _ _ _ _ _ _ _ _ _
   | exact ih4 _ _ _ _ _ _ _ _ _ _ _ _ _ _
   | exact ih5 _ _ _ _ _ _ _ _ _ _ _
   | exact ih6 _ _ _ _ _ _ _ _ _ _ _
   | exact foretellkeep_Formula.mono _ _ _ _
   | exact foretellkeep_Word.mono _ _ _
   | exact logic_Ahead.mono _ _ _
   | exact logic_Follows.mono _ _ _ _ _ _
   | exact logic_Meets.mono _ _ _ _
   | exact word_Claims.mono _ _ _ _ _
   | exact LeO.none _
   | refine LeO.ite ?_ ?_
   | refine LeO.bind ?_ (fun _ => ?_)
theorem foretellkeep_ClaimOnly.mono : ∀ a0 a1 a2 a3 k, LeO (foretellkeep_ClaimOnly.f k a0 a1 a2 a3) (foretellkeep_ClaimOnly.f (k + 1) a0 a1 a2 a3) := by
 intro a0 a1 a2 a3 k
 obtain ⟨ih0, ih1, ih2, ih3, ih4, ih5, ih6⟩ := foretellkeep_ClaimOnly.mono_l k
 unfold foretellkeep_ClaimOnly.f
 repeat' first
   | (with_reducible exact ih0 _ _ _ _ _ _ _ _)
   | (with_reducible exact ih1 _ _ _ _ _ _ _ _)
   | (with_reducible exact ih2 _ _ _ _ _ _ _ _ _ _ _)
   | (with_reducible exact ih3 _ _ _ _ _ _ _ _ _ _ _ _)
   | (with_reducible exact ih4 _ _ _ _ _ _ _ _ _ _ _ _ _ _)
   | (with_reducible exact ih5 _ _ _ _ _ _ _ _ _ _ _)
   | (with_reducible exact ih6 _ _ _ _ _ _ _ _ _ _ _)
   | (with_reducible exact foretellkeep_Formula.mono _ _ _ _)
   | (with_reducible exact foretellkeep_Word.mono _ _ _)
   | (with_reducible exact logic_Ahead.mono _ _ _)
   | (with_reducible exact logic_Follows.mono _ _ _ _ _ _)
   | (with_reducible exact logic_Meets.mono _ _ _ _)
   | (with_reducible exact word_Claims.mono _ _ _ _ _)
   | (with_reducible exact LeO.refl _)
   | (with_reducible exact LeO.none _)
   | (with_reducible refine LeO.ite ?_ ?_)
   | (with_reducible refine LeO.bind ?_ (fun _ => ?_))
   | exact ih0 _ _ _ _ _ _ _ _
   | exact ih1 _ _ _ _ _ _ _ _
   | exact ih2 _ _ _ _ _ _ _ _ _ _ _
   | exact ih3 _ _ _ _ _ _ _ _ _ _ _ _
   | exact ih4 _ _ _ _ _ _ _ _ _ _ _ _ _ _
   | exact ih5 _ _ _ _ _ _ _ _ _ _ _
   | exact ih6 _ _ _ _ _ _ _ _ _ _ _
   | exact foretellkeep_Formula.mono _ _ _ _
   | exact foretellkeep_Word.mono _ _ _
   | exact logic_Ahead.mono _ _ _
   | exact logic_Follows.mono _ _ _ _ _ _
   | exact logic_Meets.mono _ _ _ _
   | exact word_Claims.mono _ _ _ _ _
   | exact LeO.none _
   | refine LeO.ite ?_ ?_
   | refine LeO.bind ?_ (fun _ => ?_)
def foretellkeep_ClaimOnly.T14 : Bool × List (List Nat × List Nat) := (true, [([], []), ([], []), ([], []), ([], []), ([2, 3], [2, 3]), ([4], [4]), ([], []), ([6], [6]), ([7], [7]), ([5, 8], [5, 8]), ([0, 1, 0, 1, 2, 3, 4, 5, 6, 7, 8, 9], [0, 1]), ([10, 9, 9, 0, 1, 2, 3, 4, 5, 6, 7, 8, 9], [9, 10])])
def foretellkeep_ClaimOnly.B14 : List Nat := [0, 0, 0, 0, 12, 28, 0, 64, 192, 508, 1023, 2047]
theorem foretellkeep_ClaimOnly.tab14 : rtab .any (opsOf Tryd.f13 14) = foretellkeep_ClaimOnly.T14 := by kernel_rfl
theorem foretellkeep_ClaimOnly.bits14 : waitsOk foretellkeep_ClaimOnly.T14.2 foretellkeep_ClaimOnly.B14 = true := by kernel_rfl
def foretellkeep_ClaimOnly.T15 : Bool × List (List Nat × List Nat) := (true, [([], []), ([0], [0]), ([1], [1]), ([1], [1]), ([2, 3, 1], [1, 2, 3]), ([4, 1], [1, 4]), ([1], [1]), ([1], [1]), ([6, 7, 1], [1, 6, 7]), ([8, 1], [1, 8]), ([5, 9, 1], [1, 5, 9]), ([1, 10], [1, 10]), ([11, 1, 0, 1, 2, 3, 4, 5, 6, 7, 8, 9, 10, 11], [0, 11])])
def foretellkeep_ClaimOnly.B15 : List Nat := [0, 1, 3, 3, 15, 31, 3, 3, 195, 451, 1023, 2047, 4095]
theorem foretellkeep_ClaimOnly.tab15 : rtab .any (opsOf Tryd.f13 15) = foretellkeep_ClaimOnly.T15 := by kernel_rfl
theorem foretellkeep_ClaimOnly.bits15 : waitsOk foretellkeep_ClaimOnly.T15.2 foretellkeep_ClaimOnly.B15 = true := by kernel_rfl
def foretellkeep_ClaimOnly.T24 : Bool × List (List Nat × List Nat) := (true, [([], []), ([], []), ([], []), ([1, 2], [1, 2]), ([3], [3]), ([], []), ([], []), ([5, 6], [5, 6]), ([7], [7]), ([], []), ([], []), ([9, 10], [9, 10]), ([11], [11]), ([], []), ([], []), ([13, 14], [13, 14]), ([15], [15]), ([0, 4, 8, 12, 16], [0, 4, 8, 12, 16]), ([17], [17]), ([18], [18]), ([18], [18]), ([19, 17, 0, 1, 2, 3, 4, 5, 6, 7, 8, 9, 10, 11, 12, 13, 14, 15, 16, 17, 18, 19], [19]), ([20, 21, 0, 1, 2, 3, 4, 5, 6, 7, 8, 9, 10, 11, 12, 13, 14, 15, 16, 17, 18, 19, 20, 21], [20])])
def foretellkeep_ClaimOnly.B24 : List Nat := [0, 0, 0, 6, 14, 0, 0, 96, 224, 0, 0, 1536, 3584, 0, 0, 24576, 57344, 131071, 262143, 524287, 524287, 1048575, 4194303]
theorem foretellkeep_ClaimOnly.tab24 : rtab .any (opsOf Tryd.f13 24) = foretellkeep_ClaimOnly.T24 := by kernel_rfl
theorem foretellkeep_ClaimOnly.bits24 : waitsOk foretellkeep_ClaimOnly.T24.2 foretellkeep_ClaimOnly.B24 = true := by kernel_rfl
def foretellkeep_ClaimOnly.T25 : Bool × List (List Nat × List Nat) := (true, [([], []), ([], []), ([], []), ([1, 2], [1, 2]), ([3], [3]), ([], []), ([], []), ([5, 6], [5, 6]), ([7], [7]), ([0, 4, 8], [0, 4, 8]), ([9], [9]), ([10], [10]), ([10], [10]), ([11, 9, 0, 1, 2, 3, 4, 5, 6, 7, 8, 9, 10, 11], [11]), ([12, 13, 0, 1, 2, 3, 4, 5, 6, 7, 8, 9, 10, 11, 12, 13], [12])])
def foretellkeep_ClaimOnly.B25 : List Nat := [0, 0, 0, 6, 14, 0, 0, 96, 224, 511, 1023, 2047, 2047, 4095, 16383]
theorem foretellkeep_ClaimOnly.tab25 : rtab .any (opsOf Tryd.f13 25) = foretellkeep_ClaimOnly.T25 := by kernel_rfl
theorem foretellkeep_ClaimOnly.bits25 : waitsOk foretellkeep_ClaimOnly.T25.2 foretellkeep_ClaimOnly.B25 = true := by kernel_rfl
set_option maxHeartbeats 8000000 in
set_option maxRecDepth 100000 in
theorem foretellkeep_ClaimOnly.calls (k : Nat) (A0 : Option Addr) (c0 : Nat) (l0 : List (S79)) (A1_0 : Option Addr) (c1_0 : Nat) (l1_0 : List Int) (A1_1 : Option Addr) (c1_1 : Nat) (l1_1 : List Int) (A2 : Option Addr) (c2 : Nat) (l2 : List Int) (r : Bool) (w : World) (hr0 : Kd.C k79 w A0 l0.length l0) (hc0 : l0.length ≤ c0) (hr1_0 : Kd.C (Kd.int .i64) w A1_0 l1_0.length l1_0) (hc1_0 : l1_0.length ≤ c1_0) (hr1_1 : Kd.C (Kd.int .i64) w A1_1 l1_1.length l1_1) (hc1_1 : l1_1.length ≤ c1_1) (hr2 : Kd.C (Kd.int .i64) w A2 l2.length l2) (hc2 : l2.length ≤ c2) (hG_ : Glob w) (hr_ : Aside0 (r = true)) (h : foretellkeep_ClaimOnly.f k l0 l1_0 l1_1 l2 = some r) :
  Calls Tryd.prog 13 #[.slice A0 l0.length c0, .agg #[.slice A1_0 l1_0.length c1_0, .slice A1_1 l1_1.length c1_1], .slice A2 l2.length c2] w fun e w' => e = .returned (.bool r) ∧ Below w.heap.size w w' := by
 have hu40 := Tryd.underlying40
 have hu43 := Tryd.underlying43
 have HR0 := Aside0.mk hr0
 have HC0 := Aside0.mk hc0
 clear hr0 hc0
 have HR1_0 := Aside0.mk hr1_0
 have HC1_0 := Aside0.mk hc1_0
 clear hr1_0 hc1_0
 have HR1_1 := Aside0.mk hr1_1
 have HC1_1 := Aside0.mk hc1_1
 clear hr1_1 hc1_1
 have HR2 := Aside0.mk hr2
 have HC2 := Aside0.mk hc2
 clear hr2 hc2
 have HB := Aside0.mk (Below.refl w.heap.size w)
 have H : ((foretellkeep_Word.f k l1_0 l1_1).bind fun bt472 => ((foretellkeep_Formula.f k l0 3 3).bind fun t479 => ((word_Claims.f k t479 bt472.1 bt472.2 3).bind fun bt482 => ((logic_Ahead.f k t479 3).bind fun bt486 => (if bt482.2 = 0 then (if bt486.2 = 0 then (foretellkeep_ClaimOnly.j0 k l2 t479 bt482.1 bt486.1 (wrap64 ((bt472.1.length : Int) + (bt472.2.length : Int))) ((bt482.1.length : Int) != (wrap64 ((bt472.1.length : Int) + (bt472.2.length : Int)))) bt472.1 bt472.2) else (foretellkeep_ClaimOnly.j0 k l2 t479 bt482.1 bt486.1 (wrap64 ((bt472.1.length : Int) + (bt472.2.length : Int))) true bt472.1 bt472.2)) else (foretellkeep_ClaimOnly.j0 k l2 t479 bt482.1 bt486.1 (wrap64 ((bt472.1.length : Int) + (bt472.2.length : Int))) true bt472.1 bt472.2)))))) = some r := h
 clear h
 replace H := Option.bind_eq_some_iff.mp H
 obtain ⟨⟨t472, t475⟩, A40, H⟩ := H
 replace H : ((foretellkeep_Formula.f k l0 3 3).bind fun t479 => ((word_Claims.f k t479 t472 t475 3).bind fun bt482 => ((logic_Ahead.f k t479 3).bind fun bt486 => (if bt482.2 = 0 then (if bt486.2 = 0 then (foretellkeep_ClaimOnly.j0 k l2 t479 bt482.1 bt486.1 (wrap64 ((t472.length : Int) + (t475.length : Int))) ((bt482.1.length : Int) != (wrap64 ((t472.length : Int) + (t475.length : Int)))) t472 t475) else (foretellkeep_ClaimOnly.j0 k l2 t479 bt482.1 bt486.1 (wrap64 ((t472.length : Int) + (t475.length : Int))) true t472 t475)) else (foretellkeep_ClaimOnly.j0 k l2 t479 bt482.1 bt486.1 (wrap64 ((t472.length : Int) + (t475.length : Int))) true t472 t475))))) = some r := H
 have A4 := Aside0.mk A40
 clear A40
 replace H := Option.bind_eq_some_iff.mp H
 obtain ⟨t479, A50, H⟩ := H
 replace H : ((word_Claims.f k t479 t472 t475 3).bind fun bt482 => ((logic_Ahead.f k t479 3).bind fun bt486 => (if bt482.2 = 0 then (if bt486.2 = 0 then (foretellkeep_ClaimOnly.j0 k l2 t479 bt482.1 bt486.1 (wrap64 ((t472.length : Int) + (t475.length : Int))) ((bt482.1.length : Int) != (wrap64 ((t472.length : Int) + (t475.length : Int)))) t472 t475) else (foretellkeep_ClaimOnly.j0 k l2 t479 bt482.1 bt486.1 (wrap64 ((t472.length : Int) + (t475.length : Int))) true t472 t475)) else (foretellkeep_ClaimOnly.j0 k l2 t479 bt482.1 bt486.1 (wrap64 ((t472.length : Int) + (t475.length : Int))) true t472 t475)))) = some r := H
 have A5 := Aside0.mk A50
 clear A50
 replace H := Option.bind_eq_some_iff.mp H
 obtain ⟨⟨t482, t485⟩, A60, H⟩ := H
 replace H : ((logic_Ahead.f k t479 3).bind fun bt486 => (if t485 = 0 then (if bt486.2 = 0 then (foretellkeep_ClaimOnly.j0 k l2 t479 t482 bt486.1 (wrap64 ((t472.length : Int) + (t475.length : Int))) ((t482.length : Int) != (wrap64 ((t472.length : Int) + (t475.length : Int)))) t472 t475) else (foretellkeep_ClaimOnly.j0 k l2 t479 t482 bt486.1 (wrap64 ((t472.length : Int) + (t475.length : Int))) true t472 t475)) else (foretellkeep_ClaimOnly.j0 k l2 t479 t482 bt486.1 (wrap64 ((t472.length : Int) + (t475.length : Int))) true t472 t475))) = some r := H
 have A6 := Aside0.mk A60
 clear A60
 replace H := Option.bind_eq_some_iff.mp H
 obtain ⟨⟨t486, t487⟩, A70, H⟩ := H
 replace H : (if t485 = 0 then (if t487 = 0 then (foretellkeep_ClaimOnly.j0 k l2 t479 t482 t486 (wrap64 ((t472.length : Int) + (t475.length : Int))) ((t482.length : Int) != (wrap64 ((t472.length : Int) + (t475.length : Int)))) t472 t475) else (foretellkeep_ClaimOnly.j0 k l2 t479 t482 t486 (wrap64 ((t472.length : Int) + (t475.length : Int))) true t472 t475)) else (foretellkeep_ClaimOnly.j0 k l2 t479 t482 t486 (wrap64 ((t472.length : Int) + (t475.length : Int))) true t472 t475)) = some r := H
 have A7 := Aside0.mk A70
 clear A70
 have HC8 := Aside0.mk H
 clear H
 go_enter Tryd.func13, Tryd.ntmps13
 go_upto_region 6 with (first | ((with_reducible refine gate_dst (N := 4) rfl ?_); (try (refine gate_guard (by rfl) ?_; dsimp only)); refine box_event ?hg (N := 4) ?hd (cs := #[.slice A1_0 l1_0.length c1_0, .slice A1_1 l1_1.length c1_1]) (t := 40) ?hr ?_; (case hd => rfl); (case hg => rfl); (case hr => first | (go_simp; done) | (go_simp; rfl)); intro gb471 hg w9 hbox hb; have n0_ := Aside0.mk (below_step (by repeat (first | (with_reducible first | exact HB.out | apply below_alloc | apply pw_below_drewN | apply below_drew1) | exact HB.out)) hb); have n1_ := Aside0.mk (hbox); have n2_ := Aside0.mk ((by rw [hg]; exact (below_size (by repeat (first | (with_reducible first | exact HB.out | apply below_alloc | apply pw_below_drewN | apply below_drew1) | exact HB.out))) : w.heap.size ≤ gb471)); have n3_ := Aside0.mk ((by rw [hg]; exact (below_size (by repeat (first | (with_reducible first | exact HB.out | apply below_alloc | apply pw_below_drewN | apply below_drew1) | exact HB.out))) : w.heap.size ≤ gb471)); clear HB; have HB := n0_; have BK471 := n1_; have GW471 := n2_; have GE471 := n3_; clear n0_ n1_ n2_ n3_; clear hb hbox hg; have hcz10_0 : w9.cell? ⟨gb471, 0, none⟩ = some (.slice A1_0 l1_0.length c1_0) := (blk_cell BK471.out 0).trans rfl; have hcz10_1 : w9.cell? ⟨gb471, 1, none⟩ = some (.slice A1_1 l1_1.length c1_1) := (blk_cell BK471.out 1).trans rfl; have hfz10_0 := blk_frozen BK471.out 0; have hfz10_1 := blk_frozen BK471.out 1) | ((with_reducible refine gate_callee (f := 23) rfl ?_); refine goesL_ (some 27) rfl rfl Tryd.func23 (by kernel_rfl) rfl #[.agg #[.slice A1_0 l1_0.length c1_0, .slice A1_1 l1_1.length c1_1]] rfl (by (try simp only [List.map_toArray, List.map_cons, List.map_nil]); first | done | rfl | (simp only [List.length_drop, List.length_take]; rfl)) ?_; (with_reducible refine (foretellkeep_Word.calls k _ _ l1_0 _ _ l1_1 t472 t475 _ ?side1 ?side2 ?side3 ?side4 A4.out).mono ?_); (case side1 => repeat (first | exact (Kd.C_below HR1_0.out HB.out) | (with_reducible refine Kd.C_alloc ?_ _) | (with_reducible refine Kd.C_drewN ?_ _) | (with_reducible refine Kd.C_drew ?_))); (case side2 => exact HC1_0.out); (case side3 => repeat (first | exact (Kd.C_below HR1_1.out HB.out) | (with_reducible refine Kd.C_alloc ?_ _) | (with_reducible refine Kd.C_drewN ?_ _) | (with_reducible refine Kd.C_drew ?_))); (case side4 => exact HC1_1.out); rintro e w11 ⟨v473, v476, rfl, ho0, ho1, hb⟩; refine ⟨_, rfl, ?_⟩; have n0_ := Aside0.mk (Kd.N_lower (Kd.N_mono (ok' := fun k_ => some k_ ≠ (v476 : Value).ownBlock ∧ k_ ≠ gb471) ho0 (fun k_ hk_ => ⟨hk_.2, (Kd.freshB (g := gb471) (o := .cells #[.slice A1_0 l1_0.length c1_0, .slice A1_1 l1_1.length c1_1] 40 (0, 0)) (by (with_reducible repeat (first | refine blk_drewN ?_ _ | refine blk_drew ?_ | refine blk_alloc ?_ _)); exact BK471.out) k_ hk_.1)⟩)) (below_size (by repeat (first | (with_reducible first | exact HB.out | apply below_alloc | apply pw_below_drewN | apply below_drew1 | refine below_set ?_ GE471.out) | exact HB.out)))); have n1_ := Aside0.mk (Kd.N_lower (Kd.N_mono (ok' := fun k_ => some k_ ≠ (v473 : Value).ownBlock ∧ k_ ≠ gb471) ho1 (fun k_ hk_ => ⟨hk_.2, (Kd.freshB (g := gb471) (o := .cells #[.slice A1_0 l1_0.length c1_0, .slice A1_1 l1_1.length c1_1] 40 (0, 0)) (by (with_reducible repeat (first | refine blk_drewN ?_ _ | refine blk_drew ?_ | refine blk_alloc ?_ _)); exact BK471.out) k_ hk_.1)⟩)) (below_size (by repeat (first | (with_reducible first | exact HB.out | apply below_alloc | apply pw_below_drewN | apply below_drew1 | refine below_set ?_ GE471.out) | exact HB.out)))); have n2_ := Aside0.mk (blk_below (g := gb471) (o := .cells #[.slice A1_0 l1_0.length c1_0, .slice A1_1 l1_1.length c1_1] 40 (0, 0)) (by (with_reducible repeat (first | refine blk_drewN ?_ _ | refine blk_drew ?_ | refine blk_alloc ?_ _)); exact BK471.out) hb); have n3_ := Aside0.mk (below_step (by repeat (first | (with_reducible first | exact HB.out | apply below_alloc | apply pw_below_drewN | apply below_drew1 | refine below_set ?_ GE471.out) | exact HB.out)) hb); clear BK471; clear HB; have HO474 := n0_; have HO477 := n1_; have BK471 := n2_; have HB := n3_; clear n0_ n1_ n2_ n3_; (try clear hb); (try clear hb2); (try clear hk); (try clear hi); (try clear ho0); (try clear ho1)) | ((with_reducible refine gate_dst (N := 7) rfl ?_); (try (refine gate_guard (by rfl) ?_; dsimp only)); refine box_event ?hg (N := 7) ?hd (cs := #[.slice none 0 0, .slice none 0 0]) (t := 43) ?hr ?_; (case hd => rfl); (case hg => rfl); (case hr => first | (go_simp; done) | (go_simp; rfl)); intro gb478 hg w12 hbox hb; have n0_ := Aside0.mk (Kd.N_below (Kd.N_elderB (by (with_reducible repeat (first | apply Kd.N_alloc | apply Kd.N_drewN | apply Kd.N_drew)); exact HO474.out) gb478 (Nat.le_of_eq hg.symm)) hb); have n1_ := Aside0.mk (Kd.N_below (Kd.N_elderB (by (with_reducible repeat (first | apply Kd.N_alloc | apply Kd.N_drewN | apply Kd.N_drew)); exact HO477.out) gb478 (Nat.le_of_eq hg.symm)) hb); have n2_ := Aside0.mk (blk_below (g := gb471) (o := .cells #[.slice A1_0 l1_0.length c1_0, .slice A1_1 l1_1.length c1_1] 40 (0, 0)) (by (with_reducible repeat (first | refine blk_drewN ?_ _ | refine blk_drew ?_ | refine blk_alloc ?_ _)); exact BK471.out) hb); have n3_ := Aside0.mk (below_step (by repeat (first | (with_reducible first | exact HB.out | apply below_alloc | apply pw_below_drewN | apply below_drew1 | refine below_set ?_ GE471.out) | exact HB.out)) hb); have n4_ := Aside0.mk (hbox); have n5_ := Aside0.mk ((by rw [hg]; exact (below_size (by repeat (first | (with_reducible first | exact HB.out | apply below_alloc | apply pw_below_drewN | apply below_drew1 | refine below_set ?_ GE471.out) | exact HB.out))) : w.heap.size ≤ gb478)); have n6_ := Aside0.mk ((by rw [hg]; exact (below_size (by repeat (first | (with_reducible first | exact HB.out | apply below_alloc | apply pw_below_drewN | apply below_drew1 | refine below_set ?_ GE471.out) | exact HB.out))) : w.heap.size ≤ gb478)); have n7_ := Aside0.mk ((by rw [hg]; exact Nat.ne_of_lt (blk_lt (g := gb471) (o := .cells #[.slice A1_0 l1_0.length c1_0, .slice A1_1 l1_1.length c1_1] 40 (0, 0)) (by (with_reducible repeat (first | refine blk_drewN ?_ _ | refine blk_drew ?_ | refine blk_alloc ?_ _)); exact BK471.out)) : gb471 ≠ gb478)); have n8_ := Aside0.mk ((by rw [hg]; exact Nat.ne_of_gt (blk_lt (g := gb471) (o := .cells #[.slice A1_0 l1_0.length c1_0, .slice A1_1 l1_1.length c1_1] 40 (0, 0)) (by (with_reducible repeat (first | refine blk_drewN ?_ _ | refine blk_drew ?_ | refine blk_alloc ?_ _)); exact BK471.out)) : gb478 ≠ gb471)); clear HO474; clear HO477; clear BK471; clear HB; have HO474 := n0_; have HO477 := n1_; have BK471 := n2_; have HB := n3_; have BK478 := n4_; have GW478 := n5_; have GE478 := n6_; have NB471_478 := n7_; have NB478_471 := n8_; clear n0_ n1_ n2_ n3_ n4_ n5_ n6_ n7_ n8_; clear hb hbox hg; obtain ⟨Ao13, co13, eo13⟩ := Kd.N_slice HO474.out; subst eo13; have hnb14 := NB478_471.out; have hnc14 := NB471_478.out; have hcz15_0 : w12.cell? ⟨gb478, 0, none⟩ = some (.slice none 0 0) := (blk_cell BK478.out 0).trans rfl; have hcz15_1 : w12.cell? ⟨gb478, 1, none⟩ = some (.slice none 0 0) := (blk_cell BK478.out 1).trans rfl; have hfz15_0 := blk_frozen BK478.out 0; have hfz15_1 := blk_frozen BK478.out 1; obtain ⟨Ao16, co16, eo16⟩ := Kd.N_slice HO477.out; subst eo16) | ((with_reducible refine gate_callee (f := 16) rfl ?_); refine goesL_ (some 29) rfl rfl Tryd.func16 (by kernel_rfl) rfl #[.slice A0 l0.length c0, .int .i64 3, .int .i64 3] rfl (by (try simp only [List.map_toArray, List.map_cons, List.map_nil]); first | done | rfl | (simp only [List.length_drop, List.length_take]; rfl)) ?_; (with_reducible refine (foretellkeep_Formula.calls k _ _ l0 3 3 t479 _ ?side1 ?side2 A5.out).mono ?_); (case side1 => exact Kd.C_below HR0.out (by repeat (first | (with_reducible first | exact HB.out | apply below_alloc | apply pw_below_drewN | apply below_drew1 | refine below_set ?_ GE471.out | refine below_set ?_ GE478.out) | exact HB.out))); (case side2 => exact HC0.out); rintro e w17 ⟨v480, rfl, ho0, hb⟩; refine ⟨_, rfl, ?_⟩; have n0_ := Aside0.mk (Kd.N_below (by (with_reducible repeat (first | apply Kd.N_alloc | apply Kd.N_drewN | apply Kd.N_drew)); exact (Kd.N_mono (Kd.N_far (p := ⟨gb478, 1, none⟩) (Kd.N_far (p := ⟨gb478, 0, none⟩) (Kd.N_mono HO474.out (fun k_ hk => (⟨hk, hk.2⟩ : _ ∧ k_ ≠ gb478))) (fun _ hk => hk.2) (.slice Ao13 t472.length co13)) (fun _ hk => hk.2) (.slice Ao16 t475.length co16)) (fun _ h_ => h_.1))) hb); have n1_ := Aside0.mk (Kd.N_below (by (with_reducible repeat (first | apply Kd.N_alloc | apply Kd.N_drewN | apply Kd.N_drew)); exact (Kd.N_mono (Kd.N_far (p := ⟨gb478, 1, none⟩) (Kd.N_far (p := ⟨gb478, 0, none⟩) (Kd.N_mono HO477.out (fun k_ hk => (⟨hk, hk.2⟩ : _ ∧ k_ ≠ gb478))) (fun _ hk => hk.2) (.slice Ao13 t472.length co13)) (fun _ hk => hk.2) (.slice Ao16 t475.length co16)) (fun _ h_ => h_.1))) hb); have n2_ := Aside0.mk (Kd.V_lower (Kd.V_mono (ok' := fun k_ => k_ ≠ gb471 ∧ k_ ≠ gb478) (Kd.R_V (Kd.R_bound ho0)) (fun k_ hk_ => ⟨(Kd.freshB (g := gb471) (o := .cells #[.slice A1_0 l1_0.length c1_0, .slice A1_1 l1_1.length c1_1] 40 (0, 0)) (by (with_reducible repeat (first | refine blk_drewN ?_ _ | refine blk_drew ?_ | refine blk_alloc ?_ _)); refine blk_far ?_ NB471_478.out _; (with_reducible repeat (first | refine blk_drewN ?_ _ | refine blk_drew ?_ | refine blk_alloc ?_ _)); refine blk_far ?_ NB471_478.out _; (with_reducible repeat (first | refine blk_drewN ?_ _ | refine blk_drew ?_ | refine blk_alloc ?_ _)); exact BK471.out) k_ hk_.2.1), (Kd.freshB (g := gb478) (o := .cells #[.slice Ao13 t472.length co13, .slice Ao16 t475.length co16] 43 (0, 0)) (by (with_reducible repeat (first | refine blk_drewN ?_ _ | refine blk_drew ?_ | refine blk_alloc ?_ _)); refine blk_put (cs := #[.slice Ao13 t472.length co13, .slice none 0 0]) ?_ 1 _ rfl; (with_reducible repeat (first | refine blk_drewN ?_ _ | refine blk_drew ?_ | refine blk_alloc ?_ _)); refine blk_put (cs := #[.slice none 0 0, .slice none 0 0]) ?_ 0 _ rfl; (with_reducible repeat (first | refine blk_drewN ?_ _ | refine blk_drew ?_ | refine blk_alloc ?_ _)); exact BK478.out) k_ hk_.2.1)⟩)) (below_size (by repeat (first | (with_reducible first | exact HB.out | apply below_alloc | apply pw_below_drewN | apply below_drew1 | refine below_set ?_ GE471.out | refine below_set ?_ GE478.out) | exact HB.out)))); have n3_ := Aside0.mk (blk_below (g := gb471) (o := .cells #[.slice A1_0 l1_0.length c1_0, .slice A1_1 l1_1.length c1_1] 40 (0, 0)) (by (with_reducible repeat (first | refine blk_drewN ?_ _ | refine blk_drew ?_ | refine blk_alloc ?_ _)); refine blk_far ?_ NB471_478.out _; (with_reducible repeat (first | refine blk_drewN ?_ _ | refine blk_drew ?_ | refine blk_alloc ?_ _)); refine blk_far ?_ NB471_478.out _; (with_reducible repeat (first | refine blk_drewN ?_ _ | refine blk_drew ?_ | refine blk_alloc ?_ _)); exact BK471.out) hb); have n4_ := Aside0.mk (blk_below (g := gb478) (o := .cells #[.slice Ao13 t472.length co13, .slice Ao16 t475.length co16] 43 (0, 0)) (by (with_reducible repeat (first | refine blk_drewN ?_ _ | refine blk_drew ?_ | refine blk_alloc ?_ _)); refine blk_put (cs := #[.slice Ao13 t472.length co13, .slice none 0 0]) ?_ 1 _ rfl; (with_reducible repeat (first | refine blk_drewN ?_ _ | refine blk_drew ?_ | refine blk_alloc ?_ _)); refine blk_put (cs := #[.slice none 0 0, .slice none 0 0]) ?_ 0 _ rfl; (with_reducible repeat (first | refine blk_drewN ?_ _ | refine blk_drew ?_ | refine blk_alloc ?_ _)); exact BK478.out) hb); have n5_ := Aside0.mk (below_step (by repeat (first | (with_reducible first | exact HB.out | apply below_alloc | apply pw_below_drewN | apply below_drew1 | refine below_set ?_ GE471.out | refine below_set ?_ GE478.out) | exact HB.out)) hb); clear HO474; clear HO477; clear BK471; clear BK478; clear HB; have HO474 := n0_; have HO477 := n1_; have HO481 := n2_; have BK471 := n3_; have BK478 := n4_; have HB := n5_; clear n0_ n1_ n2_ n3_ n4_ n5_; (try clear hb); (try clear hb2); (try clear hk); (try clear hi); (try clear ho0); have hcz18_0 : w17.cell? ⟨gb478, 0, none⟩ = some (.slice Ao13 t472.length co13) := (blk_cell BK478.out 0).trans rfl; have hcz18_1 : w17.cell? ⟨gb478, 1, none⟩ = some (.slice Ao16 t475.length co16) := (blk_cell BK478.out 1).trans rfl; have hfz18_0 := blk_frozen BK478.out 0; have hfz18_1 := blk_frozen BK478.out 1; obtain ⟨Ao19, co19, eo19⟩ := Kd.V_slice HO481.out; subst eo19) | ((with_reducible refine gate_callee (f := 27) rfl ?_); refine goesL_ (some 33) rfl rfl Tryd.func27 (by kernel_rfl) rfl #[.slice Ao19 t479.length co19, .agg #[.slice Ao13 t472.length co13, .slice Ao16 t475.length co16], .int .i64 3] rfl (by (try simp only [List.map_toArray, List.map_cons, List.map_nil]); first | done | rfl | (simp only [List.length_drop, List.length_take]; rfl)) ?_; (with_reducible refine (word_Claims.calls k _ _ t479 _ _ t472 _ _ t475 3 t482 t485 _ ?side1 ?side2 ?side3 ?side4 ?side5 ?side6 ?side7 A6.out).mono ?_); (case side1 => repeat (first | exact (Kd.V_reads' HO481.out).2.2 | (with_reducible refine Kd.C_alloc ?_ _) | (with_reducible refine Kd.C_drewN ?_ _) | (with_reducible refine Kd.C_drew ?_))); (case side2 => exact (Kd.V_reads' HO481.out).2.1); (case side3 => repeat (first | exact (Kd.N_reads' HO474.out).2.2 | (with_reducible refine Kd.C_alloc ?_ _) | (with_reducible refine Kd.C_drewN ?_ _) | (with_reducible refine Kd.C_drew ?_))); (case side4 => exact (Kd.N_reads' HO474.out).2.1); (case side5 => repeat (first | exact (Kd.N_reads' HO477.out).2.2 | (with_reducible refine Kd.C_alloc ?_ _) | (with_reducible refine Kd.C_drewN ?_ _) | (with_reducible refine Kd.C_drew ?_))); (case side6 => exact (Kd.N_reads' HO477.out).2.1); (case side7 => first | exact hG_ | exact Glob.drewN hG_ _ | exact Glob.below hG_ (by repeat (first | (with_reducible first | exact HB.out | apply below_alloc | apply pw_below_drewN | apply below_drew1 | refine below_set ?_ GE471.out | refine below_set ?_ GE478.out) | exact HB.out))); rintro e w20 ⟨v483, rfl, ho0, hb⟩; refine ⟨_, rfl, ?_⟩; have n0_ := Aside0.mk (Kd.N_below (by (with_reducible repeat (first | apply Kd.N_alloc | apply Kd.N_drewN | apply Kd.N_drew)); exact HO474.out) hb); have n1_ := Aside0.mk (Kd.N_below (by (with_reducible repeat (first | apply Kd.N_alloc | apply Kd.N_drewN | apply Kd.N_drew)); exact HO477.out) hb); have n2_ := Aside0.mk (Kd.V_below (by (with_reducible repeat (first | apply Kd.V_alloc | apply Kd.V_drewN | apply Kd.V_drew)); exact HO481.out) hb); have n3_ := Aside0.mk (Kd.V_lower (Kd.V_mono (ok' := fun k_ => k_ ≠ gb471 ∧ k_ ≠ gb478) (Kd.R_V (Kd.R_bound ho0)) (fun k_ hk_ => ⟨(Kd.freshB (g := gb471) (o := .cells #[.slice A1_0 l1_0.length c1_0, .slice A1_1 l1_1.length c1_1] 40 (0, 0)) (by (with_reducible repeat (first | refine blk_drewN ?_ _ | refine blk_drew ?_ | refine blk_alloc ?_ _)); exact BK471.out) k_ hk_.2.1), (Kd.freshB (g := gb478) (o := .cells #[.slice Ao13 t472.length co13, .slice Ao16 t475.length co16] 43 (0, 0)) (by (with_reducible repeat (first | refine blk_drewN ?_ _ | refine blk_drew ?_ | refine blk_alloc ?_ _)); exact BK478.out) k_ hk_.2.1)⟩)) (below_size (by repeat (first | (with_reducible first | exact HB.out | apply below_alloc | apply pw_below_drewN | apply below_drew1 | refine below_set ?_ GE471.out | refine below_set ?_ GE478.out) | exact HB.out)))); have n4_ := Aside0.mk (blk_below (g := gb471) (o := .cells #[.slice A1_0 l1_0.length c1_0, .slice A1_1 l1_1.length c1_1] 40 (0, 0)) (by (with_reducible repeat (first | refine blk_drewN ?_ _ | refine blk_drew ?_ | refine blk_alloc ?_ _)); exact BK471.out) hb); have n5_ := Aside0.mk (blk_below (g := gb478) (o := .cells #[.slice Ao13 t472.length co13, .slice Ao16 t475.length co16] 43 (0, 0)) (by (with_reducible repeat (first | refine blk_drewN ?_ _ | refine blk_drew ?_ | refine blk_alloc ?_ _)); exact BK478.out) hb); have n6_ := Aside0.mk (below_step (by repeat (first | (with_reducible first | exact HB.out | apply below_alloc | apply pw_below_drewN | apply below_drew1 | refine below_set ?_ GE471.out | refine below_set ?_ GE478.out) | exact HB.out)) hb); clear HO474; clear HO477; clear HO481; clear BK471; clear BK478; clear HB; have HO474 := n0_; have HO477 := n1_; have HO481 := n2_; have HO484 := n3_; have BK471 := n4_; have BK478 := n5_; have HB := n6_; clear n0_ n1_ n2_ n3_ n4_ n5_ n6_; (try clear hb); (try clear hb2); (try clear hk); (try clear hi); (try clear ho0)) | ((with_reducible refine gate_callee (f := 17) rfl ?_); refine goesL_ (some 38) rfl rfl Tryd.func17 (by kernel_rfl) rfl #[.slice Ao19 t479.length co19, .int .i64 3] rfl (by (try simp only [List.map_toArray, List.map_cons, List.map_nil]); first | done | rfl | (simp only [List.length_drop, List.length_take]; rfl)) ?_; (with_reducible refine (logic_Ahead.calls k _ _ t479 3 t486 t487 _ ?side1 ?side2 ?side3 A7.out).mono ?_); (case side1 => repeat (first | exact (Kd.V_reads' HO481.out).2.2 | (with_reducible refine Kd.C_alloc ?_ _) | (with_reducible refine Kd.C_drewN ?_ _) | (with_reducible refine Kd.C_drew ?_))); (case side2 => exact (Kd.V_reads' HO481.out).2.1); (case side3 => first | exact hG_ | exact Glob.drewN hG_ _ | exact Glob.below hG_ (by repeat (first | (with_reducible first | exact HB.out | apply below_alloc | apply pw_below_drewN | apply below_drew1 | refine below_set ?_ GE471.out | refine below_set ?_ GE478.out) | exact HB.out))); rintro e w21 ⟨v488, rfl, ho0, hb⟩; refine ⟨_, rfl, ?_⟩; have n0_ := Aside0.mk (Kd.N_below (by (with_reducible repeat (first | apply Kd.N_alloc | apply Kd.N_drewN | apply Kd.N_drew)); exact HO474.out) hb); have n1_ := Aside0.mk (Kd.N_below (by (with_reducible repeat (first | apply Kd.N_alloc | apply Kd.N_drewN | apply Kd.N_drew)); exact HO477.out) hb); have n2_ := Aside0.mk (Kd.V_below (by (with_reducible repeat (first | apply Kd.V_alloc | apply Kd.V_drewN | apply Kd.V_drew)); exact HO481.out) hb); have n3_ := Aside0.mk (Kd.V_below (by (with_reducible repeat (first | apply Kd.V_alloc | apply Kd.V_drewN | apply Kd.V_drew)); exact HO484.out) hb); have n4_ := Aside0.mk (Kd.V_lower (Kd.V_mono (ok' := fun k_ => k_ ≠ gb471 ∧ k_ ≠ gb478) (Kd.R_V (Kd.R_bound ho0)) (fun k_ hk_ => ⟨(Kd.freshB (g := gb471) (o := .cells #[.slice A1_0 l1_0.length c1_0, .slice A1_1 l1_1.length c1_1] 40 (0, 0)) (by (with_reducible repeat (first | refine blk_drewN ?_ _ | refine blk_drew ?_ | refine blk_alloc ?_ _)); exact BK471.out) k_ hk_.2.1), (Kd.freshB (g := gb478) (o := .cells #[.slice Ao13 t472.length co13, .slice Ao16 t475.length co16] 43 (0, 0)) (by (with_reducible repeat (first | refine blk_drewN ?_ _ | refine blk_drew ?_ | refine blk_alloc ?_ _)); exact BK478.out) k_ hk_.2.1)⟩)) (below_size (by repeat (first | (with_reducible first | exact HB.out | apply below_alloc | apply pw_below_drewN | apply below_drew1 | refine below_set ?_ GE471.out | refine below_set ?_ GE478.out) | exact HB.out)))); have n5_ := Aside0.mk (blk_below (g := gb471) (o := .cells #[.slice A1_0 l1_0.length c1_0, .slice A1_1 l1_1.length c1_1] 40 (0, 0)) (by (with_reducible repeat (first | refine blk_drewN ?_ _ | refine blk_drew ?_ | refine blk_alloc ?_ _)); exact BK471.out) hb); have n6_ := Aside0.mk (blk_below (g := gb478) (o := .cells #[.slice Ao13 t472.length co13, .slice Ao16 t475.length co16] 43 (0, 0)) (by (with_reducible repeat (first | refine blk_drewN ?_ _ | refine blk_drew ?_ | refine blk_alloc ?_ _)); exact BK478.out) hb); have n7_ := Aside0.mk (below_step (by repeat (first | (with_reducible first | exact HB.out | apply below_alloc | apply pw_below_drewN | apply below_drew1 | refine below_set ?_ GE471.out | refine below_set ?_ GE478.out) | exact HB.out)) hb); clear HO474; clear HO477; clear HO481; clear HO484; clear BK471; clear BK478; clear HB; have HO474 := n0_; have HO477 := n1_; have HO481 := n2_; have HO484 := n3_; have HO489 := n4_; have BK471 := n5_; have BK478 := n6_; have HB := n7_; clear n0_ n1_ n2_ n3_ n4_ n5_ n6_ n7_; (try clear hb); (try clear hb2); (try clear hk); (try clear hi); (try clear ho0); have hcz22_0 : w21.cell? ⟨gb478, 0, none⟩ = some (.slice Ao13 t472.length co13) := (blk_cell BK478.out 0).trans rfl; have hcz22_1 : w21.cell? ⟨gb478, 1, none⟩ = some (.slice Ao16 t475.length co16) := (blk_cell BK478.out 1).trans rfl; have hfz22_0 := blk_frozen BK478.out 0; have hfz22_1 := blk_frozen BK478.out 1))
 (try simp only [Act.put, List.setIfInBounds_toArray, List.set_cons_zero, List.set_cons_succ])
 go_cut [59] (fun v59 wc => ∃ (kq : Nat) (x59_7 : Bool), v59 = .bool x59_7 ∧ Aside0 (foretellkeep_ClaimOnly.j0 kq l2 t479 t482 t486 (wrap64 ((t472.length : Int) + (t475.length : Int))) x59_7 t472 t475 = some r) ∧ Aside0 (kq ≤ k) ∧ Aside0 (Kd.V k51 51 wc w.heap.size (fun k_ => k_ ≠ gb471 ∧ k_ ≠ gb478) (.slice Ao19 t479.length co19) t479) ∧ Aside0 (Kd.V (Kd.int .i64) 3 wc w.heap.size (fun k_ => k_ ≠ gb471 ∧ k_ ≠ gb478) v483 t482) ∧ Aside0 (Kd.V (Kd.int .i64) 3 wc w.heap.size (fun k_ => k_ ≠ gb471 ∧ k_ ≠ gb478) v488 t486) ∧ Aside0 (Kd.N (Kd.slice 4 Kd.bool) 30 wc w.heap.size (fun k_ => some k_ ≠ ((.slice Ao16 t475.length co16) : Value).ownBlock ∧ k_ ≠ gb471 ∧ k_ ≠ gb478) (.slice Ao13 t472.length co13) t472) ∧ Aside0 (Kd.N (Kd.slice 4 Kd.bool) 30 wc w.heap.size (fun k_ => some k_ ≠ ((.slice Ao13 t472.length co13) : Value).ownBlock ∧ k_ ≠ gb471 ∧ k_ ≠ gb478) (.slice Ao16 t475.length co16) t475) ∧ Aside0 (wc.heap[gb471]? = some (.cells #[(.slice A1_0 l1_0.length c1_0), (.slice A1_1 l1_1.length c1_1)] 40 (0, 0))) ∧ Aside0 (wc.heap[gb478]? = some (.cells #[(.slice Ao13 t472.length co13), (.slice Ao16 t475.length co16)] 43 (0, 0))) ∧ Aside0 (Below w.heap.size w wc))
 case first =>
  have H := HC8.out
  clear HC8
  by_cases c23 : t485 = 0
  ·
   rw [if_pos c23] at H
   have c23b0 : (t485 == 0) = true := beq_iff_eq.mpr c23
   have c23b1 : (t485 != 0) = false := bne_eq_false_iff_eq.mpr c23
   clear c23
   (first | rw [c23b0] | (simp only [i64_w, i32_w]; rw [c23b0]) | skip)
   by_cases c24 : t487 = 0
   ·
    rw [if_pos c24] at H
    have c24b0 : (t487 == 0) = true := beq_iff_eq.mpr c24
    have c24b1 : (t487 != 0) = false := bne_eq_false_iff_eq.mpr c24
    clear c24
    have H' := Aside0.mk H
    clear H
    obtain ⟨Ao25, co25, eo25⟩ := Kd.V_slice HO484.out
    subst eo25
    go_wp2
    go_meet
    case rel => exact ⟨_, (((t482.length : Int) != (wrap64 ((t472.length : Int) + (t475.length : Int))))), (by first | rfl | (simp; done) | (simp [*]; done)), H', ⟨by first | omega | exact Nat.le_refl _⟩, ⟨by (with_reducible repeat (first | apply Kd.V_alloc | apply Kd.V_drewN | apply Kd.V_drew)); exact HO481.out⟩, ⟨by (with_reducible repeat (first | apply Kd.V_alloc | apply Kd.V_drewN | apply Kd.V_drew)); exact HO484.out⟩, ⟨by (with_reducible repeat (first | apply Kd.V_alloc | apply Kd.V_drewN | apply Kd.V_drew)); exact HO489.out⟩, ⟨by (with_reducible repeat (first | apply Kd.N_alloc | apply Kd.N_drewN | apply Kd.N_drew)); exact Kd.N_mono HO474.out (fun _ hk => ⟨hk.1.1, ⟨hk.1.2, hk.2⟩⟩)⟩, ⟨by (with_reducible repeat (first | apply Kd.N_alloc | apply Kd.N_drewN | apply Kd.N_drew)); exact Kd.N_mono HO477.out (fun _ hk => ⟨hk.1.1, ⟨hk.1.2, hk.2⟩⟩)⟩, ⟨by (with_reducible repeat (first | refine blk_drewN ?_ _ | refine blk_drew ?_ | refine blk_alloc ?_ _)); exact BK471.out⟩, ⟨by (with_reducible repeat (first | refine blk_drewN ?_ _ | refine blk_drew ?_ | refine blk_alloc ?_ _)); exact BK478.out⟩, ⟨by repeat (first | (with_reducible first | exact HB.out | apply below_alloc | apply pw_below_drewN | apply below_drew1 | refine below_set ?_ GE471.out | refine below_set ?_ GE478.out) | exact HB.out)⟩⟩
   ·
    rw [if_neg c24] at H
    have c24b0 : (t487 == 0) = false := beq_eq_false_iff_ne.mpr c24
    have c24b1 : (t487 != 0) = true := bne_iff_ne.mpr c24
    have H' := Aside0.mk H
    clear H
    go_wp2
    go_meet
    case rel => exact ⟨_, (true), (by first | rfl | (simp; done) | (simp [*]; done)), H', ⟨by first | omega | exact Nat.le_refl _⟩, ⟨by (with_reducible repeat (first | apply Kd.V_alloc | apply Kd.V_drewN | apply Kd.V_drew)); exact HO481.out⟩, ⟨by (with_reducible repeat (first | apply Kd.V_alloc | apply Kd.V_drewN | apply Kd.V_drew)); exact HO484.out⟩, ⟨by (with_reducible repeat (first | apply Kd.V_alloc | apply Kd.V_drewN | apply Kd.V_drew)); exact HO489.out⟩, ⟨by (with_reducible repeat (first | apply Kd.N_alloc | apply Kd.N_drewN | apply Kd.N_drew)); exact Kd.N_mono HO474.out (fun _ hk => ⟨hk.1.1, ⟨hk.1.2, hk.2⟩⟩)⟩, ⟨by (with_reducible repeat (first | apply Kd.N_alloc | apply Kd.N_drewN | apply Kd.N_drew)); exact Kd.N_mono HO477.out (fun _ hk => ⟨hk.1.1, ⟨hk.1.2, hk.2⟩⟩)⟩, ⟨by (with_reducible repeat (first | refine blk_drewN ?_ _ | refine blk_drew ?_ | refine blk_alloc ?_ _)); exact BK471.out⟩, ⟨by (with_reducible repeat (first | refine blk_drewN ?_ _ | refine blk_drew ?_ | refine blk_alloc ?_ _)); exact BK478.out⟩, ⟨by repeat (first | (with_reducible first | exact HB.out | apply below_alloc | apply pw_below_drewN | apply below_drew1 | refine below_set ?_ GE471.out | refine below_set ?_ GE478.out) | exact HB.out)⟩⟩
  ·
   rw [if_neg c23] at H
   have c23b0 : (t485 == 0) = false := beq_eq_false_iff_ne.mpr c23
   have c23b1 : (t485 != 0) = true := bne_iff_ne.mpr c23
   (first | rw [c23b0] | (simp only [i64_w, i32_w]; rw [c23b0]) | skip)
   have H' := Aside0.mk H
   clear H
   go_wp2
   go_meet
   case rel => exact ⟨_, (true), (by first | rfl | (simp; done) | (simp [*]; done)), H', ⟨by first | omega | exact Nat.le_refl _⟩, ⟨by (with_reducible repeat (first | apply Kd.V_alloc | apply Kd.V_drewN | apply Kd.V_drew)); exact HO481.out⟩, ⟨by (with_reducible repeat (first | apply Kd.V_alloc | apply Kd.V_drewN | apply Kd.V_drew)); exact HO484.out⟩, ⟨by (with_reducible repeat (first | apply Kd.V_alloc | apply Kd.V_drewN | apply Kd.V_drew)); exact HO489.out⟩, ⟨by (with_reducible repeat (first | apply Kd.N_alloc | apply Kd.N_drewN | apply Kd.N_drew)); exact Kd.N_mono HO474.out (fun _ hk => ⟨hk.1.1, ⟨hk.1.2, hk.2⟩⟩)⟩, ⟨by (with_reducible repeat (first | apply Kd.N_alloc | apply Kd.N_drewN | apply Kd.N_drew)); exact Kd.N_mono HO477.out (fun _ hk => ⟨hk.1.1, ⟨hk.1.2, hk.2⟩⟩)⟩, ⟨by (with_reducible repeat (first | refine blk_drewN ?_ _ | refine blk_drew ?_ | refine blk_alloc ?_ _)); exact BK471.out⟩, ⟨by (with_reducible repeat (first | refine blk_drewN ?_ _ | refine blk_drew ?_ | refine blk_alloc ?_ _)); exact BK478.out⟩, ⟨by repeat (first | (with_reducible first | exact HB.out | apply below_alloc | apply pw_below_drewN | apply below_drew1 | refine below_set ?_ GE471.out | refine below_set ?_ GE478.out) | exact HB.out)⟩⟩
 case rest =>
  clear HC8
  try clear c1
  try clear c2
  try clear p2
  try clear p6
  try clear c13
  try clear c14
  try clear c16
  try clear c17
  try clear c23
  try clear c23b0
  try clear c23b1
  try clear c24
  try clear c24b0
  try clear c24b1
  try clear hcz10_0
  try clear hcz10_1
  try clear hcz15_0
  try clear hcz15_1
  try clear hcz18_0
  try clear hcz18_1
  try clear hcz22_0
  try clear hcz22_1
  try clear hfz10_0
  try clear hfz10_1
  try clear hfz15_0
  try clear hfz15_1
  try clear hfz18_0
  try clear hfz18_1
  try clear hfz22_0
  try clear hfz22_1
  obtain ⟨kq, x59_7, rfl, HA, HJ7, HO_8, HO_9, HO_11, HO_479000, HO_479001, BK471, BK478, HB⟩ := hcut
  cases kq with
  | zero => exact absurd HA.out (by simp [foretellkeep_ClaimOnly.j0])
  | succ kj7 =>
   have H := HA.out
   clear HA
   simp only [foretellkeep_ClaimOnly.j0] at H
   by_cases c26 : x59_7 = true
   ·
    subst c26
    have H1 : (some false) = some r := by rw [if_pos rfl] at H; exact H
    clear H
    have H := H1
    clear H1
    exact absurd ((Option.some.inj H).trans hr_.out) (by decide)
   ·
    replace c26 := Bool.eq_false_iff.mpr c26
    subst c26
    have H1 : (if ([] : List (List Bool)).length + t472.length < 5864062014805 then ((some (([] : List (List Bool)) ++ t472 : List (List Bool))).bind fun y490 => (if y490.length + t475.length < 5864062014805 then (if ([] : List Int).length + t482.length < 17592186044416 then (foretellkeep_ClaimOnly.l0 kj7 l2 t479 t482 t486 (wrap64 ((t472.length : Int) + (t475.length : Int))) (y490 ++ t475) (([] : List Int) ++ t482) false 0 t472 t475) else (none)) else (none))) else (none)) = some r := by rw [if_neg (show ¬ (false = true) by decide)] at H; exact H
    clear H
    have H := H1
    clear H1
    by_cases c27 : ([] : List (List Bool)).length + t472.length < 5864062014805
    ·
     rw [if_pos c27] at H
     have LMc27 := Aside0.mk c27
     clear c27
     obtain ⟨y490, hy490⟩ : ∃ y_ : List (List Bool), y_ = (([] : List (List Bool)) ++ t472) := ⟨_, rfl⟩
     replace H : (if y490.length + t475.length < 5864062014805 then (if ([] : List Int).length + t482.length < 17592186044416 then (foretellkeep_ClaimOnly.l0 kj7 l2 t479 t482 t486 (wrap64 ((t472.length : Int) + (t475.length : Int))) (y490 ++ t475) (([] : List Int) ++ t482) false 0 t472 t475) else (none)) else (none)) = some r := by first | (rw [hy490]; with_reducible exact H) | (have H2_ := (Option.bind_some _ _).symm.trans H; rw [hy490]; with_reducible exact H2_) | (have H2_ := (Option.bind_some _ _).symm.trans H; with_reducible exact H2_) | with_reducible exact H | (rw [hy490]; exact H) | exact H
     have Ny490 := Aside0.mk hy490
     clear hy490
     by_cases c28 : y490.length + t475.length < 5864062014805
     ·
      rw [if_pos c28] at H
      have LMc28 := Aside0.mk c28
      clear c28
      obtain ⟨y493, hy493⟩ : ∃ y_ : List (List Bool), y_ = (y490 ++ t475) := ⟨_, rfl⟩
      replace H : (if ([] : List Int).length + t482.length < 17592186044416 then (foretellkeep_ClaimOnly.l0 kj7 l2 t479 t482 t486 (wrap64 ((t472.length : Int) + (t475.length : Int))) y493 (([] : List Int) ++ t482) false 0 t472 t475) else (none)) = some r := by first | (rw [hy493]; with_reducible exact H) | (have H2_ := (Option.bind_some _ _).symm.trans H; rw [hy493]; with_reducible exact H2_) | (have H2_ := (Option.bind_some _ _).symm.trans H; with_reducible exact H2_) | with_reducible exact H | (rw [hy493]; exact H) | exact H
      have Ny493 := Aside0.mk hy493
      clear hy493
      by_cases c29 : ([] : List Int).length + t482.length < 17592186044416
      ·
       rw [if_pos c29] at H
       have LMc29 := Aside0.mk c29
       clear c29
       obtain ⟨y496, hy496⟩ : ∃ y_ : List Int, y_ = (([] : List Int) ++ t482) := ⟨_, rfl⟩
       replace H : (foretellkeep_ClaimOnly.l0 kj7 l2 t479 t482 t486 (wrap64 ((t472.length : Int) + (t475.length : Int))) y493 y496 false 0 t472 t475) = some r := by first | (rw [hy496]; with_reducible exact H) | (have H2_ := (Option.bind_some _ _).symm.trans H; rw [hy496]; with_reducible exact H2_) | (have H2_ := (Option.bind_some _ _).symm.trans H; with_reducible exact H2_) | with_reducible exact H | (rw [hy496]; exact H) | exact H
       have Ny496 := Aside0.mk hy496
       clear hy496
       have HC30 := Aside0.mk H
       clear H
       obtain ⟨Ao31, co31, eo31⟩ := Kd.V_slice HO_9.out
       subst eo31
       obtain ⟨Ao32, co32, eo32⟩ := Kd.V_slice HO_11.out
       subst eo32
       try go_wp2
       have n0_ := Aside0.mk (Kd.V_drew HO_8.out)
       have n1_ := Aside0.mk (Kd.V_drew HO_9.out)
       have n2_ := Aside0.mk (Kd.V_drew HO_11.out)
       have n3_ := Aside0.mk (Kd.N_drew HO_479000.out)
       have n4_ := Aside0.mk (Kd.N_drew HO_479001.out)
       have n5_ := Aside0.mk (blk_drew BK471.out)
       have n6_ := Aside0.mk (blk_drew BK478.out)
       have n7_ := Aside0.mk (below_drew1 HB.out)
       clear HO_8
       clear HO_9
       clear HO_11
       clear HO_479000
       clear HO_479001
       clear BK471
       clear BK478
       clear HB
       have HO_8 := n0_
       have HO_9 := n1_
       have HO_11 := n2_
       have HO_479000 := n3_
       have HO_479001 := n4_
       have BK471 := n5_
       have BK478 := n6_
       have HB := n7_
       clear n0_ n1_ n2_ n3_ n4_ n5_ n6_ n7_
       refine start_ (n := 7) (S := fun w' => w'.cell? ⟨gb478, 0, none⟩ = some (.slice Ao13 t472.length co13) ∧ w'.cell? ⟨gb478, 1, none⟩ = some (.slice Ao16 t475.length co16)) (ds := []) #[false, false, false, false, false, false, false] (by kernel_rfl) rfl rfl ⟨(blk_cell BK478.out 0).trans rfl, (blk_cell BK478.out 1).trans rfl⟩ (fun hHeld => ?_)
       generalize wc.drew = w33 at HO_8 HO_9 HO_11 HO_479000 HO_479001 BK471 BK478 HB hHeld ⊢
       refine pure_ (i := 0) (N := some 60) (v := ?_) (a' := ?_) #[true, false, false, false, false, false, false] rfl rfl (by kernel_rfl) (fun _ _ _ h => h) (Or.inl ⟨by rfl, ?_⟩) ?_ ?_
       rotate_left
       ·
        intro w'
        go_simp
        with_reducible rfl
       rotate_left
       ·
        simp only [Act.put, List.setIfInBounds_toArray, List.set_cons_zero, List.set_cons_succ, i64_w, i32_w]
        rfl
       refine pure_ (i := 3) (N := some 63) (v := ?_) (a' := ?_) #[true, false, false, true, false, false, false] rfl rfl (by kernel_rfl) (fun _ _ _ h => h) (Or.inl ⟨by rfl, ?_⟩) ?_ ?_
       rotate_left
       ·
        intro w'
        go_simp
        with_reducible rfl
       rotate_left
       ·
        simp only [Act.put, List.setIfInBounds_toArray, List.set_cons_zero, List.set_cons_succ, i64_w, i32_w]
        rfl
       refine take_ (i := 1) (N := some 61) (v := ?_) (a' := ?_) #[true, true, false, true, false, false, false] rfl rfl (by kernel_rfl) (fun _ _ _ h => h) (Or.inl ⟨by rfl, ?_⟩) hHeld ?_ ?_
       rotate_left
       ·
        rintro w' ⟨s0, s1⟩
        go_simp
        with_reducible rfl
       rotate_left
       ·
        simp only [Act.put, List.setIfInBounds_toArray, List.set_cons_zero, List.set_cons_succ, i64_w, i32_w]
        rfl
       refine take_ (i := 4) (N := some 64) (v := ?_) (a' := ?_) #[true, true, false, true, true, false, false] rfl rfl (by kernel_rfl) (fun _ _ _ h => h) (Or.inl ⟨by rfl, ?_⟩) hHeld ?_ ?_
       rotate_left
       ·
        rintro w' ⟨s0, s1⟩
        go_simp
        with_reducible rfl
       rotate_left
       ·
        simp only [Act.put, List.setIfInBounds_toArray, List.set_cons_zero, List.set_cons_succ, i64_w, i32_w]
        rfl
       refine one_ (i := 2) (N := some 62) #[true, true, true, true, true, false, false] rfl rfl (by kernel_rfl) (by decide) (fun K hK => ?_)
       refine Kd.N_append_rows_step (Kd.slice 4 Kd.bool) (w0 := w) w.heap.size (by rfl) (.const (.slice none 0 0)) (.tmp 61) 41 30 (.slice none 0 0) 24 rfl Tryd.underlying41 info30 rfl (by decide) (by omega) (.slice none 0 0) ([] : List (List Bool)) t472 _ _ _ (fun k_ => some k_ ≠ (.slice Ao16 t475.length co16 : Value).ownBlock ∧ k_ ≠ gb471 ∧ k_ ≠ gb478) (fun k_ => ((fun k_ => some k_ ≠ (.slice Ao16 t475.length co16 : Value).ownBlock ∧ k_ ≠ gb471 ∧ k_ ≠ gb478)) k_ ∧ some k_ ≠ (.slice none 0 0 : Value).ownBlock) rfl rfl ?aO ?aR (fun _ hk => hk) ?aF ?aB ?aS ?aL ?_
       (case aR => exact (by skip; exact Kd.N_F (Kd.N_mono (ok' := (fun k_ => ((fun k_ => some k_ ≠ (.slice Ao16 t475.length co16 : Value).ownBlock ∧ k_ ≠ gb471 ∧ k_ ≠ gb478)) k_ ∧ some k_ ≠ (.slice none 0 0 : Value).ownBlock)) (HO_479000.out) (fun k_ hk => ⟨⟨hk.1, ⟨hk.2.1, hk.2.2⟩⟩, (by simp [Value.ownBlock])⟩))))
       (case aB => exact (by repeat (first | (with_reducible first | exact HB.out | apply below_alloc | apply pw_below_drewN | apply below_drew1 | refine below_set ?_ GE471.out | refine below_set ?_ GE478.out) | exact HB.out)))
       (case aF => exact (fun k_ hk => ⟨Kd.fresh' (Kd.N_lt (by (with_reducible repeat (first | apply Kd.N_alloc | apply Kd.N_drewN | apply Kd.N_drew)); exact HO_479001.out)) k_ hk, Kd.freshB (g := gb471) (o := .cells #[.slice A1_0 l1_0.length c1_0, .slice A1_1 l1_1.length c1_1] 40 (0, 0)) (by (with_reducible repeat (first | refine blk_drewN ?_ _ | refine blk_drew ?_ | refine blk_alloc ?_ _)); exact BK471.out) k_ hk, Kd.freshB (g := gb478) (o := .cells #[.slice Ao13 t472.length co13, .slice Ao16 t475.length co16] 43 (0, 0)) (by (with_reducible repeat (first | refine blk_drewN ?_ _ | refine blk_drew ?_ | refine blk_alloc ?_ _)); exact BK478.out) k_ hk⟩))
       (case aO => exact ((Kd.N_nil _ _ _ _ (fun k_ => some k_ ≠ (.slice Ao16 t475.length co16 : Value).ownBlock ∧ k_ ≠ gb471 ∧ k_ ≠ gb478))))
       (case aS => exact (below_size (by repeat (first | (with_reducible first | exact HB.out | apply below_alloc | apply pw_below_drewN | apply below_drew1 | refine below_set ?_ GE471.out | refine below_set ?_ GE478.out) | exact HB.out))))
       (case aL => have := LMc27.out; omega)
       intro v491 w34 ho hb hg hat
       rw [← Ny490.out] at ho
       have n0_ := Aside0.mk (Kd.V_afterv (Kd.V_apart_nil (by (with_reducible repeat (first | apply Kd.V_alloc | apply Kd.V_drewN | apply Kd.V_drew)); exact HO_8.out)) hg hat)
       have n1_ := Aside0.mk (Kd.V_afterv (Kd.V_apart_nil (by (with_reducible repeat (first | apply Kd.V_alloc | apply Kd.V_drewN | apply Kd.V_drew)); exact HO_9.out)) hg hat)
       have n2_ := Aside0.mk (Kd.V_afterv (Kd.V_apart_nil (by (with_reducible repeat (first | apply Kd.V_alloc | apply Kd.V_drewN | apply Kd.V_drew)); exact HO_11.out)) hg hat)
       have n3_ := Aside0.mk (Kd.N_afterv (Kd.N_apart_nil (by (with_reducible repeat (first | apply Kd.N_alloc | apply Kd.N_drewN | apply Kd.N_drew)); exact HO_479000.out)) hg hat)
       have n4_ := Aside0.mk (Kd.N_afterv (Kd.N_apart_nil (by (with_reducible repeat (first | apply Kd.N_alloc | apply Kd.N_drewN | apply Kd.N_drew)); exact HO_479001.out)) hg hat)
       have n5_ := Aside0.mk (blk_grown (g := gb471) (o := .cells #[.slice A1_0 l1_0.length c1_0, .slice A1_1 l1_1.length c1_1] 40 (0, 0)) (by (with_reducible repeat (first | refine blk_drewN ?_ _ | refine blk_drew ?_ | refine blk_alloc ?_ _)); exact BK471.out) hg (by simp [Value.ownBlock]))
       have n6_ := Aside0.mk (blk_grown (g := gb478) (o := .cells #[.slice Ao13 t472.length co13, .slice Ao16 t475.length co16] 43 (0, 0)) (by (with_reducible repeat (first | refine blk_drewN ?_ _ | refine blk_drew ?_ | refine blk_alloc ?_ _)); exact BK478.out) hg (by simp [Value.ownBlock]))
       have n7_ := Aside0.mk (hb)
       have n8_ := Aside0.mk (ho)
       clear HO_8
       clear HO_9
       clear HO_11
       clear HO_479000
       clear HO_479001
       clear BK471
       clear BK478
       clear HB
       have HO_8 := n0_
       have HO_9 := n1_
       have HO_11 := n2_
       have HO_479000 := n3_
       have HO_479001 := n4_
       have BK471 := n5_
       have BK478 := n6_
       have HB := n7_
       have HO492 := n8_
       clear n0_ n1_ n2_ n3_ n4_ n5_ n6_ n7_ n8_
       clear ho hb hg hat
       refine hK.out _ _ ⟨(blk_cell BK478.out 0).trans rfl, (blk_cell BK478.out 1).trans rfl⟩ (fun hHeld => ?_)
       clear hK K
       refine norm_ (a' := ?_) ?_ ?_
       rotate_left
       ·
        show Act.put _ (some 62) _ = _
        simp only [Act.put, List.setIfInBounds_toArray, List.set_cons_zero, List.set_cons_succ, i64_w, i32_w]
        rfl
       refine one_ (i := 5) (N := some 65) #[true, true, true, true, true, true, false] rfl rfl (by kernel_rfl) (by decide) (fun K hK => ?_)
       refine Kd.N_append_rows_step (Kd.slice 4 Kd.bool) (w0 := w) w.heap.size (by rfl) (.tmp 62) (.tmp 64) 41 30 (.slice none 0 0) 24 rfl Tryd.underlying41 info30 rfl (by decide) (by omega) v491 y490 t475 _ _ _ (fun k_ => k_ ≠ gb471 ∧ k_ ≠ gb478) (fun k_ => ((fun k_ => k_ ≠ gb471 ∧ k_ ≠ gb478)) k_ ∧ some k_ ≠ (v491 : Value).ownBlock) rfl rfl ?aO ?aR (fun _ hk => hk) ?aF ?aB ?aS ?aL ?_
       (case aR => exact (by skip; exact Kd.N_F (Kd.N_mono (ok' := (fun k_ => ((fun k_ => k_ ≠ gb471 ∧ k_ ≠ gb478)) k_ ∧ some k_ ≠ (v491 : Value).ownBlock)) (HO_479001.out) (fun k_ hk => ⟨⟨hk.1.2.1, hk.1.2.2⟩, hk.2⟩))))
       (case aB => exact (by repeat (first | (with_reducible first | exact HB.out | apply below_alloc | apply pw_below_drewN | apply below_drew1 | refine below_set ?_ GE471.out | refine below_set ?_ GE478.out) | exact HB.out)))
       (case aF => exact (fun k_ hk => ⟨Kd.freshB (g := gb471) (o := .cells #[.slice A1_0 l1_0.length c1_0, .slice A1_1 l1_1.length c1_1] 40 (0, 0)) (by (with_reducible repeat (first | refine blk_drewN ?_ _ | refine blk_drew ?_ | refine blk_alloc ?_ _)); exact BK471.out) k_ hk, Kd.freshB (g := gb478) (o := .cells #[.slice Ao13 t472.length co13, .slice Ao16 t475.length co16] 43 (0, 0)) (by (with_reducible repeat (first | refine blk_drewN ?_ _ | refine blk_drew ?_ | refine blk_alloc ?_ _)); exact BK478.out) k_ hk⟩))
       (case aO => exact (by (with_reducible repeat (first | apply Kd.N_alloc | apply Kd.N_drewN | apply Kd.N_drew)); exact Kd.N_mono HO492.out (fun _ hk => ⟨hk.2.1, hk.2.2⟩)))
       (case aS => exact (below_size (by repeat (first | (with_reducible first | exact HB.out | apply below_alloc | apply pw_below_drewN | apply below_drew1 | refine below_set ?_ GE471.out | refine below_set ?_ GE478.out) | exact HB.out))))
       (case aL => have := LMc28.out; omega)
       intro v494 w35 ho hb hg hat
       rw [← Ny493.out] at ho
       have n0_ := Aside0.mk (Kd.V_afterv (ok := (fun k_ => k_ ≠ gb471 ∧ k_ ≠ gb478)) (by (with_reducible repeat (first | apply Kd.V_alloc | apply Kd.V_drewN | apply Kd.V_drew)); exact HO_8.out) hg hat)
       have n1_ := Aside0.mk (Kd.V_afterv (ok := (fun k_ => k_ ≠ gb471 ∧ k_ ≠ gb478)) (by (with_reducible repeat (first | apply Kd.V_alloc | apply Kd.V_drewN | apply Kd.V_drew)); exact HO_9.out) hg hat)
       have n2_ := Aside0.mk (Kd.V_afterv (ok := (fun k_ => k_ ≠ gb471 ∧ k_ ≠ gb478)) (by (with_reducible repeat (first | apply Kd.V_alloc | apply Kd.V_drewN | apply Kd.V_drew)); exact HO_11.out) hg hat)
       have n3_ := Aside0.mk (Kd.N_afterv (ok := (fun k_ => some k_ ≠ (.slice Ao16 t475.length co16 : Value).ownBlock ∧ k_ ≠ gb471 ∧ k_ ≠ gb478)) (by (with_reducible repeat (first | apply Kd.N_alloc | apply Kd.N_drewN | apply Kd.N_drew)); exact HO_479000.out) hg hat)
       have n4_ := Aside0.mk (Kd.N_afterv (ok := (fun k_ => some k_ ≠ (.slice Ao13 t472.length co13 : Value).ownBlock ∧ k_ ≠ gb471 ∧ k_ ≠ gb478)) (by (with_reducible repeat (first | apply Kd.N_alloc | apply Kd.N_drewN | apply Kd.N_drew)); exact HO_479001.out) hg hat)
       have n5_ := Aside0.mk (blk_grown (g := gb471) (o := .cells #[.slice A1_0 l1_0.length c1_0, .slice A1_1 l1_1.length c1_1] 40 (0, 0)) (by (with_reducible repeat (first | refine blk_drewN ?_ _ | refine blk_drew ?_ | refine blk_alloc ?_ _)); exact BK471.out) hg (Kd.N_ne HO492.out BK471.out (by decide)))
       have n6_ := Aside0.mk (blk_grown (g := gb478) (o := .cells #[.slice Ao13 t472.length co13, .slice Ao16 t475.length co16] 43 (0, 0)) (by (with_reducible repeat (first | refine blk_drewN ?_ _ | refine blk_drew ?_ | refine blk_alloc ?_ _)); exact BK478.out) hg (Kd.N_ne HO492.out BK478.out (by decide)))
       have n7_ := Aside0.mk (hb)
       have n8_ := Aside0.mk (ho)
       clear HO_8
       clear HO_9
       clear HO_11
       clear HO_479000
       clear HO_479001
       clear BK471
       clear BK478
       clear HB
       clear HO492
       have HO_8 := n0_
       have HO_9 := n1_
       have HO_11 := n2_
       have HO_479000 := n3_
       have HO_479001 := n4_
       have BK471 := n5_
       have BK478 := n6_
       have HB := n7_
       have HO495 := n8_
       clear n0_ n1_ n2_ n3_ n4_ n5_ n6_ n7_ n8_
       clear ho hb hg hat
       refine hK.out _ _ ⟨(blk_cell BK478.out 0).trans rfl, (blk_cell BK478.out 1).trans rfl⟩ (fun hHeld => ?_)
       clear hK K
       refine norm_ (a' := ?_) ?_ ?_
       rotate_left
       ·
        show Act.put _ (some 65) _ = _
        simp only [Act.put, List.setIfInBounds_toArray, List.set_cons_zero, List.set_cons_succ, i64_w, i32_w]
        rfl
       refine pure_ (i := 6) (N := some 14) (v := ?_) (a' := ?_) #[true, true, true, true, true, true, true] rfl rfl (by kernel_rfl) (fun _ _ _ h => h) (Or.inl ⟨by rfl, ?_⟩) ?_ ?_
       rotate_left
       ·
        intro w'
        go_simp
        with_reducible rfl
       rotate_left
       ·
        simp only [Act.put, List.setIfInBounds_toArray, List.set_cons_zero, List.set_cons_succ, i64_w, i32_w]
        rfl
       refine done_ (by kernel_rfl) ?_
       go_upto_block 0 with (first | ((with_reducible refine gate_builtin (b := .append) (xs := #[.const (.slice none 0 0), .tmp 66]) rfl ?_); (try (refine gate_guard (by rfl) ?_; dsimp only)); at_builtin; refine Kd.R_append_rows (Kd.int .i64) (w0 := w) w.heap.size rfl (.const (.slice none 0 0)) (.tmp 66) 25 3 (.int .i64 0) 8 rfl Tryd.underlying25 info3 rfl (by decide) (by omega) (.slice none 0 0) ([] : List Int) t482 _ _ _ (fun _ => True) (fun _ => False) rfl rfl ?aO ?aR (fun _ _ h => h) (fun _ h => h.elim) ?aF ?aB ?aS ?aL ?_; (case aR => repeat (first | exact (Kd.V_reads' HO_9.out).2.2 | (with_reducible refine Kd.C_alloc ?_ _) | (with_reducible refine Kd.C_drewN ?_ _) | (with_reducible refine Kd.C_drew ?_))); (case aB => exact (by repeat (first | (with_reducible first | exact HB.out | apply below_alloc | apply pw_below_drewN | apply below_drew1 | refine below_set ?_ GE471.out | refine below_set ?_ GE478.out) | exact HB.out))); (case aF => exact (fun _ _ => trivial)); (case aO => exact ((Kd.R_nil _ _ _ _ (fun _ => True)))); (case aS => exact (below_size (by repeat (first | (with_reducible first | exact HB.out | apply below_alloc | apply pw_below_drewN | apply below_drew1 | refine below_set ?_ GE471.out | refine below_set ?_ GE478.out) | exact HB.out)))); (case aL => have := LMc29.out; omega); intro v497 w36 ho hb hg hat; rw [← Ny496.out] at ho; have n0_ := Aside0.mk (Kd.V_afterv (Kd.V_apart_nil (by (with_reducible repeat (first | apply Kd.V_alloc | apply Kd.V_drewN | apply Kd.V_drew)); exact HO_8.out)) hg hat); have n1_ := Aside0.mk (Kd.V_afterv (Kd.V_apart_nil (by (with_reducible repeat (first | apply Kd.V_alloc | apply Kd.V_drewN | apply Kd.V_drew)); exact HO_9.out)) hg hat); have n2_ := Aside0.mk (Kd.V_afterv (Kd.V_apart_nil (by (with_reducible repeat (first | apply Kd.V_alloc | apply Kd.V_drewN | apply Kd.V_drew)); exact HO_11.out)) hg hat); have n3_ := Aside0.mk (Kd.N_afterv (Kd.N_apart_nil (by (with_reducible repeat (first | apply Kd.N_alloc | apply Kd.N_drewN | apply Kd.N_drew)); exact HO_479000.out)) hg hat); have n4_ := Aside0.mk (Kd.N_afterv (Kd.N_apart_nil (by (with_reducible repeat (first | apply Kd.N_alloc | apply Kd.N_drewN | apply Kd.N_drew)); exact HO_479001.out)) hg hat); have n5_ := Aside0.mk (blk_grown (g := gb471) (o := .cells #[.slice A1_0 l1_0.length c1_0, .slice A1_1 l1_1.length c1_1] 40 (0, 0)) (by (with_reducible repeat (first | refine blk_drewN ?_ _ | refine blk_drew ?_ | refine blk_alloc ?_ _)); exact BK471.out) hg (by simp [Value.ownBlock])); have n6_ := Aside0.mk (blk_grown (g := gb478) (o := .cells #[.slice Ao13 t472.length co13, .slice Ao16 t475.length co16] 43 (0, 0)) (by (with_reducible repeat (first | refine blk_drewN ?_ _ | refine blk_drew ?_ | refine blk_alloc ?_ _)); exact BK478.out) hg (by simp [Value.ownBlock])); have n7_ := Aside0.mk (Kd.N_afterv (Kd.N_apart_nil (by (with_reducible repeat (first | apply Kd.N_alloc | apply Kd.N_drewN | apply Kd.N_drew)); exact HO495.out)) hg hat); have n8_ := Aside0.mk (hb); have n9_ := Aside0.mk (ho); clear HO_8; clear HO_9; clear HO_11; clear HO_479000; clear HO_479001; clear BK471; clear BK478; clear HO495; clear HB; have HO_8 := n0_; have HO_9 := n1_; have HO_11 := n2_; have HO_479000 := n3_; have HO_479001 := n4_; have BK471 := n5_; have BK478 := n6_; have HO495 := n7_; have HB := n8_; have HO498 := n9_; clear n0_ n1_ n2_ n3_ n4_ n5_ n6_ n7_ n8_ n9_; clear ho hb hg hat))
       (try simp only [Act.put, List.setIfInBounds_toArray, List.set_cons_zero, List.set_cons_succ])
       go_cut [16] (fun v16 wc => ∃ (kq : Nat) (x15_29 : List Int) (x16_29 : Bool), v16 = .bool x16_29 ∧ Aside0 (foretellkeep_ClaimOnly.j3 kq t479 t486 (wrap64 ((t472.length : Int) + (t475.length : Int))) y493 x15_29 x16_29 t472 t475 = some r) ∧ Aside0 (kq ≤ kj7) ∧ Aside0 (Kd.V k51 51 wc w.heap.size (fun k_ => some k_ ≠ (v494 : Value).ownBlock ∧ some k_ ≠ (v497 : Value).ownBlock ∧ k_ ≠ gb471 ∧ k_ ≠ gb478) (.slice Ao19 t479.length co19) t479) ∧ Aside0 (Kd.V (Kd.int .i64) 3 wc w.heap.size (fun k_ => some k_ ≠ (v494 : Value).ownBlock ∧ some k_ ≠ (v497 : Value).ownBlock ∧ k_ ≠ gb471 ∧ k_ ≠ gb478) (.slice Ao32 t486.length co32) t486) ∧ Aside0 (Kd.N (Kd.slice 4 Kd.bool) 30 wc w.heap.size (fun k_ => some k_ ≠ (v497 : Value).ownBlock ∧ k_ ≠ gb471 ∧ k_ ≠ gb478) v494 y493) ∧ Aside0 (Kd.R (Kd.int .i64) 3 wc w.heap.size (fun _ => True) v497 x15_29) ∧ Aside0 (Kd.N (Kd.slice 4 Kd.bool) 30 wc w.heap.size (fun k_ => some k_ ≠ (v494 : Value).ownBlock ∧ some k_ ≠ (v497 : Value).ownBlock ∧ some k_ ≠ ((.slice Ao16 t475.length co16) : Value).ownBlock ∧ k_ ≠ gb471 ∧ k_ ≠ gb478) (.slice Ao13 t472.length co13) t472) ∧ Aside0 (Kd.N (Kd.slice 4 Kd.bool) 30 wc w.heap.size (fun k_ => some k_ ≠ (v494 : Value).ownBlock ∧ some k_ ≠ (v497 : Value).ownBlock ∧ some k_ ≠ ((.slice Ao13 t472.length co13) : Value).ownBlock ∧ k_ ≠ gb471 ∧ k_ ≠ gb478) (.slice Ao16 t475.length co16) t475) ∧ Aside0 (wc.heap[gb471]? = some (.cells #[(.slice A1_0 l1_0.length c1_0), (.slice A1_1 l1_1.length c1_1)] 40 (0, 0))) ∧ Aside0 (wc.heap[gb478]? = some (.cells #[(.slice Ao13 t472.length co13), (.slice Ao16 t475.length co16)] 43 (0, 0))) ∧ Aside0 (Below w.heap.size w wc))
       case first =>
        have H := HC30.out
        clear HC30
        have H' := Aside0.mk H
        clear H
        go_wp2
        go_loopg [16, 17] kj7 (fun kq v16 v17 w' => ∃ (x15_2 : List Int) (x16_2 : Bool) (x17_2 : Int), v16 = .bool x16_2 ∧ v17 = .int .i64 x17_2 ∧ Aside0 (foretellkeep_ClaimOnly.l0 kq l2 t479 t482 t486 (wrap64 ((t472.length : Int) + (t475.length : Int))) y493 x15_2 x16_2 x17_2 t472 t475 = some r) ∧ Aside0 (kq ≤ kj7) ∧ Aside0 (Kd.V k51 51 w' w.heap.size (fun k_ => some k_ ≠ (v494 : Value).ownBlock ∧ some k_ ≠ (v497 : Value).ownBlock ∧ k_ ≠ gb471 ∧ k_ ≠ gb478) (.slice Ao19 t479.length co19) t479) ∧ Aside0 (Kd.V (Kd.int .i64) 3 w' w.heap.size (fun k_ => some k_ ≠ (v494 : Value).ownBlock ∧ some k_ ≠ (v497 : Value).ownBlock ∧ k_ ≠ gb471 ∧ k_ ≠ gb478) (.slice Ao31 t482.length co31) t482) ∧ Aside0 (Kd.V (Kd.int .i64) 3 w' w.heap.size (fun k_ => some k_ ≠ (v494 : Value).ownBlock ∧ some k_ ≠ (v497 : Value).ownBlock ∧ k_ ≠ gb471 ∧ k_ ≠ gb478) (.slice Ao32 t486.length co32) t486) ∧ Aside0 (Kd.N (Kd.slice 4 Kd.bool) 30 w' w.heap.size (fun k_ => some k_ ≠ (v497 : Value).ownBlock ∧ k_ ≠ gb471 ∧ k_ ≠ gb478) v494 y493) ∧ Aside0 (Kd.R (Kd.int .i64) 3 w' w.heap.size (fun _ => True) v497 x15_2) ∧ Aside0 (Kd.N (Kd.slice 4 Kd.bool) 30 w' w.heap.size (fun k_ => some k_ ≠ (v494 : Value).ownBlock ∧ some k_ ≠ (v497 : Value).ownBlock ∧ some k_ ≠ ((.slice Ao16 t475.length co16) : Value).ownBlock ∧ k_ ≠ gb471 ∧ k_ ≠ gb478) (.slice Ao13 t472.length co13) t472) ∧ Aside0 (Kd.N (Kd.slice 4 Kd.bool) 30 w' w.heap.size (fun k_ => some k_ ≠ (v494 : Value).ownBlock ∧ some k_ ≠ (v497 : Value).ownBlock ∧ some k_ ≠ ((.slice Ao13 t472.length co13) : Value).ownBlock ∧ k_ ≠ gb471 ∧ k_ ≠ gb478) (.slice Ao16 t475.length co16) t475) ∧ Aside0 (w'.heap[gb471]? = some (.cells #[(.slice A1_0 l1_0.length c1_0), (.slice A1_1 l1_1.length c1_1)] 40 (0, 0))) ∧ Aside0 (w'.heap[gb478]? = some (.cells #[(.slice Ao13 t472.length co13), (.slice Ao16 t475.length co16)] 43 (0, 0))) ∧ Aside0 (Below w.heap.size w w'))
        case atStart => exact ⟨(y496), (false), (0), (by first | rfl | (simp; done) | (simp [*]; done)), (by first | rfl | (simp; done) | (simp [*]; done)), H', ⟨Nat.le_refl _⟩, ⟨by (with_reducible repeat (first | apply Kd.V_alloc | apply Kd.V_drewN | apply Kd.V_drew)); exact Kd.V_mono HO_8.out (fun _ hk => ⟨hk.1.2, ⟨hk.2, ⟨hk.1.1.1, hk.1.1.2⟩⟩⟩)⟩, ⟨by (with_reducible repeat (first | apply Kd.V_alloc | apply Kd.V_drewN | apply Kd.V_drew)); exact Kd.V_mono HO_9.out (fun _ hk => ⟨hk.1.2, ⟨hk.2, ⟨hk.1.1.1, hk.1.1.2⟩⟩⟩)⟩, ⟨by (with_reducible repeat (first | apply Kd.V_alloc | apply Kd.V_drewN | apply Kd.V_drew)); exact Kd.V_mono HO_11.out (fun _ hk => ⟨hk.1.2, ⟨hk.2, ⟨hk.1.1.1, hk.1.1.2⟩⟩⟩)⟩, ⟨by (with_reducible repeat (first | apply Kd.N_alloc | apply Kd.N_drewN | apply Kd.N_drew)); exact Kd.N_mono HO495.out (fun _ hk => ⟨hk.2, ⟨hk.1.1, hk.1.2⟩⟩)⟩, ⟨by (with_reducible repeat (first | apply Kd.R_alloc | apply Kd.R_drewN | apply Kd.R_drew)); exact HO498.out⟩, ⟨by (with_reducible repeat (first | apply Kd.N_alloc | apply Kd.N_drewN | apply Kd.N_drew)); exact Kd.N_mono HO_479000.out (fun _ hk => ⟨hk.1.2, ⟨hk.2, ⟨hk.1.1.1, ⟨hk.1.1.2.1, hk.1.1.2.2⟩⟩⟩⟩)⟩, ⟨by (with_reducible repeat (first | apply Kd.N_alloc | apply Kd.N_drewN | apply Kd.N_drew)); exact Kd.N_mono HO_479001.out (fun _ hk => ⟨hk.1.2, ⟨hk.2, ⟨hk.1.1.1, ⟨hk.1.1.2.1, hk.1.1.2.2⟩⟩⟩⟩)⟩, ⟨by (with_reducible repeat (first | refine blk_drewN ?_ _ | refine blk_drew ?_ | refine blk_alloc ?_ _)); exact BK471.out⟩, ⟨by (with_reducible repeat (first | refine blk_drewN ?_ _ | refine blk_drew ?_ | refine blk_alloc ?_ _)); exact BK478.out⟩, ⟨by repeat (first | (with_reducible first | exact HB.out | apply below_alloc | apply pw_below_drewN | apply below_drew1 | refine below_set ?_ GE471.out | refine below_set ?_ GE478.out) | exact HB.out)⟩⟩
        case round =>
         clear H'
         try clear c1
         try clear c2
         try clear p2
         try clear p6
         try clear c13
         try clear c14
         try clear c16
         try clear c17
         try clear c23
         try clear c23b0
         try clear c23b1
         try clear c24
         try clear c24b0
         try clear c24b1
         try clear c26
         try clear c27
         try clear c28
         try clear c29
         try clear hcz10_0
         try clear hcz10_1
         try clear hcz15_0
         try clear hcz15_1
         try clear hcz18_0
         try clear hcz18_1
         try clear hcz22_0
         try clear hcz22_1
         try clear hfz10_0
         try clear hfz10_1
         try clear hfz15_0
         try clear hfz15_1
         try clear hfz18_0
         try clear hfz18_1
         try clear hfz22_0
         try clear hfz22_1
         try clear p2
         try clear p6
         obtain ⟨x15_2, x16_2, x17_2, rfl, rfl, HA, HK2, HO_8, HO_9, HO_11, HO_14, HO_15, HO_479000, HO_479001, BK471, BK478, HB⟩ := hrel
         cases gk with
         | zero => exact absurd HA.out (by simp [foretellkeep_ClaimOnly.l0])
         | succ k2 =>
          have H := HA.out
          clear HA
          simp only [foretellkeep_ClaimOnly.l0] at H
          by_cases c37 : x17_2 < (wrap64 ((t472.length : Int) + (t475.length : Int)))
          ·
           rw [if_pos c37] at H
           have c37b0 : decide (x17_2 < (wrap64 ((t472.length : Int) + (t475.length : Int)))) = true := decide_eq_true c37
           clear c37
           (first | rw [c37b0] | (simp only [i64_w, i32_w]; rw [c37b0]) | skip)
           by_cases c38 : x17_2 < (l2.length : Int)
           ·
            rw [if_pos c38] at H
            have c38b0 : decide (x17_2 < (l2.length : Int)) = true := decide_eq_true c38
            clear c38
            have HC39 := Aside0.mk H
            clear H
            go_upto_region 14 with (fail)
            go_cut [] (fun wc => ∃ (kq : Nat) (x15_38 : List Int), Aside0 (foretellkeep_ClaimOnly.j2 kq l2 t479 t482 t486 (wrap64 ((t472.length : Int) + (t475.length : Int))) y493 x15_38 x16_2 x17_2 t472 t475 = some r) ∧ Aside0 (kq ≤ k2) ∧ Aside0 (Kd.V k51 51 wc w.heap.size (fun k_ => some k_ ≠ (v494 : Value).ownBlock ∧ some k_ ≠ (v497 : Value).ownBlock ∧ k_ ≠ gb471 ∧ k_ ≠ gb478) (.slice Ao19 t479.length co19) t479) ∧ Aside0 (Kd.V (Kd.int .i64) 3 wc w.heap.size (fun k_ => some k_ ≠ (v494 : Value).ownBlock ∧ some k_ ≠ (v497 : Value).ownBlock ∧ k_ ≠ gb471 ∧ k_ ≠ gb478) (.slice Ao31 t482.length co31) t482) ∧ Aside0 (Kd.V (Kd.int .i64) 3 wc w.heap.size (fun k_ => some k_ ≠ (v494 : Value).ownBlock ∧ some k_ ≠ (v497 : Value).ownBlock ∧ k_ ≠ gb471 ∧ k_ ≠ gb478) (.slice Ao32 t486.length co32) t486) ∧ Aside0 (Kd.N (Kd.slice 4 Kd.bool) 30 wc w.heap.size (fun k_ => some k_ ≠ (v497 : Value).ownBlock ∧ k_ ≠ gb471 ∧ k_ ≠ gb478) v494 y493) ∧ Aside0 (Kd.R (Kd.int .i64) 3 wc w.heap.size (fun _ => True) v497 x15_38) ∧ Aside0 (Kd.N (Kd.slice 4 Kd.bool) 30 wc w.heap.size (fun k_ => some k_ ≠ (v494 : Value).ownBlock ∧ some k_ ≠ (v497 : Value).ownBlock ∧ some k_ ≠ ((.slice Ao16 t475.length co16) : Value).ownBlock ∧ k_ ≠ gb471 ∧ k_ ≠ gb478) (.slice Ao13 t472.length co13) t472) ∧ Aside0 (Kd.N (Kd.slice 4 Kd.bool) 30 wc w.heap.size (fun k_ => some k_ ≠ (v494 : Value).ownBlock ∧ some k_ ≠ (v497 : Value).ownBlock ∧ some k_ ≠ ((.slice Ao13 t472.length co13) : Value).ownBlock ∧ k_ ≠ gb471 ∧ k_ ≠ gb478) (.slice Ao16 t475.length co16) t475) ∧ Aside0 (wc.heap[gb471]? = some (.cells #[(.slice A1_0 l1_0.length c1_0), (.slice A1_1 l1_1.length c1_1)] 40 (0, 0))) ∧ Aside0 (wc.heap[gb478]? = some (.cells #[(.slice Ao13 t472.length co13), (.slice Ao16 t475.length co16)] 43 (0, 0))) ∧ Aside0 (Below w.heap.size w wc))
            case first =>
             have H := HC39.out
             clear HC39
             by_cases c40 : 0 ≤ x17_2
             ·
              rw [if_pos c40] at H
              have c40b0 : decide (0 ≤ x17_2) = true := decide_eq_true c40
              clear c40
              (first | rw [c40b0] | (simp only [i64_w, i32_w]; rw [c40b0]) | skip)
              obtain ⟨ji41, hji41⟩ : ∃ j_ : Int, (shl .i64 1 (t486.length : Int)) = j_ := ⟨_, rfl⟩
              replace H : ((foretellkeep_picked.f (rd l2 x17_2) (ji41)).bind fun t500 => (if x17_2 < (x15_2.length : Int) then (foretellkeep_ClaimOnly.j2 k2 l2 t479 t482 t486 (wrap64 ((t472.length : Int) + (t475.length : Int))) y493 (x15_2.set (x17_2 : Int).toNat t500) x16_2 x17_2 t472 t475) else (none))) = some r := by first | (rw [hji41] at H; exact H) | (simp only [hji41] at H ⊢; exact H)
              have hji41_ : (IntKind.i64.wrap (1 * 2 ^ min (t486.length : Int).toNat 64)) = ji41 := hji41
              have hji41z : (t486.length : Int) ≤ 64 → (IntKind.i64.wrap (1 * 2 ^ (t486.length : Int).toNat)) = ji41 := shl_small hji41
              have hji41p : (IntKind.i64.wrap (1 * 2 ^ min t486.length 64)) = ji41 := hji41_
              have hji41q : (t486.length : Int) ≤ 64 → (IntKind.i64.wrap (1 * 2 ^ t486.length)) = ji41 := hji41z
              have hji41r : (IntKind.i64.wrap (2 ^ min t486.length 64)) = ji41 := by have h_ := hji41p; rw [Int.one_mul] at h_; exact h_
              have hji41s : (t486.length : Int) ≤ 64 → (IntKind.i64.wrap (2 ^ t486.length)) = ji41 := fun hle_ => by have h_ := hji41q hle_; rw [Int.one_mul] at h_; exact h_
              have hji41u : (IntKind.i64.wrap (2 ^ min (t486.length : Int).toNat 64)) = ji41 := by have h_ := hji41_; rw [Int.one_mul] at h_; exact h_
              have hji41v : (t486.length : Int) ≤ 64 → (IntKind.i64.wrap (2 ^ (t486.length : Int).toNat)) = ji41 := fun hle_ => by have h_ := hji41z hle_; rw [Int.one_mul] at h_; exact h_
              have hji41y : (wrap64 (1 * 2 ^ min (t486.length : Int).toNat 64)) = ji41 := (i64_w _).symm.trans hji41_
              have hji41x : (t486.length : Int) ≤ 64 → (wrap64 (1 * 2 ^ (t486.length : Int).toNat)) = ji41 := fun h_ => (i64_w _).symm.trans (hji41z h_)
              replace H := Option.bind_eq_some_iff.mp H
              obtain ⟨t500, A420, H⟩ := H
              replace H : (if x17_2 < (x15_2.length : Int) then (foretellkeep_ClaimOnly.j2 k2 l2 t479 t482 t486 (wrap64 ((t472.length : Int) + (t475.length : Int))) y493 (x15_2.set (x17_2 : Int).toNat t500) x16_2 x17_2 t472 t475) else (none)) = some r := H
              have A42 := Aside0.mk A420
              clear A420
              by_cases c43 : x17_2 < (x15_2.length : Int)
              ·
               rw [if_pos c43] at H
               have c43b0 : decide (x17_2 < (x15_2.length : Int)) = true := decide_eq_true c43
               clear c43
               obtain ⟨y501, hy501⟩ : ∃ y_ : List Int, y_ = (x15_2.set (x17_2 : Int).toNat t500) := ⟨_, rfl⟩
               replace H : (foretellkeep_ClaimOnly.j2 k2 l2 t479 t482 t486 (wrap64 ((t472.length : Int) + (t475.length : Int))) y493 y501 x16_2 x17_2 t472 t475) = some r := by first | (rw [hy501]; with_reducible exact H) | (have H2_ := (Option.bind_some _ _).symm.trans H; rw [hy501]; with_reducible exact H2_) | (have H2_ := (Option.bind_some _ _).symm.trans H; with_reducible exact H2_) | with_reducible exact H | (rw [hy501]; exact H) | exact H
               have Ny501 := Aside0.mk hy501
               clear hy501
               have H' := Aside0.mk H
               clear H
               obtain ⟨Ao45, co45, eo45⟩ := Kd.R_slice HO_15.out
               subst eo45
               try go_wp2
               have n0_ := Aside0.mk (Kd.V_drew HO_8.out)
               have n1_ := Aside0.mk (Kd.V_drew HO_9.out)
               have n2_ := Aside0.mk (Kd.V_drew HO_11.out)
               have n3_ := Aside0.mk (Kd.N_drew HO_14.out)
               have n4_ := Aside0.mk (Kd.R_drew HO_15.out)
               have n5_ := Aside0.mk (Kd.N_drew HO_479000.out)
               have n6_ := Aside0.mk (Kd.N_drew HO_479001.out)
               have n7_ := Aside0.mk (blk_drew BK471.out)
               have n8_ := Aside0.mk (blk_drew BK478.out)
               have n9_ := Aside0.mk (below_drew1 HB.out)
               clear HO_8
               clear HO_9
               clear HO_11
               clear HO_14
               clear HO_15
               clear HO_479000
               clear HO_479001
               clear BK471
               clear BK478
               clear HB
               have HO_8 := n0_
               have HO_9 := n1_
               have HO_11 := n2_
               have HO_14 := n3_
               have HO_15 := n4_
               have HO_479000 := n5_
               have HO_479001 := n6_
               have BK471 := n7_
               have BK478 := n8_
               have HB := n9_
               clear n0_ n1_ n2_ n3_ n4_ n5_ n6_ n7_ n8_ n9_
               have p499 : 0 ≤ (x17_2 : Int) := of_decide_eq_true (by first | (with_reducible assumption) | assumption)
               have q499 : x17_2 < (l2.length : Int) := of_decide_eq_true (by first | (with_reducible assumption) | assumption)
               obtain ⟨ad499, e499, hx499_0⟩ := Kd.at_int HR2.out x17_2 p499 q499
               have hw499_0 := hx499_0
               cases e499
               replace hx499_0 := (HB.out.cell (World.block_lt_of_cell? w _ hx499_0)).trans hx499_0
               replace p499 := eq_true p499
               replace q499 := eq_true q499
               refine start_ (n := 12) (S := fun w' => w'.cell? (ad499.add (x17_2).toNat) = some (.int .i64 (rd l2 x17_2))) (ds := [11]) #[false, false, false, false, false, false, false, false, false, false, false, false] (by kernel_rfl) rfl rfl (((HB.out.cell (World.block_lt_of_cell? w _ hw499_0)).trans hw499_0)) (fun hHeld => ?_); refine with_tabW foretellkeep_ClaimOnly.tab14 foretellkeep_ClaimOnly.bits14 (fun HT_ HW_ => ?_)
               generalize wr.drew = w46 at HO_8 HO_9 HO_11 HO_14 HO_15 HO_479000 HO_479001 BK471 BK478 HB hx499_0 hHeld ⊢
               refine pure_ (i := 0) (N := some 79) (v := ?_) (a' := ?_) #[true, false, false, false, false, false, false, false, false, false, false, false] rfl rfl (any_of HT_.out (by kernel_rfl)) (fun _ _ _ h => h) (Or.inl ⟨by rfl, ?_⟩) ?_ ?_
               rotate_left
               ·
                intro w'
                go_simp
                with_reducible rfl
               rotate_left
               ·
                simp only [Act.put, List.setIfInBounds_toArray, List.set_cons_zero, List.set_cons_succ, i64_w, i32_w]
                rfl
               refine pure_ (i := 1) (N := some 80) (v := ?_) (a' := ?_) #[true, true, false, false, false, false, false, false, false, false, false, false] rfl rfl (any_of HT_.out (by kernel_rfl)) (fun _ _ _ h => h) (Or.inl ⟨by rfl, ?_⟩) ?_ ?_
               rotate_left
               ·
                intro w'
                go_simp
                with_reducible rfl
               rotate_left
               ·
                simp only [Act.put, List.setIfInBounds_toArray, List.set_cons_zero, List.set_cons_succ, i64_w, i32_w]
                rfl
               refine pure_ (i := 2) (N := some 81) (v := ?_) (a' := ?_) #[true, true, true, false, false, false, false, false, false, false, false, false] rfl rfl (any_of HT_.out (by kernel_rfl)) (fun _ _ _ h => h) (Or.inl ⟨by rfl, ?_⟩) ?_ ?_
               rotate_left
               ·
                intro w'
                go_simp
                with_reducible rfl
               rotate_left
               ·
                simp only [Act.put, List.setIfInBounds_toArray, List.set_cons_zero, List.set_cons_succ, i64_w, i32_w]
                rfl
               refine pure_ (i := 3) (N := some 82) (v := ?_) (a' := ?_) #[true, true, true, true, false, false, false, false, false, false, false, false] rfl rfl (any_of HT_.out (by kernel_rfl)) (fun _ _ _ h => h) (Or.inl ⟨by rfl, ?_⟩) ?_ ?_
               rotate_left
               ·
                intro w'
                go_simp
                with_reducible rfl
               rotate_left
               ·
                simp only [Act.put, List.setIfInBounds_toArray, List.set_cons_zero, List.set_cons_succ, i64_w, i32_w]
                rfl
               refine pure_ (i := 4) (N := some 83) (v := ?_) (a' := ?_) #[true, true, true, true, true, false, false, false, false, false, false, false] rfl rfl (any_of HT_.out (by kernel_rfl)) (fun _ _ _ h => h) (Or.inl ⟨by rfl, ?_⟩) ?_ ?_
               rotate_left
               ·
                intro w'
                go_simp
                with_reducible rfl
               rotate_left
               ·
                simp only [Act.put, List.setIfInBounds_toArray, List.set_cons_zero, List.set_cons_succ, i64_w, i32_w]
                rfl
               refine pure_ (i := 6) (N := some 85) (v := ?_) (a' := ?_) #[true, true, true, true, true, false, true, false, false, false, false, false] rfl rfl (any_of HT_.out (by kernel_rfl)) (fun _ _ _ h => h) (Or.inl ⟨by rfl, ?_⟩) ?_ ?_
               rotate_left
               ·
                intro w'
                go_simp
                with_reducible rfl
               rotate_left
               ·
                simp only [Act.put, List.setIfInBounds_toArray, List.set_cons_zero, List.set_cons_succ, i64_w, i32_w]
                rfl
               refine pure_ (i := 7) (N := some 86) (v := ?_) (a' := ?_) #[true, true, true, true, true, false, true, true, false, false, false, false] rfl rfl (any_of HT_.out (by kernel_rfl)) (fun _ _ _ h => h) (Or.inl ⟨by rfl, ?_⟩) ?_ ?_
               rotate_left
               ·
                intro w'
                go_simp
                with_reducible rfl
               rotate_left
               ·
                simp only [Act.put, List.setIfInBounds_toArray, List.set_cons_zero, List.set_cons_succ, i64_w, i32_w]
                rfl
               refine pure_ (i := 8) (N := some 87) (v := ?_) (a' := ?_) #[true, true, true, true, true, false, true, true, true, false, false, false] rfl rfl (any_of HT_.out (by kernel_rfl)) (fun _ _ _ h => h) (Or.inl ⟨by rfl, ?_⟩) ?_ ?_
               rotate_left
               ·
                intro w'
                go_simp
                with_reducible rfl
               rotate_left
               ·
                simp only [Act.put, List.setIfInBounds_toArray, List.set_cons_zero, List.set_cons_succ, i64_w, i32_w]
                rfl
               refine take_ (i := 5) (N := some 84) (v := ?_) (a' := ?_) #[true, true, true, true, true, true, true, true, true, false, false, false] rfl rfl (take_ofW HT_.out HW_.out (by kernel_rfl)) (fun _ _ _ h => h) (Or.inl ⟨by rfl, ?_⟩) hHeld ?_ ?_
               rotate_left
               ·
                intro w' s0
                go_simp
                with_reducible rfl
               rotate_left
               ·
                simp only [Act.put, List.setIfInBounds_toArray, List.set_cons_zero, List.set_cons_succ, i64_w, i32_w]
                rfl
               refine one_ (i := 9) (N := some 88) #[true, true, true, true, true, true, true, true, true, true, false, false] rfl rfl (one_of HT_.out (by kernel_rfl)) (by decide) (fun K hK => ?_)
               refine goes_ Tryd.func18 (by kernel_rfl) rfl #[.int .i64 (rd l2 x17_2), .int .i64 ji41] (by rfl) rfl rfl (by (try simp only [List.map_toArray, List.map_cons, List.map_nil]); first | done | (simp only [hji41]; rfl) | rfl | (simp only [List.length_drop, List.length_take]; rfl)) ?_
               with_reducible refine (picked_same (rd l2 x17_2) ji41 t500 _ A42.out).mono ?_
               rintro e w' ⟨rfl, hww_⟩
               obtain rfl := hww_
               refine ⟨_, rfl, ?_⟩
               have p44 : 0 ≤ (x17_2 : Int) := of_decide_eq_true (by first | (with_reducible assumption) | assumption)
               have q44 : (x17_2 : Int) < ((x15_2.length : Int) : Int) := of_decide_eq_true (by first | (with_reducible assumption) | assumption)
               obtain ⟨go44, co44, eo44, gb44, gl44, cl44, HG44⟩ := Kd.R_form HO_15.out (by omega)
               (first | cases eo44 | (injection eo44 with ea_ en_ ec_; (first | subst ea_ | (injection ea_ with ea_; subst ea_)); subst ec_; clear en_))
               have GB44 := Aside0.mk gb44
               have GG44 := Aside0.mk HG44
               clear gb44 gl44 HG44
               obtain ⟨hx44_0, hf44_0⟩ := Kd.R_celln 0 HO_15.out (x17_2 : Int) p44 q44
               replace p44 := eq_true p44
               replace q44 := eq_true q44
               have HP47 := Kd.R_putn HO_15.out (x17_2 : Int) t500
               rw [← Ny501.out] at HP47
               have HQ47 := Aside0.mk HP47
               clear HP47
               refine hK.out _ _ (((HB.out.cell (World.block_lt_of_cell? w _ hw499_0)).trans hw499_0)) (fun hHeld => ?_)
               clear hK K
               refine norm_ (a' := ?_) ?_ ?_
               rotate_left
               ·
                show Act.put _ (some 88) _ = _
                simp only [Act.put, List.setIfInBounds_toArray, List.set_cons_zero, List.set_cons_succ, i64_w, i32_w]
                rfl
               refine pure_ (i := 10) (N := some 89) (v := ?_) (a' := ?_) #[true, true, true, true, true, true, true, true, true, true, true, false] rfl rfl (any_of HT_.out (by kernel_rfl)) (fun _ _ _ h => h) (Or.inl ⟨by rfl, ?_⟩) ?_ ?_
               rotate_left
               ·
                intro w'
                go_simp
                with_reducible rfl
               rotate_left
               ·
                simp only [Act.put, List.setIfInBounds_toArray, List.set_cons_zero, List.set_cons_succ, i64_w, i32_w]
                rfl
               refine last_ (i := 11) (N := none) #[true, true, true, true, true, true, true, true, true, true, true, true] rfl rfl (one_of HT_.out (by kernel_rfl)) (by decide) (fun K hK => ?_)
               refine skip_ (w1 := ?_) (by rfl) rfl ?_ ?_
               rotate_left
               ·
                go_simp
                rfl
               refine hK.out _ _ ?_
               clear hK K
               refine done_ (done_of HT_.out (by kernel_rfl)) ?_
               try go_wp2
               go_meet
               case rel => exact ⟨_, (y501), (by first | exact H' | (rw [hji41]; exact H')), ⟨by have := HJ7.out; have := HK2.out; first | omega | exact Nat.le_refl _⟩, ⟨by (with_reducible repeat (first | apply Kd.V_alloc | apply Kd.V_drewN | apply Kd.V_drew)); exact Kd.V_mono (Kd.V_far (p := ⟨go44, (x17_2 : Int).toNat, none⟩) (Kd.V_mono HO_8.out (fun k_ hk => (⟨hk, fun e_ => hk.2.1 (by rw [e_]; rfl)⟩ : _ ∧ k_ ≠ go44))) (fun _ hk => hk.2) (.int .i64 t500)) (fun _ hk => ⟨hk.1.1, ⟨hk.1.2.1, ⟨hk.1.2.2.1, hk.1.2.2.2⟩⟩⟩)⟩, ⟨by (with_reducible repeat (first | apply Kd.V_alloc | apply Kd.V_drewN | apply Kd.V_drew)); exact Kd.V_mono (Kd.V_far (p := ⟨go44, (x17_2 : Int).toNat, none⟩) (Kd.V_mono HO_9.out (fun k_ hk => (⟨hk, fun e_ => hk.2.1 (by rw [e_]; rfl)⟩ : _ ∧ k_ ≠ go44))) (fun _ hk => hk.2) (.int .i64 t500)) (fun _ hk => ⟨hk.1.1, ⟨hk.1.2.1, ⟨hk.1.2.2.1, hk.1.2.2.2⟩⟩⟩)⟩, ⟨by (with_reducible repeat (first | apply Kd.V_alloc | apply Kd.V_drewN | apply Kd.V_drew)); exact Kd.V_mono (Kd.V_far (p := ⟨go44, (x17_2 : Int).toNat, none⟩) (Kd.V_mono HO_11.out (fun k_ hk => (⟨hk, fun e_ => hk.2.1 (by rw [e_]; rfl)⟩ : _ ∧ k_ ≠ go44))) (fun _ hk => hk.2) (.int .i64 t500)) (fun _ hk => ⟨hk.1.1, ⟨hk.1.2.1, ⟨hk.1.2.2.1, hk.1.2.2.2⟩⟩⟩)⟩, ⟨by (with_reducible repeat (first | apply Kd.N_alloc | apply Kd.N_drewN | apply Kd.N_drew)); exact Kd.N_mono (Kd.N_far (p := ⟨go44, (x17_2 : Int).toNat, none⟩) (Kd.N_mono HO_14.out (fun k_ hk => (⟨hk, fun e_ => hk.1 (by rw [e_]; rfl)⟩ : _ ∧ k_ ≠ go44))) (fun _ hk => hk.2) (.int .i64 t500)) (fun _ hk => ⟨hk.1.1, ⟨hk.1.2.1, hk.1.2.2⟩⟩)⟩, ⟨by (with_reducible repeat (first | apply Kd.R_alloc | apply Kd.R_drewN | apply Kd.R_drew)); exact HQ47.out⟩, ⟨by (with_reducible repeat (first | apply Kd.N_alloc | apply Kd.N_drewN | apply Kd.N_drew)); exact Kd.N_mono (Kd.N_far (p := ⟨go44, (x17_2 : Int).toNat, none⟩) (Kd.N_mono HO_479000.out (fun k_ hk => (⟨hk, fun e_ => hk.2.1 (by rw [e_]; rfl)⟩ : _ ∧ k_ ≠ go44))) (fun _ hk => hk.2) (.int .i64 t500)) (fun _ hk => ⟨hk.1.1, ⟨hk.1.2.1, ⟨hk.1.2.2.1, ⟨hk.1.2.2.2.1, hk.1.2.2.2.2⟩⟩⟩⟩)⟩, ⟨by (with_reducible repeat (first | apply Kd.N_alloc | apply Kd.N_drewN | apply Kd.N_drew)); exact Kd.N_mono (Kd.N_far (p := ⟨go44, (x17_2 : Int).toNat, none⟩) (Kd.N_mono HO_479001.out (fun k_ hk => (⟨hk, fun e_ => hk.2.1 (by rw [e_]; rfl)⟩ : _ ∧ k_ ≠ go44))) (fun _ hk => hk.2) (.int .i64 t500)) (fun _ hk => ⟨hk.1.1, ⟨hk.1.2.1, ⟨hk.1.2.2.1, ⟨hk.1.2.2.2.1, hk.1.2.2.2.2⟩⟩⟩⟩)⟩, ⟨by (with_reducible repeat (first | refine blk_drewN ?_ _ | refine blk_drew ?_ | refine blk_alloc ?_ _)); refine blk_far ?_ (by have h_ := Kd.R_ne HO_15.out BK471.out (by decide); intro e_; exact h_ (by rw [e_]; rfl)) _; (with_reducible repeat (first | refine blk_drewN ?_ _ | refine blk_drew ?_ | refine blk_alloc ?_ _)); exact BK471.out⟩, ⟨by (with_reducible repeat (first | refine blk_drewN ?_ _ | refine blk_drew ?_ | refine blk_alloc ?_ _)); refine blk_far ?_ (by have h_ := Kd.R_ne HO_15.out BK478.out (by decide); intro e_; exact h_ (by rw [e_]; rfl)) _; (with_reducible repeat (first | refine blk_drewN ?_ _ | refine blk_drew ?_ | refine blk_alloc ?_ _)); exact BK478.out⟩, ⟨by repeat (first | (with_reducible first | exact HB.out | apply below_alloc | apply pw_below_drewN | apply below_drew1 | refine below_set ?_ GB44.out | refine below_set ?_ GE471.out | refine below_set ?_ GE478.out) | exact HB.out)⟩⟩
              ·
               rw [if_neg c43] at H
               exact absurd H (by simp)
             ·
              rw [if_neg c40] at H
              exact absurd H (by simp)
            case rest =>
             clear HC39
             try clear c1
             try clear c2
             try clear p2
             try clear c3
             try clear c4
             try clear p4
             try clear q4
             try clear hx4
             try clear hf4
             try clear p6
             try clear c13
             try clear c14
             try clear c16
             try clear c17
             try clear c18
             try clear c23
             try clear c23b0
             try clear c23b1
             try clear c24
             try clear c24b0
             try clear c24b1
             try clear c26
             try clear c27
             try clear c28
             try clear c29
             try clear c37
             try clear c37b0
             try clear c38
             try clear c38b0
             try clear c40
             try clear c40b0
             try clear c43
             try clear c43b0
             try clear p44
             try clear q44
             try clear hx44
             try clear hf44
             try clear hcz10_0
             try clear hcz10_1
             try clear hcz15_0
             try clear hcz15_1
             try clear hcz18_0
             try clear hcz18_1
             try clear hcz22_0
             try clear hcz22_1
             try clear hfz10_0
             try clear hfz10_1
             try clear hfz15_0
             try clear hfz15_1
             try clear hfz18_0
             try clear hfz18_1
             try clear hfz22_0
             try clear hfz22_1
             try clear hx44_0
             try clear hx499_0
             try clear p2
             try clear p44
             try clear p499
             try clear p6
             try clear q44
             try clear q499
             obtain ⟨kq, x15_38, HA, HJ38, HO_8, HO_9, HO_11, HO_14, HO_15, HO_479000, HO_479001, BK471, BK478, HB⟩ := hcut
             cases kq with
             | zero => exact absurd HA.out (by simp [foretellkeep_ClaimOnly.j2])
             | succ kj38 =>
              have H := HA.out
              clear HA
              simp only [foretellkeep_ClaimOnly.j2] at H
              by_cases c48 : x16_2 = true
              ·
               subst c48
               have H1 : (foretellkeep_ClaimOnly.l0 kj38 l2 t479 t482 t486 (wrap64 ((t472.length : Int) + (t475.length : Int))) y493 x15_38 true (wrap64 (x17_2 + 1)) t472 t475) = some r := by rw [if_pos rfl] at H; exact H
               clear H
               have H := H1
               clear H1
               have H' := Aside0.mk H
               clear H
               obtain ⟨Ao49, co49, eo49⟩ := Kd.R_slice HO_15.out
               subst eo49
               try go_wp2
               have n0_ := Aside0.mk (Kd.V_drew HO_8.out)
               have n1_ := Aside0.mk (Kd.V_drew HO_9.out)
               have n2_ := Aside0.mk (Kd.V_drew HO_11.out)
               have n3_ := Aside0.mk (Kd.N_drew HO_14.out)
               have n4_ := Aside0.mk (Kd.R_drew HO_15.out)
               have n5_ := Aside0.mk (Kd.N_drew HO_479000.out)
               have n6_ := Aside0.mk (Kd.N_drew HO_479001.out)
               have n7_ := Aside0.mk (blk_drew BK471.out)
               have n8_ := Aside0.mk (blk_drew BK478.out)
               have n9_ := Aside0.mk (below_drew1 HB.out)
               clear HO_8
               clear HO_9
               clear HO_11
               clear HO_14
               clear HO_15
               clear HO_479000
               clear HO_479001
               clear BK471
               clear BK478
               clear HB
               have HO_8 := n0_
               have HO_9 := n1_
               have HO_11 := n2_
               have HO_14 := n3_
               have HO_15 := n4_
               have HO_479000 := n5_
               have HO_479001 := n6_
               have BK471 := n7_
               have BK478 := n8_
               have HB := n9_
               clear n0_ n1_ n2_ n3_ n4_ n5_ n6_ n7_ n8_ n9_
               refine start_ (n := 13) (S := fun w' => True) (ds := []) #[false, false, false, false, false, false, false, false, false, false, false, false, false] (by kernel_rfl) rfl rfl trivial (fun hHeld => ?_); refine with_tabW foretellkeep_ClaimOnly.tab15 foretellkeep_ClaimOnly.bits15 (fun HT_ HW_ => ?_)
               generalize wc.drew = w50 at HO_8 HO_9 HO_11 HO_14 HO_15 HO_479000 HO_479001 BK471 BK478 HB hHeld ⊢
               refine pure_ (i := 0) (N := some 90) (v := ?_) (a' := ?_) #[true, false, false, false, false, false, false, false, false, false, false, false, false] rfl rfl (any_of HT_.out (by kernel_rfl)) (fun _ _ _ h => h) (Or.inl ⟨by rfl, ?_⟩) ?_ ?_
               rotate_left
               ·
                intro w'
                go_simp
                with_reducible rfl
               rotate_left
               ·
                simp only [Act.put, List.setIfInBounds_toArray, List.set_cons_zero, List.set_cons_succ, i64_w, i32_w]
                rfl
               refine pure_ (i := 1) (N := some 91) (v := ?_) (a' := ?_) #[true, true, false, false, false, false, false, false, false, false, false, false, false] rfl rfl (any_of HT_.out (by kernel_rfl)) (fun _ _ _ h => h) (Or.inl ⟨by rfl, ?_⟩) ?_ ?_
               rotate_left
               ·
                intro w'
                go_simp
                with_reducible rfl
               rotate_left
               ·
                simp only [Act.put, List.setIfInBounds_toArray, List.set_cons_zero, List.set_cons_succ, i64_w, i32_w]
                rfl
               refine pure_ (i := 2) (N := some 92) (v := undef) (a' := ?_) #[true, true, true, false, false, false, false, false, false, false, false, false, false] rfl rfl (any_of HT_.out (by kernel_rfl)) (fun _ _ _ h => h) (Or.inr ⟨by rfl, rfl⟩) ?_ ?_
               rotate_left
               ·
                simp only [Act.put, List.setIfInBounds_toArray, List.set_cons_zero, List.set_cons_succ, i64_w, i32_w]
                rfl
               refine pure_ (i := 3) (N := some 93) (v := undef) (a' := ?_) #[true, true, true, true, false, false, false, false, false, false, false, false, false] rfl rfl (any_of HT_.out (by kernel_rfl)) (fun _ _ _ h => h) (Or.inr ⟨by rfl, rfl⟩) ?_ ?_
               rotate_left
               ·
                simp only [Act.put, List.setIfInBounds_toArray, List.set_cons_zero, List.set_cons_succ, i64_w, i32_w]
                rfl
               refine pure_ (i := 4) (N := some 94) (v := undef) (a' := ?_) #[true, true, true, true, true, false, false, false, false, false, false, false, false] rfl rfl (any_of HT_.out (by kernel_rfl)) (fun _ _ _ h => h) (Or.inr ⟨by rfl, rfl⟩) ?_ ?_
               rotate_left
               ·
                simp only [Act.put, List.setIfInBounds_toArray, List.set_cons_zero, List.set_cons_succ, i64_w, i32_w]
                rfl
               refine pure_ (i := 5) (N := some 95) (v := undef) (a' := ?_) #[true, true, true, true, true, true, false, false, false, false, false, false, false] rfl rfl (any_of HT_.out (by kernel_rfl)) (fun _ _ _ h => h) (Or.inr ⟨by rfl, rfl⟩) ?_ ?_
               rotate_left
               ·
                simp only [Act.put, List.setIfInBounds_toArray, List.set_cons_zero, List.set_cons_succ, i64_w, i32_w]
                rfl
               refine pure_ (i := 6) (N := some 96) (v := undef) (a' := ?_) #[true, true, true, true, true, true, true, false, false, false, false, false, false] rfl rfl (any_of HT_.out (by kernel_rfl)) (fun _ _ _ h => h) (Or.inr ⟨by rfl, rfl⟩) ?_ ?_
               rotate_left
               ·
                simp only [Act.put, List.setIfInBounds_toArray, List.set_cons_zero, List.set_cons_succ, i64_w, i32_w]
                rfl
               refine pure_ (i := 7) (N := some 97) (v := undef) (a' := ?_) #[true, true, true, true, true, true, true, true, false, false, false, false, false] rfl rfl (any_of HT_.out (by kernel_rfl)) (fun _ _ _ h => h) (Or.inr ⟨by rfl, rfl⟩) ?_ ?_
               rotate_left
               ·
                simp only [Act.put, List.setIfInBounds_toArray, List.set_cons_zero, List.set_cons_succ, i64_w, i32_w]
                rfl
               refine pure_ (i := 8) (N := some 98) (v := undef) (a' := ?_) #[true, true, true, true, true, true, true, true, true, false, false, false, false] rfl rfl (any_of HT_.out (by kernel_rfl)) (fun _ _ _ h => h) (Or.inr ⟨by rfl, rfl⟩) ?_ ?_
               rotate_left
               ·
                simp only [Act.put, List.setIfInBounds_toArray, List.set_cons_zero, List.set_cons_succ, i64_w, i32_w]
                rfl
               refine pure_ (i := 9) (N := some 99) (v := undef) (a' := ?_) #[true, true, true, true, true, true, true, true, true, true, false, false, false] rfl rfl (any_of HT_.out (by kernel_rfl)) (fun _ _ _ h => h) (Or.inr ⟨by rfl, rfl⟩) ?_ ?_
               rotate_left
               ·
                simp only [Act.put, List.setIfInBounds_toArray, List.set_cons_zero, List.set_cons_succ, i64_w, i32_w]
                rfl
               refine pure_ (i := 10) (N := some 100) (v := undef) (a' := ?_) #[true, true, true, true, true, true, true, true, true, true, true, false, false] rfl rfl (any_of HT_.out (by kernel_rfl)) (fun _ _ _ h => h) (Or.inr ⟨by rfl, rfl⟩) ?_ ?_
               rotate_left
               ·
                simp only [Act.put, List.setIfInBounds_toArray, List.set_cons_zero, List.set_cons_succ, i64_w, i32_w]
                rfl
               refine pure_ (i := 11) (N := some 101) (v := ?_) (a' := ?_) #[true, true, true, true, true, true, true, true, true, true, true, true, false] rfl rfl (any_of HT_.out (by kernel_rfl)) (fun _ _ _ h => h) (Or.inl ⟨by rfl, ?_⟩) ?_ ?_
               rotate_left
               ·
                intro w'
                go_simp
                with_reducible rfl
               rotate_left
               ·
                simp only [Act.put, List.setIfInBounds_toArray, List.set_cons_zero, List.set_cons_succ, i64_w, i32_w]
                rfl
               refine pure_ (i := 12) (N := some 16) (v := ?_) (a' := ?_) #[true, true, true, true, true, true, true, true, true, true, true, true, true] rfl rfl (any_of HT_.out (by kernel_rfl)) (fun _ _ _ h => h) (Or.inl ⟨by rfl, ?_⟩) ?_ ?_
               rotate_left
               ·
                intro w'
                go_simp
                with_reducible rfl
               rotate_left
               ·
                simp only [Act.put, List.setIfInBounds_toArray, List.set_cons_zero, List.set_cons_succ, i64_w, i32_w]
                rfl
               refine done_ (done_of HT_.out (by kernel_rfl)) ?_
               try go_wp2
               go_roundg kj38
               case measure => have := HJ7.out; have := HK2.out; have := HJ38.out; omega
               case rel => exact ⟨(x15_38), (true), (wrap64 (x17_2 + 1)), (by first | rfl | (simp; done) | (simp [*]; done)), (by first | rfl | (simp; done) | (simp [*]; done)), (by first | exact H' | (rw [hji41]; exact H')), ⟨by have := HJ7.out; have := HK2.out; have := HJ38.out; omega⟩, ⟨by (with_reducible repeat (first | apply Kd.V_alloc | apply Kd.V_drewN | apply Kd.V_drew)); exact HO_8.out⟩, ⟨by (with_reducible repeat (first | apply Kd.V_alloc | apply Kd.V_drewN | apply Kd.V_drew)); exact HO_9.out⟩, ⟨by (with_reducible repeat (first | apply Kd.V_alloc | apply Kd.V_drewN | apply Kd.V_drew)); exact HO_11.out⟩, ⟨by (with_reducible repeat (first | apply Kd.N_alloc | apply Kd.N_drewN | apply Kd.N_drew)); exact HO_14.out⟩, ⟨by (with_reducible repeat (first | apply Kd.R_alloc | apply Kd.R_drewN | apply Kd.R_drew)); exact HO_15.out⟩, ⟨by (with_reducible repeat (first | apply Kd.N_alloc | apply Kd.N_drewN | apply Kd.N_drew)); exact HO_479000.out⟩, ⟨by (with_reducible repeat (first | apply Kd.N_alloc | apply Kd.N_drewN | apply Kd.N_drew)); exact HO_479001.out⟩, ⟨by (with_reducible repeat (first | refine blk_drewN ?_ _ | refine blk_drew ?_ | refine blk_alloc ?_ _)); exact BK471.out⟩, ⟨by (with_reducible repeat (first | refine blk_drewN ?_ _ | refine blk_drew ?_ | refine blk_alloc ?_ _)); exact BK478.out⟩, ⟨by repeat (first | (with_reducible first | exact HB.out | apply below_alloc | apply pw_below_drewN | apply below_drew1 | refine below_set ?_ GE471.out | refine below_set ?_ GE478.out) | exact HB.out)⟩⟩
              ·
               replace c48 := Bool.eq_false_iff.mpr c48
               subst c48
               have H1 : (if 0 ≤ x17_2 then (if x17_2 < (x15_38.length : Int) then (if x17_2 < (t482.length : Int) then (foretellkeep_ClaimOnly.l0 kj38 l2 t479 t482 t486 (wrap64 ((t472.length : Int) + (t475.length : Int))) y493 x15_38 ((rd x15_38 x17_2) != (rd t482 x17_2)) (wrap64 (x17_2 + 1)) t472 t475) else (none)) else (none)) else (none)) = some r := by rw [if_neg (show ¬ (false = true) by decide)] at H; exact H
               clear H
               have H := H1
               clear H1
               by_cases c51 : 0 ≤ x17_2
               ·
                rw [if_pos c51] at H
                have c51b0 : decide (0 ≤ x17_2) = true := decide_eq_true c51
                clear c51
                by_cases c52 : x17_2 < (x15_38.length : Int)
                ·
                 rw [if_pos c52] at H
                 have c52b0 : decide (x17_2 < (x15_38.length : Int)) = true := decide_eq_true c52
                 clear c52
                 by_cases c53 : x17_2 < (t482.length : Int)
                 ·
                  rw [if_pos c53] at H
                  have c53b0 : decide (x17_2 < (t482.length : Int)) = true := decide_eq_true c53
                  clear c53
                  have H' := Aside0.mk H
                  clear H
                  obtain ⟨Ao54, co54, eo54⟩ := Kd.R_slice HO_15.out
                  subst eo54
                  try go_wp2
                  have n0_ := Aside0.mk (Kd.V_drew HO_8.out)
                  have n1_ := Aside0.mk (Kd.V_drew HO_9.out)
                  have n2_ := Aside0.mk (Kd.V_drew HO_11.out)
                  have n3_ := Aside0.mk (Kd.N_drew HO_14.out)
                  have n4_ := Aside0.mk (Kd.R_drew HO_15.out)
                  have n5_ := Aside0.mk (Kd.N_drew HO_479000.out)
                  have n6_ := Aside0.mk (Kd.N_drew HO_479001.out)
                  have n7_ := Aside0.mk (blk_drew BK471.out)
                  have n8_ := Aside0.mk (blk_drew BK478.out)
                  have n9_ := Aside0.mk (below_drew1 HB.out)
                  clear HO_8
                  clear HO_9
                  clear HO_11
                  clear HO_14
                  clear HO_15
                  clear HO_479000
                  clear HO_479001
                  clear BK471
                  clear BK478
                  clear HB
                  have HO_8 := n0_
                  have HO_9 := n1_
                  have HO_11 := n2_
                  have HO_14 := n3_
                  have HO_15 := n4_
                  have HO_479000 := n5_
                  have HO_479001 := n6_
                  have BK471 := n7_
                  have BK478 := n8_
                  have HB := n9_
                  clear n0_ n1_ n2_ n3_ n4_ n5_ n6_ n7_ n8_ n9_
                  have p502 : 0 ≤ (x17_2 : Int) := of_decide_eq_true (by first | (with_reducible assumption) | assumption)
                  have q502 : x17_2 < (x15_38.length : Int) := of_decide_eq_true (by first | (with_reducible assumption) | assumption)
                  obtain ⟨ad502, e502, hx502_0⟩ := Kd.at_int (Kd.R_reads' HO_15.out).2.2 x17_2 p502 q502
                  cases e502
                  replace p502 := eq_true p502
                  replace q502 := eq_true q502
                  have p503 : 0 ≤ (x17_2 : Int) := of_decide_eq_true (by first | (with_reducible assumption) | assumption)
                  have q503 : x17_2 < (t482.length : Int) := of_decide_eq_true (by first | (with_reducible assumption) | assumption)
                  obtain ⟨ad503, e503, hx503_0⟩ := Kd.at_int (Kd.V_reads' HO_9.out).2.2 x17_2 p503 q503
                  cases e503
                  replace p503 := eq_true p503
                  replace q503 := eq_true q503
                  refine start_ (n := 13) (S := fun w' => w'.cell? (ad502.add (x17_2).toNat) = some (.int .i64 (rd x15_38 x17_2)) ∧ w'.cell? (ad503.add (x17_2).toNat) = some (.int .i64 (rd t482 x17_2))) (ds := []) #[false, false, false, false, false, false, false, false, false, false, false, false, false] (by kernel_rfl) rfl rfl ⟨hx502_0, hx503_0⟩ (fun hHeld => ?_); refine with_tabW foretellkeep_ClaimOnly.tab15 foretellkeep_ClaimOnly.bits15 (fun HT_ HW_ => ?_)
                  generalize wc.drew = w55 at HO_8 HO_9 HO_11 HO_14 HO_15 HO_479000 HO_479001 BK471 BK478 HB hx502_0 hx503_0 hHeld ⊢
                  refine pure_ (i := 0) (N := some 90) (v := ?_) (a' := ?_) #[true, false, false, false, false, false, false, false, false, false, false, false, false] rfl rfl (any_of HT_.out (by kernel_rfl)) (fun _ _ _ h => h) (Or.inl ⟨by rfl, ?_⟩) ?_ ?_
                  rotate_left
                  ·
                   intro w'
                   go_simp
                   with_reducible rfl
                  rotate_left
                  ·
                   simp only [Act.put, List.setIfInBounds_toArray, List.set_cons_zero, List.set_cons_succ, i64_w, i32_w]
                   rfl
                  refine pure_ (i := 1) (N := some 91) (v := ?_) (a' := ?_) #[true, true, false, false, false, false, false, false, false, false, false, false, false] rfl rfl (any_of HT_.out (by kernel_rfl)) (fun _ _ _ h => h) (Or.inl ⟨by rfl, ?_⟩) ?_ ?_
                  rotate_left
                  ·
                   intro w'
                   go_simp
                   with_reducible rfl
                  rotate_left
                  ·
                   simp only [Act.put, List.setIfInBounds_toArray, List.set_cons_zero, List.set_cons_succ, i64_w, i32_w]
                   rfl
                  refine pure_ (i := 2) (N := some 92) (v := ?_) (a' := ?_) #[true, true, true, false, false, false, false, false, false, false, false, false, false] rfl rfl (any_of HT_.out (by kernel_rfl)) (fun _ _ _ h => h) (Or.inl ⟨by rfl, ?_⟩) ?_ ?_
                  rotate_left
                  ·
                   intro w'
                   go_simp
                   with_reducible rfl
                  rotate_left
                  ·
                   simp only [Act.put, List.setIfInBounds_toArray, List.set_cons_zero, List.set_cons_succ, i64_w, i32_w]
                   rfl
                  refine pure_ (i := 3) (N := some 93) (v := ?_) (a' := ?_) #[true, true, true, true, false, false, false, false, false, false, false, false, false] rfl rfl (any_of HT_.out (by kernel_rfl)) (fun _ _ _ h => h) (Or.inl ⟨by rfl, ?_⟩) ?_ ?_
                  rotate_left
                  ·
                   intro w'
                   go_simp
                   with_reducible rfl
                  rotate_left
                  ·
                   simp only [Act.put, List.setIfInBounds_toArray, List.set_cons_zero, List.set_cons_succ, i64_w, i32_w]
                   rfl
                  refine pure_ (i := 4) (N := some 94) (v := ?_) (a' := ?_) #[true, true, true, true, true, false, false, false, false, false, false, false, false] rfl rfl (any_of HT_.out (by kernel_rfl)) (fun _ _ _ h => h) (Or.inl ⟨by rfl, ?_⟩) ?_ ?_
                  rotate_left
                  ·
                   intro w'
                   go_simp
                   with_reducible rfl
                  rotate_left
                  ·
                   simp only [Act.put, List.setIfInBounds_toArray, List.set_cons_zero, List.set_cons_succ, i64_w, i32_w]
                   rfl
                  refine pure_ (i := 6) (N := some 96) (v := ?_) (a' := ?_) #[true, true, true, true, true, false, true, false, false, false, false, false, false] rfl rfl (any_of HT_.out (by kernel_rfl)) (fun _ _ _ h => h) (Or.inl ⟨by rfl, ?_⟩) ?_ ?_
                  rotate_left
                  ·
                   intro w'
                   go_simp
                   with_reducible rfl
                  rotate_left
                  ·
                   simp only [Act.put, List.setIfInBounds_toArray, List.set_cons_zero, List.set_cons_succ, i64_w, i32_w]
                   rfl
                  refine pure_ (i := 7) (N := some 97) (v := ?_) (a' := ?_) #[true, true, true, true, true, false, true, true, false, false, false, false, false] rfl rfl (any_of HT_.out (by kernel_rfl)) (fun _ _ _ h => h) (Or.inl ⟨by rfl, ?_⟩) ?_ ?_
                  rotate_left
                  ·
                   intro w'
                   go_simp
                   with_reducible rfl
                  rotate_left
                  ·
                   simp only [Act.put, List.setIfInBounds_toArray, List.set_cons_zero, List.set_cons_succ, i64_w, i32_w]
                   rfl
                  refine pure_ (i := 8) (N := some 98) (v := ?_) (a' := ?_) #[true, true, true, true, true, false, true, true, true, false, false, false, false] rfl rfl (any_of HT_.out (by kernel_rfl)) (fun _ _ _ h => h) (Or.inl ⟨by rfl, ?_⟩) ?_ ?_
                  rotate_left
                  ·
                   intro w'
                   go_simp
                   with_reducible rfl
                  rotate_left
                  ·
                   simp only [Act.put, List.setIfInBounds_toArray, List.set_cons_zero, List.set_cons_succ, i64_w, i32_w]
                   rfl
                  refine take_ (i := 5) (N := some 95) (v := ?_) (a' := ?_) #[true, true, true, true, true, true, true, true, true, false, false, false, false] rfl rfl (take_ofW HT_.out HW_.out (by kernel_rfl)) (fun _ _ _ h => h) (Or.inl ⟨by rfl, ?_⟩) hHeld ?_ ?_
                  rotate_left
                  ·
                   rintro w' ⟨s0, s1⟩
                   go_simp
                   with_reducible rfl
                  rotate_left
                  ·
                   simp only [Act.put, List.setIfInBounds_toArray, List.set_cons_zero, List.set_cons_succ, i64_w, i32_w]
                   rfl
                  refine take_ (i := 9) (N := some 99) (v := ?_) (a' := ?_) #[true, true, true, true, true, true, true, true, true, true, false, false, false] rfl rfl (take_ofW HT_.out HW_.out (by kernel_rfl)) (fun _ _ _ h => h) (Or.inl ⟨by rfl, ?_⟩) hHeld ?_ ?_
                  rotate_left
                  ·
                   rintro w' ⟨s0, s1⟩
                   go_simp
                   with_reducible rfl
                  rotate_left
                  ·
                   simp only [Act.put, List.setIfInBounds_toArray, List.set_cons_zero, List.set_cons_succ, i64_w, i32_w]
                   rfl
                  refine pure_ (i := 10) (N := some 100) (v := ?_) (a' := ?_) #[true, true, true, true, true, true, true, true, true, true, true, false, false] rfl rfl (any_of HT_.out (by kernel_rfl)) (fun _ _ _ h => h) (Or.inl ⟨by rfl, ?_⟩) ?_ ?_
                  rotate_left
                  ·
                   intro w'
                   go_simp
                   with_reducible rfl
                  rotate_left
                  ·
                   simp only [Act.put, List.setIfInBounds_toArray, List.set_cons_zero, List.set_cons_succ, i64_w, i32_w]
                   rfl
                  refine pure_ (i := 11) (N := some 101) (v := ?_) (a' := ?_) #[true, true, true, true, true, true, true, true, true, true, true, true, false] rfl rfl (any_of HT_.out (by kernel_rfl)) (fun _ _ _ h => h) (Or.inl ⟨by rfl, ?_⟩) ?_ ?_
                  rotate_left
                  ·
                   intro w'
                   go_simp
                   with_reducible rfl
                  rotate_left
                  ·
                   simp only [Act.put, List.setIfInBounds_toArray, List.set_cons_zero, List.set_cons_succ, i64_w, i32_w]
                   rfl
                  refine pure_ (i := 12) (N := some 16) (v := ?_) (a' := ?_) #[true, true, true, true, true, true, true, true, true, true, true, true, true] rfl rfl (any_of HT_.out (by kernel_rfl)) (fun _ _ _ h => h) (Or.inl ⟨by rfl, ?_⟩) ?_ ?_
                  rotate_left
                  ·
                   intro w'
                   go_simp
                   with_reducible rfl
                  rotate_left
                  ·
                   simp only [Act.put, List.setIfInBounds_toArray, List.set_cons_zero, List.set_cons_succ, i64_w, i32_w]
                   rfl
                  refine done_ (done_of HT_.out (by kernel_rfl)) ?_
                  try go_wp2
                  go_roundg kj38
                  case measure => have := HJ7.out; have := HK2.out; have := HJ38.out; omega
                  case rel => exact ⟨(x15_38), (((rd x15_38 x17_2) != (rd t482 x17_2))), (wrap64 (x17_2 + 1)), (by first | rfl | (simp; done) | (simp [*]; done)), (by first | rfl | (simp; done) | (simp [*]; done)), (by first | exact H' | (rw [hji41]; exact H')), ⟨by have := HJ7.out; have := HK2.out; have := HJ38.out; omega⟩, ⟨by (with_reducible repeat (first | apply Kd.V_alloc | apply Kd.V_drewN | apply Kd.V_drew)); exact HO_8.out⟩, ⟨by (with_reducible repeat (first | apply Kd.V_alloc | apply Kd.V_drewN | apply Kd.V_drew)); exact HO_9.out⟩, ⟨by (with_reducible repeat (first | apply Kd.V_alloc | apply Kd.V_drewN | apply Kd.V_drew)); exact HO_11.out⟩, ⟨by (with_reducible repeat (first | apply Kd.N_alloc | apply Kd.N_drewN | apply Kd.N_drew)); exact HO_14.out⟩, ⟨by (with_reducible repeat (first | apply Kd.R_alloc | apply Kd.R_drewN | apply Kd.R_drew)); exact HO_15.out⟩, ⟨by (with_reducible repeat (first | apply Kd.N_alloc | apply Kd.N_drewN | apply Kd.N_drew)); exact HO_479000.out⟩, ⟨by (with_reducible repeat (first | apply Kd.N_alloc | apply Kd.N_drewN | apply Kd.N_drew)); exact HO_479001.out⟩, ⟨by (with_reducible repeat (first | refine blk_drewN ?_ _ | refine blk_drew ?_ | refine blk_alloc ?_ _)); exact BK471.out⟩, ⟨by (with_reducible repeat (first | refine blk_drewN ?_ _ | refine blk_drew ?_ | refine blk_alloc ?_ _)); exact BK478.out⟩, ⟨by repeat (first | (with_reducible first | exact HB.out | apply below_alloc | apply pw_below_drewN | apply below_drew1 | refine below_set ?_ GE471.out | refine below_set ?_ GE478.out) | exact HB.out)⟩⟩
                 ·
                  rw [if_neg c53] at H
                  exact absurd H (by simp)
                ·
                 rw [if_neg c52] at H
                 exact absurd H (by simp)
               ·
                rw [if_neg c51] at H
                exact absurd H (by simp)
           ·
            rw [if_neg c38] at H
            have c38b0 : decide (x17_2 < (l2.length : Int)) = false := decide_eq_false c38
            clear c38
            have H' := Aside0.mk H
            clear H
            go_wp2
            go_meet
            case rel => exact ⟨_, (x15_2), (x16_2), (by first | rfl | (simp; done) | (simp [*]; done)), (by first | exact H' | (rw [hji41]; exact H')), ⟨by have := HJ7.out; have := HK2.out; first | omega | exact Nat.le_refl _⟩, ⟨by (with_reducible repeat (first | apply Kd.V_alloc | apply Kd.V_drewN | apply Kd.V_drew)); exact HO_8.out⟩, ⟨by (with_reducible repeat (first | apply Kd.V_alloc | apply Kd.V_drewN | apply Kd.V_drew)); exact HO_11.out⟩, ⟨by (with_reducible repeat (first | apply Kd.N_alloc | apply Kd.N_drewN | apply Kd.N_drew)); exact HO_14.out⟩, ⟨by (with_reducible repeat (first | apply Kd.R_alloc | apply Kd.R_drewN | apply Kd.R_drew)); exact HO_15.out⟩, ⟨by (with_reducible repeat (first | apply Kd.N_alloc | apply Kd.N_drewN | apply Kd.N_drew)); exact HO_479000.out⟩, ⟨by (with_reducible repeat (first | apply Kd.N_alloc | apply Kd.N_drewN | apply Kd.N_drew)); exact HO_479001.out⟩, ⟨by (with_reducible repeat (first | refine blk_drewN ?_ _ | refine blk_drew ?_ | refine blk_alloc ?_ _)); exact BK471.out⟩, ⟨by (with_reducible repeat (first | refine blk_drewN ?_ _ | refine blk_drew ?_ | refine blk_alloc ?_ _)); exact BK478.out⟩, ⟨by repeat (first | (with_reducible first | exact HB.out | apply below_alloc | apply pw_below_drewN | apply below_drew1 | refine below_set ?_ GE471.out | refine below_set ?_ GE478.out) | exact HB.out)⟩⟩
          ·
           rw [if_neg c37] at H
           have c37b0 : decide (x17_2 < (wrap64 ((t472.length : Int) + (t475.length : Int)))) = false := decide_eq_false c37
           clear c37
           (first | rw [c37b0] | (simp only [i64_w, i32_w]; rw [c37b0]) | skip)
           have H' := Aside0.mk H
           clear H
           go_wp2
           go_meet
           case rel => exact ⟨_, (x15_2), (x16_2), (by first | rfl | (simp; done) | (simp [*]; done)), (by first | exact H' | (rw [hji41]; exact H')), ⟨by have := HJ7.out; have := HK2.out; first | omega | exact Nat.le_refl _⟩, ⟨by (with_reducible repeat (first | apply Kd.V_alloc | apply Kd.V_drewN | apply Kd.V_drew)); exact HO_8.out⟩, ⟨by (with_reducible repeat (first | apply Kd.V_alloc | apply Kd.V_drewN | apply Kd.V_drew)); exact HO_11.out⟩, ⟨by (with_reducible repeat (first | apply Kd.N_alloc | apply Kd.N_drewN | apply Kd.N_drew)); exact HO_14.out⟩, ⟨by (with_reducible repeat (first | apply Kd.R_alloc | apply Kd.R_drewN | apply Kd.R_drew)); exact HO_15.out⟩, ⟨by (with_reducible repeat (first | apply Kd.N_alloc | apply Kd.N_drewN | apply Kd.N_drew)); exact HO_479000.out⟩, ⟨by (with_reducible repeat (first | apply Kd.N_alloc | apply Kd.N_drewN | apply Kd.N_drew)); exact HO_479001.out⟩, ⟨by (with_reducible repeat (first | refine blk_drewN ?_ _ | refine blk_drew ?_ | refine blk_alloc ?_ _)); exact BK471.out⟩, ⟨by (with_reducible repeat (first | refine blk_drewN ?_ _ | refine blk_drew ?_ | refine blk_alloc ?_ _)); exact BK478.out⟩, ⟨by repeat (first | (with_reducible first | exact HB.out | apply below_alloc | apply pw_below_drewN | apply below_drew1 | refine below_set ?_ GE471.out | refine below_set ?_ GE478.out) | exact HB.out)⟩⟩
       case rest =>
        clear HC30
        try clear c1
        try clear c2
        try clear p2
        try clear c3
        try clear c4
        try clear p4
        try clear q4
        try clear hx4
        try clear hf4
        try clear c5
        try clear p5
        try clear q5
        try clear hx5
        try clear p6
        try clear c13
        try clear c14
        try clear c16
        try clear c17
        try clear c18
        try clear c23
        try clear c23b0
        try clear c23b1
        try clear c24
        try clear c24b0
        try clear c24b1
        try clear c26
        try clear c27
        try clear c28
        try clear c29
        try clear c37
        try clear c37b0
        try clear c38
        try clear c38b0
        try clear c40
        try clear c40b0
        try clear c43
        try clear c43b0
        try clear p44
        try clear q44
        try clear hx44
        try clear hf44
        try clear c48
        try clear p49
        try clear q49
        try clear hx49
        try clear p50
        try clear q50
        try clear hx50
        try clear c51
        try clear c51b0
        try clear c52
        try clear c52b0
        try clear c53
        try clear c53b0
        try clear hcz10_0
        try clear hcz10_1
        try clear hcz15_0
        try clear hcz15_1
        try clear hcz18_0
        try clear hcz18_1
        try clear hcz22_0
        try clear hcz22_1
        try clear hfz10_0
        try clear hfz10_1
        try clear hfz15_0
        try clear hfz15_1
        try clear hfz18_0
        try clear hfz18_1
        try clear hfz22_0
        try clear hfz22_1
        try clear hx44_0
        try clear hx499_0
        try clear hx502_0
        try clear hx503_0
        try clear p2
        try clear p4
        try clear p44
        try clear p499
        try clear p502
        try clear p503
        try clear p6
        try clear q4
        try clear q44
        try clear q499
        try clear q502
        try clear q503
        obtain ⟨kq, x15_29, x16_29, rfl, HA, HJ29, HO_8, HO_11, HO_14, HO_15, HO_479000, HO_479001, BK471, BK478, HB⟩ := hcut
        cases kq with
        | zero => exact absurd HA.out (by simp [foretellkeep_ClaimOnly.j3])
        | succ kj29 =>
         have H := HA.out
         clear HA
         simp only [foretellkeep_ClaimOnly.j3] at H
         have H' := Aside0.mk H
         clear H
         go_wp2
         go_loopg [18, 19, 20] kj29 (fun kq v18 v19 v20 w' => ∃ (x18_3 : Int) (x19_3 : Bool) (x20_3 : Int), v18 = .int .i64 x18_3 ∧ v19 = .bool x19_3 ∧ v20 = .int .i64 x20_3 ∧ Aside0 (foretellkeep_ClaimOnly.l1 kq t479 t486 (wrap64 ((t472.length : Int) + (t475.length : Int))) y493 x15_29 x16_29 x18_3 x19_3 x20_3 t472 t475 = some r) ∧ Aside0 (kq ≤ kj29) ∧ Aside0 (Kd.V k51 51 w' w.heap.size (fun k_ => some k_ ≠ (v494 : Value).ownBlock ∧ some k_ ≠ (v497 : Value).ownBlock ∧ k_ ≠ gb471 ∧ k_ ≠ gb478) (.slice Ao19 t479.length co19) t479) ∧ Aside0 (Kd.V (Kd.int .i64) 3 w' w.heap.size (fun k_ => some k_ ≠ (v494 : Value).ownBlock ∧ some k_ ≠ (v497 : Value).ownBlock ∧ k_ ≠ gb471 ∧ k_ ≠ gb478) (.slice Ao32 t486.length co32) t486) ∧ Aside0 (Kd.N (Kd.slice 4 Kd.bool) 30 w' w.heap.size (fun k_ => some k_ ≠ (v497 : Value).ownBlock ∧ k_ ≠ gb471 ∧ k_ ≠ gb478) v494 y493) ∧ Aside0 (Kd.R (Kd.int .i64) 3 w' w.heap.size (fun _ => True) v497 x15_29) ∧ Aside0 (Kd.N (Kd.slice 4 Kd.bool) 30 w' w.heap.size (fun k_ => some k_ ≠ (v494 : Value).ownBlock ∧ some k_ ≠ (v497 : Value).ownBlock ∧ some k_ ≠ ((.slice Ao16 t475.length co16) : Value).ownBlock ∧ k_ ≠ gb471 ∧ k_ ≠ gb478) (.slice Ao13 t472.length co13) t472) ∧ Aside0 (Kd.N (Kd.slice 4 Kd.bool) 30 w' w.heap.size (fun k_ => some k_ ≠ (v494 : Value).ownBlock ∧ some k_ ≠ (v497 : Value).ownBlock ∧ some k_ ≠ ((.slice Ao13 t472.length co13) : Value).ownBlock ∧ k_ ≠ gb471 ∧ k_ ≠ gb478) (.slice Ao16 t475.length co16) t475) ∧ Aside0 (w'.heap[gb471]? = some (.cells #[(.slice A1_0 l1_0.length c1_0), (.slice A1_1 l1_1.length c1_1)] 40 (0, 0))) ∧ Aside0 (w'.heap[gb478]? = some (.cells #[(.slice Ao13 t472.length co13), (.slice Ao16 t475.length co16)] 43 (0, 0))) ∧ Aside0 (Below w.heap.size w w'))
         case atStart => exact ⟨(0), (true), (0), (by first | rfl | (simp; done) | (simp [*]; done)), (by first | rfl | (simp; done) | (simp [*]; done)), (by first | rfl | (simp; done) | (simp [*]; done)), H', ⟨Nat.le_refl _⟩, ⟨by (with_reducible repeat (first | apply Kd.V_alloc | apply Kd.V_drewN | apply Kd.V_drew)); exact HO_8.out⟩, ⟨by (with_reducible repeat (first | apply Kd.V_alloc | apply Kd.V_drewN | apply Kd.V_drew)); exact HO_11.out⟩, ⟨by (with_reducible repeat (first | apply Kd.N_alloc | apply Kd.N_drewN | apply Kd.N_drew)); exact HO_14.out⟩, ⟨by (with_reducible repeat (first | apply Kd.R_alloc | apply Kd.R_drewN | apply Kd.R_drew)); exact HO_15.out⟩, ⟨by (with_reducible repeat (first | apply Kd.N_alloc | apply Kd.N_drewN | apply Kd.N_drew)); exact HO_479000.out⟩, ⟨by (with_reducible repeat (first | apply Kd.N_alloc | apply Kd.N_drewN | apply Kd.N_drew)); exact HO_479001.out⟩, ⟨by (with_reducible repeat (first | refine blk_drewN ?_ _ | refine blk_drew ?_ | refine blk_alloc ?_ _)); exact BK471.out⟩, ⟨by (with_reducible repeat (first | refine blk_drewN ?_ _ | refine blk_drew ?_ | refine blk_alloc ?_ _)); exact BK478.out⟩, ⟨by repeat (first | (with_reducible first | exact HB.out | apply below_alloc | apply pw_below_drewN | apply below_drew1 | refine below_set ?_ GE471.out | refine below_set ?_ GE478.out) | exact HB.out)⟩⟩
         case round =>
          clear H'
          try clear c1
          try clear c2
          try clear p2
          try clear c3
          try clear c4
          try clear p4
          try clear q4
          try clear hx4
          try clear hf4
          try clear c5
          try clear p5
          try clear q5
          try clear hx5
          try clear p6
          try clear c13
          try clear c14
          try clear c16
          try clear c17
          try clear c18
          try clear c23
          try clear c23b0
          try clear c23b1
          try clear c24
          try clear c24b0
          try clear c24b1
          try clear c26
          try clear c27
          try clear c28
          try clear c29
          try clear c37
          try clear c37b0
          try clear c38
          try clear c38b0
          try clear c40
          try clear c40b0
          try clear c43
          try clear c43b0
          try clear p44
          try clear q44
          try clear hx44
          try clear hf44
          try clear c48
          try clear p49
          try clear q49
          try clear hx49
          try clear p50
          try clear q50
          try clear hx50
          try clear c51
          try clear c51b0
          try clear c52
          try clear c52b0
          try clear c53
          try clear c53b0
          try clear hcz10_0
          try clear hcz10_1
          try clear hcz15_0
          try clear hcz15_1
          try clear hcz18_0
          try clear hcz18_1
          try clear hcz22_0
          try clear hcz22_1
          try clear hfz10_0
          try clear hfz10_1
          try clear hfz15_0
          try clear hfz15_1
          try clear hfz18_0
          try clear hfz18_1
          try clear hfz22_0
          try clear hfz22_1
          try clear hx44_0
          try clear hx499_0
          try clear hx502_0
          try clear hx503_0
          try clear p2
          try clear p4
          try clear p44
          try clear p49
          try clear p499
          try clear p5
          try clear p50
          try clear p502
          try clear p503
          try clear p6
          try clear q4
          try clear q44
          try clear q49
          try clear q499
          try clear q5
          try clear q50
          try clear q502
          try clear q503
          obtain ⟨x18_3, x19_3, x20_3, rfl, rfl, rfl, HA, HK3, HO_8, HO_11, HO_14, HO_15, HO_479000, HO_479001, BK471, BK478, HB⟩ := hrel
          cases gk with
          | zero => exact absurd HA.out (by simp [foretellkeep_ClaimOnly.l1])
          | succ k3 =>
           have H := HA.out
           clear HA
           simp only [foretellkeep_ClaimOnly.l1] at H
           by_cases c56 : x20_3 < (wrap64 ((t472.length : Int) + (t475.length : Int)))
           ·
            rw [if_pos c56] at H
            have c56b0 : decide (x20_3 < (wrap64 ((t472.length : Int) + (t475.length : Int)))) = true := decide_eq_true c56
            clear c56
            have HC57 := Aside0.mk H
            clear H
            go_upto_if 111 with (fail)
            go_cut [21] (fun v21 wc => ∃ (kq : Nat) (x21_56 : Int), v21 = .int .i64 x21_56 ∧ Aside0 (foretellkeep_ClaimOnly.j5 kq t479 t486 (wrap64 ((t472.length : Int) + (t475.length : Int))) y493 x15_29 x16_29 x18_3 x19_3 x20_3 x21_56 t472 t475 = some r) ∧ Aside0 (kq ≤ k3) ∧ Aside0 (Kd.V k51 51 wc w.heap.size (fun k_ => some k_ ≠ (v494 : Value).ownBlock ∧ some k_ ≠ (v497 : Value).ownBlock ∧ k_ ≠ gb471 ∧ k_ ≠ gb478) (.slice Ao19 t479.length co19) t479) ∧ Aside0 (Kd.V (Kd.int .i64) 3 wc w.heap.size (fun k_ => some k_ ≠ (v494 : Value).ownBlock ∧ some k_ ≠ (v497 : Value).ownBlock ∧ k_ ≠ gb471 ∧ k_ ≠ gb478) (.slice Ao32 t486.length co32) t486) ∧ Aside0 (Kd.N (Kd.slice 4 Kd.bool) 30 wc w.heap.size (fun k_ => some k_ ≠ (v497 : Value).ownBlock ∧ k_ ≠ gb471 ∧ k_ ≠ gb478) v494 y493) ∧ Aside0 (Kd.R (Kd.int .i64) 3 wc w.heap.size (fun _ => True) v497 x15_29) ∧ Aside0 (Kd.N (Kd.slice 4 Kd.bool) 30 wc w.heap.size (fun k_ => some k_ ≠ (v494 : Value).ownBlock ∧ some k_ ≠ (v497 : Value).ownBlock ∧ some k_ ≠ ((.slice Ao16 t475.length co16) : Value).ownBlock ∧ k_ ≠ gb471 ∧ k_ ≠ gb478) (.slice Ao13 t472.length co13) t472) ∧ Aside0 (Kd.N (Kd.slice 4 Kd.bool) 30 wc w.heap.size (fun k_ => some k_ ≠ (v494 : Value).ownBlock ∧ some k_ ≠ (v497 : Value).ownBlock ∧ some k_ ≠ ((.slice Ao13 t472.length co13) : Value).ownBlock ∧ k_ ≠ gb471 ∧ k_ ≠ gb478) (.slice Ao16 t475.length co16) t475) ∧ Aside0 (wc.heap[gb471]? = some (.cells #[(.slice A1_0 l1_0.length c1_0), (.slice A1_1 l1_1.length c1_1)] 40 (0, 0))) ∧ Aside0 (wc.heap[gb478]? = some (.cells #[(.slice Ao13 t472.length co13), (.slice Ao16 t475.length co16)] 43 (0, 0))) ∧ Aside0 (Below w.heap.size w wc))
            case first =>
             have H := HC57.out
             clear HC57
             by_cases c58 : (wrap64 (x20_3 + 1)) = (wrap64 ((t472.length : Int) + (t475.length : Int)))
             ·
              rw [if_pos c58] at H
              have c58b0 : ((wrap64 (x20_3 + 1)) == (wrap64 ((t472.length : Int) + (t475.length : Int)))) = true := beq_iff_eq.mpr c58
              have c58b1 : ((wrap64 (x20_3 + 1)) != (wrap64 ((t472.length : Int) + (t475.length : Int)))) = false := bne_eq_false_iff_eq.mpr c58
              clear c58
              (first | rw [c58b0] | (simp only [i64_w, i32_w]; rw [c58b0]) | skip)
              have H' := Aside0.mk H
              clear H
              have hnb59 := NB478_471.out
              have hnc59 := NB471_478.out
              have hcz60_0 : wr.cell? ⟨gb478, 0, none⟩ = some (.slice Ao13 t472.length co13) := (blk_cell BK478.out 0).trans rfl
              have hcz60_1 : wr.cell? ⟨gb478, 1, none⟩ = some (.slice Ao16 t475.length co16) := (blk_cell BK478.out 1).trans rfl
              have hfz60_0 := blk_frozen BK478.out 0
              have hfz60_1 := blk_frozen BK478.out 1
              go_wp2
              go_meet
              case rel => exact ⟨_, ((t472.length : Int)), (by first | rfl | (simp; done) | (simp [*]; done)), (by first | exact H' | (rw [hji41]; exact H')), ⟨by have := HJ7.out; have := HJ29.out; have := HK3.out; first | omega | exact Nat.le_refl _⟩, ⟨by (with_reducible repeat (first | apply Kd.V_alloc | apply Kd.V_drewN | apply Kd.V_drew)); exact HO_8.out⟩, ⟨by (with_reducible repeat (first | apply Kd.V_alloc | apply Kd.V_drewN | apply Kd.V_drew)); exact HO_11.out⟩, ⟨by (with_reducible repeat (first | apply Kd.N_alloc | apply Kd.N_drewN | apply Kd.N_drew)); exact HO_14.out⟩, ⟨by (with_reducible repeat (first | apply Kd.R_alloc | apply Kd.R_drewN | apply Kd.R_drew)); exact HO_15.out⟩, ⟨by (with_reducible repeat (first | apply Kd.N_alloc | apply Kd.N_drewN | apply Kd.N_drew)); exact HO_479000.out⟩, ⟨by (with_reducible repeat (first | apply Kd.N_alloc | apply Kd.N_drewN | apply Kd.N_drew)); exact HO_479001.out⟩, ⟨by (with_reducible repeat (first | refine blk_drewN ?_ _ | refine blk_drew ?_ | refine blk_alloc ?_ _)); exact BK471.out⟩, ⟨by (with_reducible repeat (first | refine blk_drewN ?_ _ | refine blk_drew ?_ | refine blk_alloc ?_ _)); exact BK478.out⟩, ⟨by repeat (first | (with_reducible first | exact HB.out | apply below_alloc | apply pw_below_drewN | apply below_drew1 | refine below_set ?_ GE471.out | refine below_set ?_ GE478.out) | exact HB.out)⟩⟩
             ·
              rw [if_neg c58] at H
              have c58b0 : ((wrap64 (x20_3 + 1)) == (wrap64 ((t472.length : Int) + (t475.length : Int)))) = false := beq_eq_false_iff_ne.mpr c58
              have c58b1 : ((wrap64 (x20_3 + 1)) != (wrap64 ((t472.length : Int) + (t475.length : Int)))) = true := bne_iff_ne.mpr c58
              (first | rw [c58b0] | (simp only [i64_w, i32_w]; rw [c58b0]) | skip)
              have H' := Aside0.mk H
              clear H
              go_wp2
              go_meet
              case rel => exact ⟨_, (wrap64 (x20_3 + 1)), (by first | rfl | (simp; done) | (simp [*]; done)), (by first | exact H' | (rw [hji41]; exact H')), ⟨by have := HJ7.out; have := HJ29.out; have := HK3.out; first | omega | exact Nat.le_refl _⟩, ⟨by (with_reducible repeat (first | apply Kd.V_alloc | apply Kd.V_drewN | apply Kd.V_drew)); exact HO_8.out⟩, ⟨by (with_reducible repeat (first | apply Kd.V_alloc | apply Kd.V_drewN | apply Kd.V_drew)); exact HO_11.out⟩, ⟨by (with_reducible repeat (first | apply Kd.N_alloc | apply Kd.N_drewN | apply Kd.N_drew)); exact HO_14.out⟩, ⟨by (with_reducible repeat (first | apply Kd.R_alloc | apply Kd.R_drewN | apply Kd.R_drew)); exact HO_15.out⟩, ⟨by (with_reducible repeat (first | apply Kd.N_alloc | apply Kd.N_drewN | apply Kd.N_drew)); exact HO_479000.out⟩, ⟨by (with_reducible repeat (first | apply Kd.N_alloc | apply Kd.N_drewN | apply Kd.N_drew)); exact HO_479001.out⟩, ⟨by (with_reducible repeat (first | refine blk_drewN ?_ _ | refine blk_drew ?_ | refine blk_alloc ?_ _)); exact BK471.out⟩, ⟨by (with_reducible repeat (first | refine blk_drewN ?_ _ | refine blk_drew ?_ | refine blk_alloc ?_ _)); exact BK478.out⟩, ⟨by repeat (first | (with_reducible first | exact HB.out | apply below_alloc | apply pw_below_drewN | apply below_drew1 | refine below_set ?_ GE471.out | refine below_set ?_ GE478.out) | exact HB.out)⟩⟩
            case rest =>
             clear HC57
             try clear c1
             try clear c2
             try clear p2
             try clear c3
             try clear c4
             try clear p4
             try clear q4
             try clear hx4
             try clear hf4
             try clear c5
             try clear p5
             try clear q5
             try clear hx5
             try clear p6
             try clear c13
             try clear c14
             try clear c16
             try clear c17
             try clear c18
             try clear c23
             try clear c23b0
             try clear c23b1
             try clear c24
             try clear c24b0
             try clear c24b1
             try clear c26
             try clear c27
             try clear c28
             try clear c29
             try clear c37
             try clear c37b0
             try clear c38
             try clear c38b0
             try clear c40
             try clear c40b0
             try clear c43
             try clear c43b0
             try clear p44
             try clear q44
             try clear hx44
             try clear hf44
             try clear c48
             try clear p49
             try clear q49
             try clear hx49
             try clear p50
             try clear q50
             try clear hx50
             try clear c51
             try clear c51b0
             try clear c52
             try clear c52b0
             try clear c53
             try clear c53b0
             try clear c56
             try clear c56b0
             try clear c58
             try clear c58b0
             try clear c58b1
             try clear c59
             try clear hcz10_0
             try clear hcz10_1
             try clear hcz15_0
             try clear hcz15_1
             try clear hcz18_0
             try clear hcz18_1
             try clear hcz22_0
             try clear hcz22_1
             try clear hcz60_0
             try clear hcz60_1
             try clear hfz10_0
             try clear hfz10_1
             try clear hfz15_0
             try clear hfz15_1
             try clear hfz18_0
             try clear hfz18_1
             try clear hfz22_0
             try clear hfz22_1
             try clear hfz60_0
             try clear hfz60_1
             try clear hx44_0
             try clear hx499_0
             try clear hx502_0
             try clear hx503_0
             try clear p2
             try clear p4
             try clear p44
             try clear p49
             try clear p499
             try clear p5
             try clear p50
             try clear p502
             try clear p503
             try clear p6
             try clear q4
             try clear q44
             try clear q49
             try clear q499
             try clear q5
             try clear q50
             try clear q502
             try clear q503
             obtain ⟨kq, x21_56, rfl, HA, HJ56, HO_8, HO_11, HO_14, HO_15, HO_479000, HO_479001, BK471, BK478, HB⟩ := hcut
             cases kq with
             | zero => exact absurd HA.out (by simp [foretellkeep_ClaimOnly.j5])
             | succ kj56 =>
              have H := HA.out
              clear HA
              simp only [foretellkeep_ClaimOnly.j5] at H
              by_cases c61 : 0 ≤ x20_3
              ·
               rw [if_pos c61] at H
               have c61b0 : decide (0 ≤ x20_3) = true := decide_eq_true c61
               clear c61
               by_cases c62 : x20_3 < (y493.length : Int)
               ·
                rw [if_pos c62] at H
                have c62b0 : decide (x20_3 < (y493.length : Int)) = true := decide_eq_true c62
                clear c62
                by_cases c63 : x20_3 < (x15_29.length : Int)
                ·
                 rw [if_pos c63] at H
                 have c63b0 : decide (x20_3 < (x15_29.length : Int)) = true := decide_eq_true c63
                 clear c63
                 by_cases c64 : 0 ≤ x21_56
                 ·
                  rw [if_pos c64] at H
                  have c64b0 : decide (0 ≤ x21_56) = true := decide_eq_true c64
                  clear c64
                  by_cases c65 : x21_56 < (y493.length : Int)
                  ·
                   rw [if_pos c65] at H
                   have c65b0 : decide (x21_56 < (y493.length : Int)) = true := decide_eq_true c65
                   clear c65
                   by_cases c66 : x21_56 < (x15_29.length : Int)
                   ·
                    rw [if_pos c66] at H
                    have c66b0 : decide (x21_56 < (x15_29.length : Int)) = true := decide_eq_true c66
                    clear c66
                    replace H := Option.bind_eq_some_iff.mp H
                    obtain ⟨⟨t508, t509⟩, A670, H⟩ := H
                    replace H : ((logic_Meets.f kj56 t479 (rd_L7 y493 x20_3) (rd x15_29 x20_3)).bind fun bt512 => (if t509 = 0 then (foretellkeep_ClaimOnly.j6 kj56 t479 t486 (wrap64 ((t472.length : Int) + (t475.length : Int))) y493 x15_29 x16_29 x18_3 x19_3 x20_3 t508 bt512.1 (bt512.2 != 0) t472 t475) else (foretellkeep_ClaimOnly.j6 kj56 t479 t486 (wrap64 ((t472.length : Int) + (t475.length : Int))) y493 x15_29 x16_29 x18_3 x19_3 x20_3 t508 bt512.1 true t472 t475))) = some r := H
                    have A67 := Aside0.mk A670
                    clear A670
                    replace H := Option.bind_eq_some_iff.mp H
                    obtain ⟨⟨t512, t513⟩, A680, H⟩ := H
                    replace H : (if t509 = 0 then (foretellkeep_ClaimOnly.j6 kj56 t479 t486 (wrap64 ((t472.length : Int) + (t475.length : Int))) y493 x15_29 x16_29 x18_3 x19_3 x20_3 t508 t512 (t513 != 0) t472 t475) else (foretellkeep_ClaimOnly.j6 kj56 t479 t486 (wrap64 ((t472.length : Int) + (t475.length : Int))) y493 x15_29 x16_29 x18_3 x19_3 x20_3 t508 t512 true t472 t475)) = some r := H
                    have A68 := Aside0.mk A680
                    clear A680
                    have HC69 := Aside0.mk H
                    clear H
                    obtain ⟨Ao70, co70, eo70⟩ := Kd.R_slice HO_15.out
                    subst eo70
                    try go_wp2
                    have n0_ := Aside0.mk (Kd.V_drew HO_8.out)
                    have n1_ := Aside0.mk (Kd.V_drew HO_11.out)
                    have n2_ := Aside0.mk (Kd.N_drew HO_14.out)
                    have n3_ := Aside0.mk (Kd.R_drew HO_15.out)
                    have n4_ := Aside0.mk (Kd.N_drew HO_479000.out)
                    have n5_ := Aside0.mk (Kd.N_drew HO_479001.out)
                    have n6_ := Aside0.mk (blk_drew BK471.out)
                    have n7_ := Aside0.mk (blk_drew BK478.out)
                    have n8_ := Aside0.mk (below_drew1 HB.out)
                    clear HO_8
                    clear HO_11
                    clear HO_14
                    clear HO_15
                    clear HO_479000
                    clear HO_479001
                    clear BK471
                    clear BK478
                    clear HB
                    have HO_8 := n0_
                    have HO_11 := n1_
                    have HO_14 := n2_
                    have HO_15 := n3_
                    have HO_479000 := n4_
                    have HO_479001 := n5_
                    have BK471 := n6_
                    have BK478 := n7_
                    have HB := n8_
                    clear n0_ n1_ n2_ n3_ n4_ n5_ n6_ n7_ n8_
                    obtain ⟨Ao72, co72, eo72⟩ := Kd.N_slice HO_14.out
                    (first | subst eo72 | (injection eo72 with f1_ f2_ f3_; have f4_ := f1_.symm; have f5_ := f3_.symm; clear f1_ f2_ f3_; subst f4_; subst f5_))
                    have p504 : 0 ≤ (x20_3 : Int) := of_decide_eq_true (by first | (with_reducible assumption) | assumption)
                    have q504 : x20_3 < (y493.length : Int) := of_decide_eq_true (by first | (with_reducible assumption) | assumption)
                    obtain ⟨ad504, A504_0, c504_0, e504, hx504_0, hl504_0, hi504_0⟩ := at_L7 (Kd.N_reads' HO_14.out).2.2 x20_3 p504 q504
                    cases e504
                    obtain ⟨ce504, hce504, hMe504, hcc504⟩ := Kd.N_get HO_14.out [] x20_3 p504 (by first | exact q504 | exact of_decide_eq_true (by first | (with_reducible assumption) | assumption) | (have e_ := (Kd.N_reads' HO_14.out).1; omega))
                    obtain ⟨ua504_0, uc504_0, rfl, ul504_0, ge504_0⟩ := Kd.FK_slice_open hMe504
                    have hv504_0 := hcc504 0 _ rfl
                    rw [Nat.add_zero, show ((Kd.slice 4 Kd.bool)).sz = 1 from rfl, Nat.mul_one] at hv504_0
                    replace hv504_0 := Option.some.inj (hv504_0.symm.trans hx504_0)
                    injection hv504_0 with hva_ hvn_ hvc_
                    rw [hva_] at ge504_0
                    rw [hvc_] at ul504_0
                    have HL504_0 := Aside0.mk (show Kd.V Kd.bool 4 _ w.heap.size _ _ (rd_L7 y493 x20_3) from Kd.V_mk ul504_0 ge504_0)
                    clear hva_ hvn_ hvc_ ge504_0 ul504_0
                    clear hcc504 hce504
                    have HR504_0 := Aside0.mk hi504_0
                    have HC504_0 := Aside0.mk hl504_0
                    clear hi504_0 hl504_0
                    replace p504 := eq_true p504
                    replace q504 := eq_true q504
                    have p505 : 0 ≤ (x20_3 : Int) := of_decide_eq_true (by first | (with_reducible assumption) | assumption)
                    have q505 : x20_3 < (x15_29.length : Int) := of_decide_eq_true (by first | (with_reducible assumption) | assumption)
                    obtain ⟨ad505, e505, hx505_0⟩ := Kd.at_int (Kd.R_reads' HO_15.out).2.2 x20_3 p505 q505
                    cases e505
                    replace p505 := eq_true p505
                    replace q505 := eq_true q505
                    have p506 : 0 ≤ (x21_56 : Int) := of_decide_eq_true (by first | (with_reducible assumption) | assumption)
                    have q506 : x21_56 < (y493.length : Int) := of_decide_eq_true (by first | (with_reducible assumption) | assumption)
                    obtain ⟨ad506, A506_0, c506_0, e506, hx506_0, hl506_0, hi506_0⟩ := at_L7 (Kd.N_reads' HO_14.out).2.2 x21_56 p506 q506
                    obtain rfl : ad504 = ad506 := (by injection e506)
                    obtain ⟨ce506, hce506, hMe506, hcc506⟩ := Kd.N_get HO_14.out [] x21_56 p506 (by first | exact q506 | exact of_decide_eq_true (by first | (with_reducible assumption) | assumption) | (have e_ := (Kd.N_reads' HO_14.out).1; omega))
                    obtain ⟨ua506_0, uc506_0, rfl, ul506_0, ge506_0⟩ := Kd.FK_slice_open hMe506
                    have hv506_0 := hcc506 0 _ rfl
                    rw [Nat.add_zero, show ((Kd.slice 4 Kd.bool)).sz = 1 from rfl, Nat.mul_one] at hv506_0
                    replace hv506_0 := Option.some.inj (hv506_0.symm.trans hx506_0)
                    injection hv506_0 with hva_ hvn_ hvc_
                    rw [hva_] at ge506_0
                    rw [hvc_] at ul506_0
                    have HL506_0 := Aside0.mk (show Kd.V Kd.bool 4 _ w.heap.size _ _ (rd_L7 y493 x21_56) from Kd.V_mk ul506_0 ge506_0)
                    clear hva_ hvn_ hvc_ ge506_0 ul506_0
                    clear hcc506 hce506
                    have HR506_0 := Aside0.mk hi506_0
                    have HC506_0 := Aside0.mk hl506_0
                    clear hi506_0 hl506_0
                    replace p506 := eq_true p506
                    replace q506 := eq_true q506
                    have p507 : 0 ≤ (x21_56 : Int) := of_decide_eq_true (by first | (with_reducible assumption) | assumption)
                    have q507 : x21_56 < (x15_29.length : Int) := of_decide_eq_true (by first | (with_reducible assumption) | assumption)
                    obtain ⟨ad507, e507, hx507_0⟩ := Kd.at_int (Kd.R_reads' HO_15.out).2.2 x21_56 p507 q507
                    obtain rfl : ad505 = ad507 := (by injection e507)
                    replace p507 := eq_true p507
                    replace q507 := eq_true q507
                    refine start_ (n := 23) (S := fun w' => w'.cell? (ad504.add (x20_3).toNat) = some (.slice A504_0 (rd_L7 y493 x20_3).length c504_0) ∧ w'.cell? (ad505.add (x20_3).toNat) = some (.int .i64 (rd x15_29 x20_3)) ∧ w'.cell? (ad504.add (x21_56).toNat) = some (.slice A506_0 (rd_L7 y493 x21_56).length c506_0) ∧ w'.cell? (ad505.add (x21_56).toNat) = some (.int .i64 (rd x15_29 x21_56))) (ds := []) #[false, false, false, false, false, false, false, false, false, false, false, false, false, false, false, false, false, false, false, false, false, false, false] (by kernel_rfl) rfl rfl ⟨hx504_0, hx505_0, hx506_0, hx507_0⟩ (fun hHeld => ?_); refine with_tabW foretellkeep_ClaimOnly.tab24 foretellkeep_ClaimOnly.bits24 (fun HT_ HW_ => ?_)
                    generalize wc.drew = w71 at HO_8 HO_11 HO_14 HO_15 HO_479000 HO_479001 BK471 BK478 HB HL504_0 HL506_0 HR504_0 HR506_0 hx504_0 hx505_0 hx506_0 hx507_0 hHeld ⊢
                    refine pure_ (i := 0) (N := some 116) (v := ?_) (a' := ?_) #[true, false, false, false, false, false, false, false, false, false, false, false, false, false, false, false, false, false, false, false, false, false, false] rfl rfl (any_of HT_.out (by kernel_rfl)) (fun _ _ _ h => h) (Or.inl ⟨by rfl, ?_⟩) ?_ ?_
                    rotate_left
                    ·
                     intro w'
                     go_simp
                     with_reducible rfl
                    rotate_left
                    ·
                     simp only [Act.put, List.setIfInBounds_toArray, List.set_cons_zero, List.set_cons_succ, i64_w, i32_w]
                     rfl
                    refine pure_ (i := 1) (N := some 117) (v := ?_) (a' := ?_) #[true, true, false, false, false, false, false, false, false, false, false, false, false, false, false, false, false, false, false, false, false, false, false] rfl rfl (any_of HT_.out (by kernel_rfl)) (fun _ _ _ h => h) (Or.inl ⟨by rfl, ?_⟩) ?_ ?_
                    rotate_left
                    ·
                     intro w'
                     go_simp
                     with_reducible rfl
                    rotate_left
                    ·
                     simp only [Act.put, List.setIfInBounds_toArray, List.set_cons_zero, List.set_cons_succ, i64_w, i32_w]
                     rfl
                    refine pure_ (i := 2) (N := some 118) (v := ?_) (a' := ?_) #[true, true, true, false, false, false, false, false, false, false, false, false, false, false, false, false, false, false, false, false, false, false, false] rfl rfl (any_of HT_.out (by kernel_rfl)) (fun _ _ _ h => h) (Or.inl ⟨by rfl, ?_⟩) ?_ ?_
                    rotate_left
                    ·
                     intro w'
                     go_simp
                     with_reducible rfl
                    rotate_left
                    ·
                     simp only [Act.put, List.setIfInBounds_toArray, List.set_cons_zero, List.set_cons_succ, i64_w, i32_w]
                     rfl
                    refine pure_ (i := 3) (N := some 119) (v := ?_) (a' := ?_) #[true, true, true, true, false, false, false, false, false, false, false, false, false, false, false, false, false, false, false, false, false, false, false] rfl rfl (any_of HT_.out (by kernel_rfl)) (fun _ _ _ h => h) (Or.inl ⟨by rfl, ?_⟩) ?_ ?_
                    rotate_left
                    ·
                     intro w'
                     go_simp
                     with_reducible rfl
                    rotate_left
                    ·
                     simp only [Act.put, List.setIfInBounds_toArray, List.set_cons_zero, List.set_cons_succ, i64_w, i32_w]
                     rfl
                    refine pure_ (i := 5) (N := some 121) (v := ?_) (a' := ?_) #[true, true, true, true, false, true, false, false, false, false, false, false, false, false, false, false, false, false, false, false, false, false, false] rfl rfl (any_of HT_.out (by kernel_rfl)) (fun _ _ _ h => h) (Or.inl ⟨by rfl, ?_⟩) ?_ ?_
                    rotate_left
                    ·
                     intro w'
                     go_simp
                     with_reducible rfl
                    rotate_left
                    ·
                     simp only [Act.put, List.setIfInBounds_toArray, List.set_cons_zero, List.set_cons_succ, i64_w, i32_w]
                     rfl
                    refine pure_ (i := 6) (N := some 122) (v := ?_) (a' := ?_) #[true, true, true, true, false, true, true, false, false, false, false, false, false, false, false, false, false, false, false, false, false, false, false] rfl rfl (any_of HT_.out (by kernel_rfl)) (fun _ _ _ h => h) (Or.inl ⟨by rfl, ?_⟩) ?_ ?_
                    rotate_left
                    ·
                     intro w'
                     go_simp
                     with_reducible rfl
                    rotate_left
                    ·
                     simp only [Act.put, List.setIfInBounds_toArray, List.set_cons_zero, List.set_cons_succ, i64_w, i32_w]
                     rfl
                    refine pure_ (i := 7) (N := some 123) (v := ?_) (a' := ?_) #[true, true, true, true, false, true, true, true, false, false, false, false, false, false, false, false, false, false, false, false, false, false, false] rfl rfl (any_of HT_.out (by kernel_rfl)) (fun _ _ _ h => h) (Or.inl ⟨by rfl, ?_⟩) ?_ ?_
                    rotate_left
                    ·
                     intro w'
                     go_simp
                     with_reducible rfl
                    rotate_left
                    ·
                     simp only [Act.put, List.setIfInBounds_toArray, List.set_cons_zero, List.set_cons_succ, i64_w, i32_w]
                     rfl
                    refine pure_ (i := 9) (N := some 125) (v := ?_) (a' := ?_) #[true, true, true, true, false, true, true, true, false, true, false, false, false, false, false, false, false, false, false, false, false, false, false] rfl rfl (any_of HT_.out (by kernel_rfl)) (fun _ _ _ h => h) (Or.inl ⟨by rfl, ?_⟩) ?_ ?_
                    rotate_left
                    ·
                     intro w'
                     go_simp
                     with_reducible rfl
                    rotate_left
                    ·
                     simp only [Act.put, List.setIfInBounds_toArray, List.set_cons_zero, List.set_cons_succ, i64_w, i32_w]
                     rfl
                    refine pure_ (i := 10) (N := some 126) (v := ?_) (a' := ?_) #[true, true, true, true, false, true, true, true, false, true, true, false, false, false, false, false, false, false, false, false, false, false, false] rfl rfl (any_of HT_.out (by kernel_rfl)) (fun _ _ _ h => h) (Or.inl ⟨by rfl, ?_⟩) ?_ ?_
                    rotate_left
                    ·
                     intro w'
                     go_simp
                     with_reducible rfl
                    rotate_left
                    ·
                     simp only [Act.put, List.setIfInBounds_toArray, List.set_cons_zero, List.set_cons_succ, i64_w, i32_w]
                     rfl
                    refine pure_ (i := 11) (N := some 127) (v := ?_) (a' := ?_) #[true, true, true, true, false, true, true, true, false, true, true, true, false, false, false, false, false, false, false, false, false, false, false] rfl rfl (any_of HT_.out (by kernel_rfl)) (fun _ _ _ h => h) (Or.inl ⟨by rfl, ?_⟩) ?_ ?_
                    rotate_left
                    ·
                     intro w'
                     go_simp
                     with_reducible rfl
                    rotate_left
                    ·
                     simp only [Act.put, List.setIfInBounds_toArray, List.set_cons_zero, List.set_cons_succ, i64_w, i32_w]
                     rfl
                    refine pure_ (i := 13) (N := some 129) (v := ?_) (a' := ?_) #[true, true, true, true, false, true, true, true, false, true, true, true, false, true, false, false, false, false, false, false, false, false, false] rfl rfl (any_of HT_.out (by kernel_rfl)) (fun _ _ _ h => h) (Or.inl ⟨by rfl, ?_⟩) ?_ ?_
                    rotate_left
                    ·
                     intro w'
                     go_simp
                     with_reducible rfl
                    rotate_left
                    ·
                     simp only [Act.put, List.setIfInBounds_toArray, List.set_cons_zero, List.set_cons_succ, i64_w, i32_w]
                     rfl
                    refine pure_ (i := 14) (N := some 130) (v := ?_) (a' := ?_) #[true, true, true, true, false, true, true, true, false, true, true, true, false, true, true, false, false, false, false, false, false, false, false] rfl rfl (any_of HT_.out (by kernel_rfl)) (fun _ _ _ h => h) (Or.inl ⟨by rfl, ?_⟩) ?_ ?_
                    rotate_left
                    ·
                     intro w'
                     go_simp
                     with_reducible rfl
                    rotate_left
                    ·
                     simp only [Act.put, List.setIfInBounds_toArray, List.set_cons_zero, List.set_cons_succ, i64_w, i32_w]
                     rfl
                    refine pure_ (i := 15) (N := some 131) (v := ?_) (a' := ?_) #[true, true, true, true, false, true, true, true, false, true, true, true, false, true, true, true, false, false, false, false, false, false, false] rfl rfl (any_of HT_.out (by kernel_rfl)) (fun _ _ _ h => h) (Or.inl ⟨by rfl, ?_⟩) ?_ ?_
                    rotate_left
                    ·
                     intro w'
                     go_simp
                     with_reducible rfl
                    rotate_left
                    ·
                     simp only [Act.put, List.setIfInBounds_toArray, List.set_cons_zero, List.set_cons_succ, i64_w, i32_w]
                     rfl
                    refine take_ (i := 4) (N := some 120) (v := ?_) (a' := ?_) #[true, true, true, true, true, true, true, true, false, true, true, true, false, true, true, true, false, false, false, false, false, false, false] rfl rfl (take_ofW HT_.out HW_.out (by kernel_rfl)) (fun _ _ _ h => h) (Or.inl ⟨by rfl, ?_⟩) hHeld ?_ ?_
                    rotate_left
                    ·
                     rintro w' ⟨s0, s1, s2, s3⟩
                     go_simp
                     with_reducible rfl
                    rotate_left
                    ·
                     simp only [Act.put, List.setIfInBounds_toArray, List.set_cons_zero, List.set_cons_succ, i64_w, i32_w]
                     rfl
                    refine take_ (i := 8) (N := some 124) (v := ?_) (a' := ?_) #[true, true, true, true, true, true, true, true, true, true, true, true, false, true, true, true, false, false, false, false, false, false, false] rfl rfl (take_ofW HT_.out HW_.out (by kernel_rfl)) (fun _ _ _ h => h) (Or.inl ⟨by rfl, ?_⟩) hHeld ?_ ?_
                    rotate_left
                    ·
                     rintro w' ⟨s0, s1, s2, s3⟩
                     go_simp
                     with_reducible rfl
                    rotate_left
                    ·
                     simp only [Act.put, List.setIfInBounds_toArray, List.set_cons_zero, List.set_cons_succ, i64_w, i32_w]
                     rfl
                    refine take_ (i := 12) (N := some 128) (v := ?_) (a' := ?_) #[true, true, true, true, true, true, true, true, true, true, true, true, true, true, true, true, false, false, false, false, false, false, false] rfl rfl (take_ofW HT_.out HW_.out (by kernel_rfl)) (fun _ _ _ h => h) (Or.inl ⟨by rfl, ?_⟩) hHeld ?_ ?_
                    rotate_left
                    ·
                     rintro w' ⟨s0, s1, s2, s3⟩
                     go_simp
                     with_reducible rfl
                    rotate_left
                    ·
                     simp only [Act.put, List.setIfInBounds_toArray, List.set_cons_zero, List.set_cons_succ, i64_w, i32_w]
                     rfl
                    refine take_ (i := 16) (N := some 132) (v := ?_) (a' := ?_) #[true, true, true, true, true, true, true, true, true, true, true, true, true, true, true, true, true, false, false, false, false, false, false] rfl rfl (take_ofW HT_.out HW_.out (by kernel_rfl)) (fun _ _ _ h => h) (Or.inl ⟨by rfl, ?_⟩) hHeld ?_ ?_
                    rotate_left
                    ·
                     rintro w' ⟨s0, s1, s2, s3⟩
                     go_simp
                     with_reducible rfl
                    rotate_left
                    ·
                     simp only [Act.put, List.setIfInBounds_toArray, List.set_cons_zero, List.set_cons_succ, i64_w, i32_w]
                     rfl
                    refine one_ (i := 17) (N := some 133) #[true, true, true, true, true, true, true, true, true, true, true, true, true, true, true, true, true, true, false, false, false, false, false] rfl rfl (one_of HT_.out (by kernel_rfl)) (by decide) (fun K hK => ?_)
                    refine goes_ Tryd.func28 (by kernel_rfl) rfl #[.slice Ao19 t479.length co19, .slice A504_0 (rd_L7 y493 x20_3).length c504_0, .int .i64 (rd x15_29 x20_3), .slice A506_0 (rd_L7 y493 x21_56).length c506_0, .int .i64 (rd x15_29 x21_56)] (by rfl) rfl rfl (by (try simp only [List.map_toArray, List.map_cons, List.map_nil]); first | done | rfl | (simp only [List.length_drop, List.length_take]; rfl)) ?_
                    with_reducible refine (logic_Follows.calls kj56 _ _ t479 _ _ (rd_L7 y493 x20_3) (rd x15_29 x20_3) _ _ (rd_L7 y493 x21_56) (rd x15_29 x21_56) t508 t509 _ ?side1 ?side2 ?side3 ?side4 ?side5 ?side6 ?side7 A67.out).mono ?_
                    (case side1 => repeat (first | exact (Kd.V_reads' HO_8.out).2.2 | (with_reducible refine Kd.C_alloc ?_ _) | (with_reducible refine Kd.C_drewN ?_ _) | (with_reducible refine Kd.C_drew ?_)))
                    (case side2 => exact (Kd.V_reads' HO_8.out).2.1)
                    (case side3 => repeat (first | exact (by repeat (first | (with_reducible exact HR504_0.out) | (with_reducible refine Kd.C_alloc ?_ _) | (with_reducible refine Kd.C_drewN ?_ _) | (with_reducible refine Kd.C_drew ?_) | exact HR504_0.out)) | (with_reducible refine Kd.C_alloc ?_ _) | (with_reducible refine Kd.C_drewN ?_ _) | (with_reducible refine Kd.C_drew ?_)))
                    (case side4 => exact HC504_0.out)
                    (case side5 => repeat (first | exact (by repeat (first | (with_reducible exact HR506_0.out) | (with_reducible refine Kd.C_alloc ?_ _) | (with_reducible refine Kd.C_drewN ?_ _) | (with_reducible refine Kd.C_drew ?_) | exact HR506_0.out)) | (with_reducible refine Kd.C_alloc ?_ _) | (with_reducible refine Kd.C_drewN ?_ _) | (with_reducible refine Kd.C_drew ?_)))
                    (case side6 => exact HC506_0.out)
                    (case side7 => first | exact hG_ | exact Glob.drewN hG_ _ | exact Glob.below hG_ (by repeat (first | (with_reducible first | exact HB.out | apply below_alloc | apply pw_below_drewN | apply below_drew1 | refine below_set ?_ GE471.out | refine below_set ?_ GE478.out) | exact HB.out)))
                    rintro e w73 ⟨rfl, hb⟩
                    have HS0_ := (hb.cell (World.block_lt_of_cell? _ _ (hHeld.1))).trans (hHeld.1)
                    have HS1_ := (hb.cell (World.block_lt_of_cell? _ _ (hHeld.2.1))).trans (hHeld.2.1)
                    have HS2_ := (hb.cell (World.block_lt_of_cell? _ _ (hHeld.2.2.1))).trans (hHeld.2.2.1)
                    have HS3_ := (hb.cell (World.block_lt_of_cell? _ _ (hHeld.2.2.2))).trans (hHeld.2.2.2)
                    refine ⟨_, rfl, ?_⟩
                    have n0_ := Aside0.mk (Kd.V_below (by (with_reducible repeat (first | apply Kd.V_alloc | apply Kd.V_drewN | apply Kd.V_drew)); exact HO_8.out) hb)
                    have n1_ := Aside0.mk (Kd.V_below (by (with_reducible repeat (first | apply Kd.V_alloc | apply Kd.V_drewN | apply Kd.V_drew)); exact HO_11.out) hb)
                    have n2_ := Aside0.mk (Kd.N_below (by (with_reducible repeat (first | apply Kd.N_alloc | apply Kd.N_drewN | apply Kd.N_drew)); exact HO_14.out) hb)
                    have n3_ := Aside0.mk (Kd.R_below (by (with_reducible repeat (first | apply Kd.R_alloc | apply Kd.R_drewN | apply Kd.R_drew)); exact HO_15.out) hb)
                    have n4_ := Aside0.mk (Kd.N_below (by (with_reducible repeat (first | apply Kd.N_alloc | apply Kd.N_drewN | apply Kd.N_drew)); exact HO_479000.out) hb)
                    have n5_ := Aside0.mk (Kd.N_below (by (with_reducible repeat (first | apply Kd.N_alloc | apply Kd.N_drewN | apply Kd.N_drew)); exact HO_479001.out) hb)
                    have n6_ := Aside0.mk (Kd.V_below (by (with_reducible repeat (first | apply Kd.V_alloc | apply Kd.V_drewN | apply Kd.V_drew)); exact HL504_0.out) hb)
                    have n7_ := Aside0.mk (Kd.V_below (by (with_reducible repeat (first | apply Kd.V_alloc | apply Kd.V_drewN | apply Kd.V_drew)); exact HL506_0.out) hb)
                    have n8_ := Aside0.mk (blk_below (g := gb471) (o := .cells #[.slice A1_0 l1_0.length c1_0, .slice A1_1 l1_1.length c1_1] 40 (0, 0)) (by (with_reducible repeat (first | refine blk_drewN ?_ _ | refine blk_drew ?_ | refine blk_alloc ?_ _)); exact BK471.out) hb)
                    have n9_ := Aside0.mk (blk_below (g := gb478) (o := .cells #[.slice Ao13 t472.length co13, .slice Ao16 t475.length co16] 43 (0, 0)) (by (with_reducible repeat (first | refine blk_drewN ?_ _ | refine blk_drew ?_ | refine blk_alloc ?_ _)); exact BK478.out) hb)
                    have n10_ := Aside0.mk (Kd.C_below (by repeat (first | (with_reducible exact HR504_0.out) | (with_reducible refine Kd.C_alloc ?_ _) | (with_reducible refine Kd.C_drewN ?_ _) | (with_reducible refine Kd.C_drew ?_) | exact HR504_0.out)) hb)
                    have n11_ := Aside0.mk (Kd.C_below (by repeat (first | (with_reducible exact HR506_0.out) | (with_reducible refine Kd.C_alloc ?_ _) | (with_reducible refine Kd.C_drewN ?_ _) | (with_reducible refine Kd.C_drew ?_) | exact HR506_0.out)) hb)
                    have n12_ := Aside0.mk (below_step (by repeat (first | (with_reducible first | exact HB.out | apply below_alloc | apply pw_below_drewN | apply below_drew1 | refine below_set ?_ GE471.out | refine below_set ?_ GE478.out) | exact HB.out)) hb)
                    clear HO_8
                    clear HO_11
                    clear HO_14
                    clear HO_15
                    clear HO_479000
                    clear HO_479001
                    clear HL504_0
                    clear HL506_0
                    clear BK471
                    clear BK478
                    clear HR504_0
                    clear HR506_0
                    clear HB
                    have HO_8 := n0_
                    have HO_11 := n1_
                    have HO_14 := n2_
                    have HO_15 := n3_
                    have HO_479000 := n4_
                    have HO_479001 := n5_
                    have HL504_0 := n6_
                    have HL506_0 := n7_
                    have BK471 := n8_
                    have BK478 := n9_
                    have HR504_0 := n10_
                    have HR506_0 := n11_
                    have HB := n12_
                    clear n0_ n1_ n2_ n3_ n4_ n5_ n6_ n7_ n8_ n9_ n10_ n11_ n12_
                    (try clear hb)
                    (try clear hb2)
                    (try clear hk)
                    (try clear hi)
                    refine hK.out _ _ ⟨HS0_, HS1_, HS2_, HS3_⟩ (fun hHeld => ?_)
                    clear hK K
                    refine norm_ (a' := ?_) ?_ ?_
                    rotate_left
                    ·
                     show Act.put _ (some 133) _ = _
                     simp only [Act.put, List.setIfInBounds_toArray, List.set_cons_zero, List.set_cons_succ, i64_w, i32_w]
                     rfl
                    refine pure_ (i := 18) (N := some 115) (v := ?_) (a' := ?_) #[true, true, true, true, true, true, true, true, true, true, true, true, true, true, true, true, true, true, true, false, false, false, false] rfl rfl (any_of HT_.out (by kernel_rfl)) (fun _ _ _ h => h) (Or.inl ⟨by rfl, ?_⟩) ?_ ?_
                    rotate_left
                    ·
                     intro w'
                     go_simp
                     with_reducible rfl
                    rotate_left
                    ·
                     simp only [Act.put, List.setIfInBounds_toArray, List.set_cons_zero, List.set_cons_succ, i64_w, i32_w]
                     rfl
                    refine pure_ (i := 19) (N := some 134) (v := ?_) (a' := ?_) #[true, true, true, true, true, true, true, true, true, true, true, true, true, true, true, true, true, true, true, true, false, false, false] rfl rfl (any_of HT_.out (by kernel_rfl)) (fun _ _ _ h => h) (Or.inl ⟨by rfl, ?_⟩) ?_ ?_
                    rotate_left
                    ·
                     intro w'
                     go_simp
                     with_reducible rfl
                    rotate_left
                    ·
                     simp only [Act.put, List.setIfInBounds_toArray, List.set_cons_zero, List.set_cons_succ, i64_w, i32_w]
                     rfl
                    refine pure_ (i := 20) (N := some 135) (v := ?_) (a' := ?_) #[true, true, true, true, true, true, true, true, true, true, true, true, true, true, true, true, true, true, true, true, true, false, false] rfl rfl (any_of HT_.out (by kernel_rfl)) (fun _ _ _ h => h) (Or.inl ⟨by rfl, ?_⟩) ?_ ?_
                    rotate_left
                    ·
                     intro w'
                     go_simp
                     with_reducible rfl
                    rotate_left
                    ·
                     simp only [Act.put, List.setIfInBounds_toArray, List.set_cons_zero, List.set_cons_succ, i64_w, i32_w]
                     rfl
                    refine pure_ (i := 21) (N := some 22) (v := ?_) (a' := ?_) #[true, true, true, true, true, true, true, true, true, true, true, true, true, true, true, true, true, true, true, true, true, true, false] rfl rfl (any_of HT_.out (by kernel_rfl)) (fun _ _ _ h => h) (Or.inl ⟨by rfl, ?_⟩) ?_ ?_
                    rotate_left
                    ·
                     intro w'
                     go_simp
                     with_reducible rfl
                    rotate_left
                    ·
                     simp only [Act.put, List.setIfInBounds_toArray, List.set_cons_zero, List.set_cons_succ, i64_w, i32_w]
                     rfl
                    refine pure_ (i := 22) (N := some 23) (v := ?_) (a' := ?_) #[true, true, true, true, true, true, true, true, true, true, true, true, true, true, true, true, true, true, true, true, true, true, true] rfl rfl (any_of HT_.out (by kernel_rfl)) (fun _ _ _ h => h) (Or.inl ⟨by rfl, ?_⟩) ?_ ?_
                    rotate_left
                    ·
                     intro w'
                     go_simp
                     with_reducible rfl
                    rotate_left
                    ·
                     simp only [Act.put, List.setIfInBounds_toArray, List.set_cons_zero, List.set_cons_succ, i64_w, i32_w]
                     rfl
                    refine done_ (done_of HT_.out (by kernel_rfl)) ?_
                    try go_wp2
                    have n0_ := Aside0.mk (Kd.V_drew HO_8.out)
                    have n1_ := Aside0.mk (Kd.V_drew HO_11.out)
                    have n2_ := Aside0.mk (Kd.N_drew HO_14.out)
                    have n3_ := Aside0.mk (Kd.R_drew HO_15.out)
                    have n4_ := Aside0.mk (Kd.N_drew HO_479000.out)
                    have n5_ := Aside0.mk (Kd.N_drew HO_479001.out)
                    have n6_ := Aside0.mk (Kd.V_drew HL504_0.out)
                    have n7_ := Aside0.mk (Kd.V_drew HL506_0.out)
                    have n8_ := Aside0.mk (blk_drew BK471.out)
                    have n9_ := Aside0.mk (blk_drew BK478.out)
                    have n10_ := Aside0.mk (Kd.C_drew HR504_0.out)
                    have n11_ := Aside0.mk (Kd.C_drew HR506_0.out)
                    have n12_ := Aside0.mk (below_drew1 HB.out)
                    clear HO_8
                    clear HO_11
                    clear HO_14
                    clear HO_15
                    clear HO_479000
                    clear HO_479001
                    clear HL504_0
                    clear HL506_0
                    clear BK471
                    clear BK478
                    clear HR504_0
                    clear HR506_0
                    clear HB
                    have HO_8 := n0_
                    have HO_11 := n1_
                    have HO_14 := n2_
                    have HO_15 := n3_
                    have HO_479000 := n4_
                    have HO_479001 := n5_
                    have HL504_0 := n6_
                    have HL506_0 := n7_
                    have BK471 := n8_
                    have BK478 := n9_
                    have HR504_0 := n10_
                    have HR506_0 := n11_
                    have HB := n12_
                    clear n0_ n1_ n2_ n3_ n4_ n5_ n6_ n7_ n8_ n9_ n10_ n11_ n12_
                    have p510 : 0 ≤ (x20_3 : Int) := of_decide_eq_true (by first | (with_reducible assumption) | assumption)
                    have q510 : x20_3 < (y493.length : Int) := of_decide_eq_true (by first | (with_reducible assumption) | assumption)
                    obtain ⟨ad510, A510_0, c510_0, e510, hx510_0, hl510_0, hi510_0⟩ := at_L7 (Kd.N_reads' HO_14.out).2.2 x20_3 p510 q510
                    obtain rfl : ad504 = ad510 := (by injection e510)
                    obtain ⟨ce510, hce510, hMe510, hcc510⟩ := Kd.N_get HO_14.out [] x20_3 p510 (by first | exact q510 | exact of_decide_eq_true (by first | (with_reducible assumption) | assumption) | (have e_ := (Kd.N_reads' HO_14.out).1; omega))
                    obtain ⟨ua510_0, uc510_0, rfl, ul510_0, ge510_0⟩ := Kd.FK_slice_open hMe510
                    have hv510_0 := hcc510 0 _ rfl
                    rw [Nat.add_zero, show ((Kd.slice 4 Kd.bool)).sz = 1 from rfl, Nat.mul_one] at hv510_0
                    replace hv510_0 := Option.some.inj (hv510_0.symm.trans hx510_0)
                    injection hv510_0 with hva_ hvn_ hvc_
                    rw [hva_] at ge510_0
                    rw [hvc_] at ul510_0
                    have HL510_0 := Aside0.mk (show Kd.V Kd.bool 4 _ w.heap.size _ _ (rd_L7 y493 x20_3) from Kd.V_mk ul510_0 ge510_0)
                    clear hva_ hvn_ hvc_ ge510_0 ul510_0
                    clear hcc510 hce510
                    have HR510_0 := Aside0.mk hi510_0
                    have HC510_0 := Aside0.mk hl510_0
                    clear hi510_0 hl510_0
                    replace p510 := eq_true p510
                    replace q510 := eq_true q510
                    have p511 : 0 ≤ (x20_3 : Int) := of_decide_eq_true (by first | (with_reducible assumption) | assumption)
                    have q511 : x20_3 < (x15_29.length : Int) := of_decide_eq_true (by first | (with_reducible assumption) | assumption)
                    obtain ⟨ad511, e511, hx511_0⟩ := Kd.at_int (Kd.R_reads' HO_15.out).2.2 x20_3 p511 q511
                    obtain rfl : ad505 = ad511 := (by injection e511)
                    replace p511 := eq_true p511
                    replace q511 := eq_true q511
                    refine start_ (n := 15) (S := fun w' => w'.cell? (ad504.add (x20_3).toNat) = some (.slice A510_0 (rd_L7 y493 x20_3).length c510_0) ∧ w'.cell? (ad505.add (x20_3).toNat) = some (.int .i64 (rd x15_29 x20_3))) (ds := []) #[false, false, false, false, false, false, false, false, false, false, false, false, false, false, false] (by kernel_rfl) rfl rfl ⟨hx510_0, hx511_0⟩ (fun hHeld => ?_); refine with_tabW foretellkeep_ClaimOnly.tab25 foretellkeep_ClaimOnly.bits25 (fun HT_ HW_ => ?_)
                    generalize w73.drew = w74 at HO_8 HO_11 HO_14 HO_15 HO_479000 HO_479001 HL504_0 HL506_0 BK471 BK478 HR504_0 HR506_0 HB HL510_0 HR510_0 hx510_0 hx511_0 hHeld ⊢
                    refine pure_ (i := 0) (N := some 137) (v := ?_) (a' := ?_) #[true, false, false, false, false, false, false, false, false, false, false, false, false, false, false] rfl rfl (any_of HT_.out (by kernel_rfl)) (fun _ _ _ h => h) (Or.inl ⟨by rfl, ?_⟩) ?_ ?_
                    rotate_left
                    ·
                     intro w'
                     go_simp
                     with_reducible rfl
                    rotate_left
                    ·
                     simp only [Act.put, List.setIfInBounds_toArray, List.set_cons_zero, List.set_cons_succ, i64_w, i32_w]
                     rfl
                    refine pure_ (i := 1) (N := some 138) (v := ?_) (a' := ?_) #[true, true, false, false, false, false, false, false, false, false, false, false, false, false, false] rfl rfl (any_of HT_.out (by kernel_rfl)) (fun _ _ _ h => h) (Or.inl ⟨by rfl, ?_⟩) ?_ ?_
                    rotate_left
                    ·
                     intro w'
                     go_simp
                     with_reducible rfl
                    rotate_left
                    ·
                     simp only [Act.put, List.setIfInBounds_toArray, List.set_cons_zero, List.set_cons_succ, i64_w, i32_w]
                     rfl
                    refine pure_ (i := 2) (N := some 139) (v := ?_) (a' := ?_) #[true, true, true, false, false, false, false, false, false, false, false, false, false, false, false] rfl rfl (any_of HT_.out (by kernel_rfl)) (fun _ _ _ h => h) (Or.inl ⟨by rfl, ?_⟩) ?_ ?_
                    rotate_left
                    ·
                     intro w'
                     go_simp
                     with_reducible rfl
                    rotate_left
                    ·
                     simp only [Act.put, List.setIfInBounds_toArray, List.set_cons_zero, List.set_cons_succ, i64_w, i32_w]
                     rfl
                    refine pure_ (i := 3) (N := some 140) (v := ?_) (a' := ?_) #[true, true, true, true, false, false, false, false, false, false, false, false, false, false, false] rfl rfl (any_of HT_.out (by kernel_rfl)) (fun _ _ _ h => h) (Or.inl ⟨by rfl, ?_⟩) ?_ ?_
                    rotate_left
                    ·
                     intro w'
                     go_simp
                     with_reducible rfl
                    rotate_left
                    ·
                     simp only [Act.put, List.setIfInBounds_toArray, List.set_cons_zero, List.set_cons_succ, i64_w, i32_w]
                     rfl
                    refine pure_ (i := 5) (N := some 142) (v := ?_) (a' := ?_) #[true, true, true, true, false, true, false, false, false, false, false, false, false, false, false] rfl rfl (any_of HT_.out (by kernel_rfl)) (fun _ _ _ h => h) (Or.inl ⟨by rfl, ?_⟩) ?_ ?_
                    rotate_left
                    ·
                     intro w'
                     go_simp
                     with_reducible rfl
                    rotate_left
                    ·
                     simp only [Act.put, List.setIfInBounds_toArray, List.set_cons_zero, List.set_cons_succ, i64_w, i32_w]
                     rfl
                    refine pure_ (i := 6) (N := some 143) (v := ?_) (a' := ?_) #[true, true, true, true, false, true, true, false, false, false, false, false, false, false, false] rfl rfl (any_of HT_.out (by kernel_rfl)) (fun _ _ _ h => h) (Or.inl ⟨by rfl, ?_⟩) ?_ ?_
                    rotate_left
                    ·
                     intro w'
                     go_simp
                     with_reducible rfl
                    rotate_left
                    ·
                     simp only [Act.put, List.setIfInBounds_toArray, List.set_cons_zero, List.set_cons_succ, i64_w, i32_w]
                     rfl
                    refine pure_ (i := 7) (N := some 144) (v := ?_) (a' := ?_) #[true, true, true, true, false, true, true, true, false, false, false, false, false, false, false] rfl rfl (any_of HT_.out (by kernel_rfl)) (fun _ _ _ h => h) (Or.inl ⟨by rfl, ?_⟩) ?_ ?_
                    rotate_left
                    ·
                     intro w'
                     go_simp
                     with_reducible rfl
                    rotate_left
                    ·
                     simp only [Act.put, List.setIfInBounds_toArray, List.set_cons_zero, List.set_cons_succ, i64_w, i32_w]
                     rfl
                    refine take_ (i := 4) (N := some 141) (v := ?_) (a' := ?_) #[true, true, true, true, true, true, true, true, false, false, false, false, false, false, false] rfl rfl (take_ofW HT_.out HW_.out (by kernel_rfl)) (fun _ _ _ h => h) (Or.inl ⟨by rfl, ?_⟩) hHeld ?_ ?_
                    rotate_left
                    ·
                     rintro w' ⟨s0, s1⟩
                     go_simp
                     with_reducible rfl
                    rotate_left
                    ·
                     simp only [Act.put, List.setIfInBounds_toArray, List.set_cons_zero, List.set_cons_succ, i64_w, i32_w]
                     rfl
                    refine take_ (i := 8) (N := some 145) (v := ?_) (a' := ?_) #[true, true, true, true, true, true, true, true, true, false, false, false, false, false, false] rfl rfl (take_ofW HT_.out HW_.out (by kernel_rfl)) (fun _ _ _ h => h) (Or.inl ⟨by rfl, ?_⟩) hHeld ?_ ?_
                    rotate_left
                    ·
                     rintro w' ⟨s0, s1⟩
                     go_simp
                     with_reducible rfl
                    rotate_left
                    ·
                     simp only [Act.put, List.setIfInBounds_toArray, List.set_cons_zero, List.set_cons_succ, i64_w, i32_w]
                     rfl
                    refine one_ (i := 9) (N := some 146) #[true, true, true, true, true, true, true, true, true, true, false, false, false, false, false] rfl rfl (one_of HT_.out (by kernel_rfl)) (by decide) (fun K hK => ?_)
                    refine goes_ Tryd.func22 (by kernel_rfl) rfl #[.slice Ao19 t479.length co19, .slice A510_0 (rd_L7 y493 x20_3).length c510_0, .int .i64 (rd x15_29 x20_3)] (by rfl) rfl rfl (by (try simp only [List.map_toArray, List.map_cons, List.map_nil]); first | done | rfl | (simp only [List.length_drop, List.length_take]; rfl)) ?_
                    with_reducible refine (logic_Meets.calls kj56 _ _ t479 _ _ (rd_L7 y493 x20_3) (rd x15_29 x20_3) t512 t513 _ ?side1 ?side2 ?side3 ?side4 ?side5 A68.out).mono ?_
                    (case side1 => repeat (first | exact (Kd.V_reads' HO_8.out).2.2 | (with_reducible refine Kd.C_alloc ?_ _) | (with_reducible refine Kd.C_drewN ?_ _) | (with_reducible refine Kd.C_drew ?_)))
                    (case side2 => exact (Kd.V_reads' HO_8.out).2.1)
                    (case side3 => repeat (first | exact (by repeat (first | (with_reducible exact HR510_0.out) | (with_reducible refine Kd.C_alloc ?_ _) | (with_reducible refine Kd.C_drewN ?_ _) | (with_reducible refine Kd.C_drew ?_) | exact HR510_0.out)) | (with_reducible refine Kd.C_alloc ?_ _) | (with_reducible refine Kd.C_drewN ?_ _) | (with_reducible refine Kd.C_drew ?_)))
                    (case side4 => exact HC510_0.out)
                    (case side5 => first | exact hG_ | exact Glob.drewN hG_ _ | exact Glob.below hG_ (by repeat (first | (with_reducible first | exact HB.out | apply below_alloc | apply pw_below_drewN | apply below_drew1 | refine below_set ?_ GE471.out | refine below_set ?_ GE478.out) | exact HB.out)))
                    rintro e w75 ⟨rfl, hb⟩
                    have HS0_ := (hb.cell (World.block_lt_of_cell? _ _ (hHeld.1))).trans (hHeld.1)
                    have HS1_ := (hb.cell (World.block_lt_of_cell? _ _ (hHeld.2))).trans (hHeld.2)
                    refine ⟨_, rfl, ?_⟩
                    have n0_ := Aside0.mk (Kd.V_below (by (with_reducible repeat (first | apply Kd.V_alloc | apply Kd.V_drewN | apply Kd.V_drew)); exact HO_8.out) hb)
                    have n1_ := Aside0.mk (Kd.V_below (by (with_reducible repeat (first | apply Kd.V_alloc | apply Kd.V_drewN | apply Kd.V_drew)); exact HO_11.out) hb)
                    have n2_ := Aside0.mk (Kd.N_below (by (with_reducible repeat (first | apply Kd.N_alloc | apply Kd.N_drewN | apply Kd.N_drew)); exact HO_14.out) hb)
                    have n3_ := Aside0.mk (Kd.R_below (by (with_reducible repeat (first | apply Kd.R_alloc | apply Kd.R_drewN | apply Kd.R_drew)); exact HO_15.out) hb)
                    have n4_ := Aside0.mk (Kd.N_below (by (with_reducible repeat (first | apply Kd.N_alloc | apply Kd.N_drewN | apply Kd.N_drew)); exact HO_479000.out) hb)
                    have n5_ := Aside0.mk (Kd.N_below (by (with_reducible repeat (first | apply Kd.N_alloc | apply Kd.N_drewN | apply Kd.N_drew)); exact HO_479001.out) hb)
                    have n6_ := Aside0.mk (Kd.V_below (by (with_reducible repeat (first | apply Kd.V_alloc | apply Kd.V_drewN | apply Kd.V_drew)); exact HL504_0.out) hb)
                    have n7_ := Aside0.mk (Kd.V_below (by (with_reducible repeat (first | apply Kd.V_alloc | apply Kd.V_drewN | apply Kd.V_drew)); exact HL506_0.out) hb)
                    have n8_ := Aside0.mk (Kd.V_below (by (with_reducible repeat (first | apply Kd.V_alloc | apply Kd.V_drewN | apply Kd.V_drew)); exact HL510_0.out) hb)
                    have n9_ := Aside0.mk (blk_below (g := gb471) (o := .cells #[.slice A1_0 l1_0.length c1_0, .slice A1_1 l1_1.length c1_1] 40 (0, 0)) (by (with_reducible repeat (first | refine blk_drewN ?_ _ | refine blk_drew ?_ | refine blk_alloc ?_ _)); exact BK471.out) hb)
                    have n10_ := Aside0.mk (blk_below (g := gb478) (o := .cells #[.slice Ao13 t472.length co13, .slice Ao16 t475.length co16] 43 (0, 0)) (by (with_reducible repeat (first | refine blk_drewN ?_ _ | refine blk_drew ?_ | refine blk_alloc ?_ _)); exact BK478.out) hb)
                    have n11_ := Aside0.mk (Kd.C_below (by repeat (first | (with_reducible exact HR504_0.out) | (with_reducible refine Kd.C_alloc ?_ _) | (with_reducible refine Kd.C_drewN ?_ _) | (with_reducible refine Kd.C_drew ?_) | exact HR504_0.out)) hb)
                    have n12_ := Aside0.mk (Kd.C_below (by repeat (first | (with_reducible exact HR506_0.out) | (with_reducible refine Kd.C_alloc ?_ _) | (with_reducible refine Kd.C_drewN ?_ _) | (with_reducible refine Kd.C_drew ?_) | exact HR506_0.out)) hb)
                    have n13_ := Aside0.mk (Kd.C_below (by repeat (first | (with_reducible exact HR510_0.out) | (with_reducible refine Kd.C_alloc ?_ _) | (with_reducible refine Kd.C_drewN ?_ _) | (with_reducible refine Kd.C_drew ?_) | exact HR510_0.out)) hb)
                    have n14_ := Aside0.mk (below_step (by repeat (first | (with_reducible first | exact HB.out | apply below_alloc | apply pw_below_drewN | apply below_drew1 | refine below_set ?_ GE471.out | refine below_set ?_ GE478.out) | exact HB.out)) hb)
                    clear HO_8
                    clear HO_11
                    clear HO_14
                    clear HO_15
                    clear HO_479000
                    clear HO_479001
                    clear HL504_0
                    clear HL506_0
                    clear HL510_0
                    clear BK471
                    clear BK478
                    clear HR504_0
                    clear HR506_0
                    clear HR510_0
                    clear HB
                    have HO_8 := n0_
                    have HO_11 := n1_
                    have HO_14 := n2_
                    have HO_15 := n3_
                    have HO_479000 := n4_
                    have HO_479001 := n5_
                    have HL504_0 := n6_
                    have HL506_0 := n7_
                    have HL510_0 := n8_
                    have BK471 := n9_
                    have BK478 := n10_
                    have HR504_0 := n11_
                    have HR506_0 := n12_
                    have HR510_0 := n13_
                    have HB := n14_
                    clear n0_ n1_ n2_ n3_ n4_ n5_ n6_ n7_ n8_ n9_ n10_ n11_ n12_ n13_ n14_
                    (try clear hb)
                    (try clear hb2)
                    (try clear hk)
                    (try clear hi)
                    refine hK.out _ _ ⟨HS0_, HS1_⟩ (fun hHeld => ?_)
                    clear hK K
                    refine norm_ (a' := ?_) ?_ ?_
                    rotate_left
                    ·
                     show Act.put _ (some 146) _ = _
                     simp only [Act.put, List.setIfInBounds_toArray, List.set_cons_zero, List.set_cons_succ, i64_w, i32_w]
                     rfl
                    refine pure_ (i := 10) (N := some 136) (v := ?_) (a' := ?_) #[true, true, true, true, true, true, true, true, true, true, true, false, false, false, false] rfl rfl (any_of HT_.out (by kernel_rfl)) (fun _ _ _ h => h) (Or.inl ⟨by rfl, ?_⟩) ?_ ?_
                    rotate_left
                    ·
                     intro w'
                     go_simp
                     with_reducible rfl
                    rotate_left
                    ·
                     simp only [Act.put, List.setIfInBounds_toArray, List.set_cons_zero, List.set_cons_succ, i64_w, i32_w]
                     rfl
                    refine pure_ (i := 11) (N := some 147) (v := ?_) (a' := ?_) #[true, true, true, true, true, true, true, true, true, true, true, true, false, false, false] rfl rfl (any_of HT_.out (by kernel_rfl)) (fun _ _ _ h => h) (Or.inl ⟨by rfl, ?_⟩) ?_ ?_
                    rotate_left
                    ·
                     intro w'
                     go_simp
                     with_reducible rfl
                    rotate_left
                    ·
                     simp only [Act.put, List.setIfInBounds_toArray, List.set_cons_zero, List.set_cons_succ, i64_w, i32_w]
                     rfl
                    refine pure_ (i := 12) (N := some 148) (v := ?_) (a' := ?_) #[true, true, true, true, true, true, true, true, true, true, true, true, true, false, false] rfl rfl (any_of HT_.out (by kernel_rfl)) (fun _ _ _ h => h) (Or.inl ⟨by rfl, ?_⟩) ?_ ?_
                    rotate_left
                    ·
                     intro w'
                     go_simp
                     with_reducible rfl
                    rotate_left
                    ·
                     simp only [Act.put, List.setIfInBounds_toArray, List.set_cons_zero, List.set_cons_succ, i64_w, i32_w]
                     rfl
                    refine pure_ (i := 13) (N := some 24) (v := ?_) (a' := ?_) #[true, true, true, true, true, true, true, true, true, true, true, true, true, true, false] rfl rfl (any_of HT_.out (by kernel_rfl)) (fun _ _ _ h => h) (Or.inl ⟨by rfl, ?_⟩) ?_ ?_
                    rotate_left
                    ·
                     intro w'
                     go_simp
                     with_reducible rfl
                    rotate_left
                    ·
                     simp only [Act.put, List.setIfInBounds_toArray, List.set_cons_zero, List.set_cons_succ, i64_w, i32_w]
                     rfl
                    refine pure_ (i := 14) (N := some 25) (v := ?_) (a' := ?_) #[true, true, true, true, true, true, true, true, true, true, true, true, true, true, true] rfl rfl (any_of HT_.out (by kernel_rfl)) (fun _ _ _ h => h) (Or.inl ⟨by rfl, ?_⟩) ?_ ?_
                    rotate_left
                    ·
                     intro w'
                     go_simp
                     with_reducible rfl
                    rotate_left
                    ·
                     simp only [Act.put, List.setIfInBounds_toArray, List.set_cons_zero, List.set_cons_succ, i64_w, i32_w]
                     rfl
                    refine done_ (done_of HT_.out (by kernel_rfl)) ?_
                    go_upto_region 26 with (fail)
                    go_cut [154] (fun v154 wc => ∃ (kq : Nat) (x154_68 : Bool), v154 = .bool x154_68 ∧ Aside0 (foretellkeep_ClaimOnly.j6 kq t479 t486 (wrap64 ((t472.length : Int) + (t475.length : Int))) y493 x15_29 x16_29 x18_3 x19_3 x20_3 t508 t512 x154_68 t472 t475 = some r) ∧ Aside0 (kq ≤ kj56) ∧ Aside0 (Kd.V k51 51 wc w.heap.size (fun k_ => some k_ ≠ ((.slice (some ad504) y493.length co72) : Value).ownBlock ∧ some k_ ≠ ((.slice (some ad505) x15_29.length co70) : Value).ownBlock ∧ k_ ≠ gb471 ∧ k_ ≠ gb478) (.slice Ao19 t479.length co19) t479) ∧ Aside0 (Kd.V (Kd.int .i64) 3 wc w.heap.size (fun k_ => some k_ ≠ ((.slice (some ad504) y493.length co72) : Value).ownBlock ∧ some k_ ≠ ((.slice (some ad505) x15_29.length co70) : Value).ownBlock ∧ k_ ≠ gb471 ∧ k_ ≠ gb478) (.slice Ao32 t486.length co32) t486) ∧ Aside0 (Kd.N (Kd.slice 4 Kd.bool) 30 wc w.heap.size (fun k_ => some k_ ≠ ((.slice (some ad505) x15_29.length co70) : Value).ownBlock ∧ k_ ≠ gb471 ∧ k_ ≠ gb478) (.slice (some ad504) y493.length co72) y493) ∧ Aside0 (Kd.R (Kd.int .i64) 3 wc w.heap.size (fun _ => True) (.slice (some ad505) x15_29.length co70) x15_29) ∧ Aside0 (Kd.N (Kd.slice 4 Kd.bool) 30 wc w.heap.size (fun k_ => some k_ ≠ ((.slice (some ad504) y493.length co72) : Value).ownBlock ∧ some k_ ≠ ((.slice (some ad505) x15_29.length co70) : Value).ownBlock ∧ some k_ ≠ ((.slice Ao16 t475.length co16) : Value).ownBlock ∧ k_ ≠ gb471 ∧ k_ ≠ gb478) (.slice Ao13 t472.length co13) t472) ∧ Aside0 (Kd.N (Kd.slice 4 Kd.bool) 30 wc w.heap.size (fun k_ => some k_ ≠ ((.slice (some ad504) y493.length co72) : Value).ownBlock ∧ some k_ ≠ ((.slice (some ad505) x15_29.length co70) : Value).ownBlock ∧ some k_ ≠ ((.slice Ao13 t472.length co13) : Value).ownBlock ∧ k_ ≠ gb471 ∧ k_ ≠ gb478) (.slice Ao16 t475.length co16) t475) ∧ Aside0 (wc.heap[gb471]? = some (.cells #[(.slice A1_0 l1_0.length c1_0), (.slice A1_1 l1_1.length c1_1)] 40 (0, 0))) ∧ Aside0 (wc.heap[gb478]? = some (.cells #[(.slice Ao13 t472.length co13), (.slice Ao16 t475.length co16)] 43 (0, 0))) ∧ Aside0 (Kd.C Kd.bool wc A504_0 (rd_L7 y493 x20_3).length (rd_L7 y493 x20_3)) ∧ Aside0 (Kd.C Kd.bool wc A506_0 (rd_L7 y493 x21_56).length (rd_L7 y493 x21_56)) ∧ Aside0 (Kd.C Kd.bool wc A510_0 (rd_L7 y493 x20_3).length (rd_L7 y493 x20_3)) ∧ Aside0 (Below w.heap.size w wc))
                    case first =>
                     have H := HC69.out
                     clear HC69
                     by_cases c76 : t509 = 0
                     ·
                      rw [if_pos c76] at H
                      have c76b0 : (t509 == 0) = true := beq_iff_eq.mpr c76
                      have c76b1 : (t509 != 0) = false := bne_eq_false_iff_eq.mpr c76
                      clear c76
                      (first | rw [c76b0] | (simp only [i64_w, i32_w]; rw [c76b0]) | skip)
                      have H' := Aside0.mk H
                      clear H
                      go_wp2
                      go_meet
                      case rel => exact ⟨_, ((t513 != 0)), (by first | rfl | (simp; done) | (simp [*]; done)), (by first | exact H' | (rw [hji41]; exact H')), ⟨by have := HJ7.out; have := HJ29.out; have := HK3.out; have := HJ56.out; first | omega | exact Nat.le_refl _⟩, ⟨by (with_reducible repeat (first | apply Kd.V_alloc | apply Kd.V_drewN | apply Kd.V_drew)); exact HO_8.out⟩, ⟨by (with_reducible repeat (first | apply Kd.V_alloc | apply Kd.V_drewN | apply Kd.V_drew)); exact HO_11.out⟩, ⟨by (with_reducible repeat (first | apply Kd.N_alloc | apply Kd.N_drewN | apply Kd.N_drew)); exact HO_14.out⟩, ⟨by (with_reducible repeat (first | apply Kd.R_alloc | apply Kd.R_drewN | apply Kd.R_drew)); exact HO_15.out⟩, ⟨by (with_reducible repeat (first | apply Kd.N_alloc | apply Kd.N_drewN | apply Kd.N_drew)); exact HO_479000.out⟩, ⟨by (with_reducible repeat (first | apply Kd.N_alloc | apply Kd.N_drewN | apply Kd.N_drew)); exact HO_479001.out⟩, ⟨by (with_reducible repeat (first | refine blk_drewN ?_ _ | refine blk_drew ?_ | refine blk_alloc ?_ _)); exact BK471.out⟩, ⟨by (with_reducible repeat (first | refine blk_drewN ?_ _ | refine blk_drew ?_ | refine blk_alloc ?_ _)); exact BK478.out⟩, ⟨by repeat (first | (with_reducible exact HR504_0.out) | (with_reducible refine Kd.C_alloc ?_ _) | (with_reducible refine Kd.C_drewN ?_ _) | (with_reducible refine Kd.C_drew ?_) | exact HR504_0.out)⟩, ⟨by repeat (first | (with_reducible exact HR506_0.out) | (with_reducible refine Kd.C_alloc ?_ _) | (with_reducible refine Kd.C_drewN ?_ _) | (with_reducible refine Kd.C_drew ?_) | exact HR506_0.out)⟩, ⟨by repeat (first | (with_reducible exact HR510_0.out) | (with_reducible refine Kd.C_alloc ?_ _) | (with_reducible refine Kd.C_drewN ?_ _) | (with_reducible refine Kd.C_drew ?_) | exact HR510_0.out)⟩, ⟨by repeat (first | (with_reducible first | exact HB.out | apply below_alloc | apply pw_below_drewN | apply below_drew1 | refine below_set ?_ GE471.out | refine below_set ?_ GE478.out) | exact HB.out)⟩⟩
                     ·
                      rw [if_neg c76] at H
                      have c76b0 : (t509 == 0) = false := beq_eq_false_iff_ne.mpr c76
                      have c76b1 : (t509 != 0) = true := bne_iff_ne.mpr c76
                      (first | rw [c76b0] | (simp only [i64_w, i32_w]; rw [c76b0]) | skip)
                      have H' := Aside0.mk H
                      clear H
                      go_wp2
                      go_meet
                      case rel => exact ⟨_, (true), (by first | rfl | (simp; done) | (simp [*]; done)), (by first | exact H' | (rw [hji41]; exact H')), ⟨by have := HJ7.out; have := HJ29.out; have := HK3.out; have := HJ56.out; first | omega | exact Nat.le_refl _⟩, ⟨by (with_reducible repeat (first | apply Kd.V_alloc | apply Kd.V_drewN | apply Kd.V_drew)); exact HO_8.out⟩, ⟨by (with_reducible repeat (first | apply Kd.V_alloc | apply Kd.V_drewN | apply Kd.V_drew)); exact HO_11.out⟩, ⟨by (with_reducible repeat (first | apply Kd.N_alloc | apply Kd.N_drewN | apply Kd.N_drew)); exact HO_14.out⟩, ⟨by (with_reducible repeat (first | apply Kd.R_alloc | apply Kd.R_drewN | apply Kd.R_drew)); exact HO_15.out⟩, ⟨by (with_reducible repeat (first | apply Kd.N_alloc | apply Kd.N_drewN | apply Kd.N_drew)); exact HO_479000.out⟩, ⟨by (with_reducible repeat (first | apply Kd.N_alloc | apply Kd.N_drewN | apply Kd.N_drew)); exact HO_479001.out⟩, ⟨by (with_reducible repeat (first | refine blk_drewN ?_ _ | refine blk_drew ?_ | refine blk_alloc ?_ _)); exact BK471.out⟩, ⟨by (with_reducible repeat (first | refine blk_drewN ?_ _ | refine blk_drew ?_ | refine blk_alloc ?_ _)); exact BK478.out⟩, ⟨by repeat (first | (with_reducible exact HR504_0.out) | (with_reducible refine Kd.C_alloc ?_ _) | (with_reducible refine Kd.C_drewN ?_ _) | (with_reducible refine Kd.C_drew ?_) | exact HR504_0.out)⟩, ⟨by repeat (first | (with_reducible exact HR506_0.out) | (with_reducible refine Kd.C_alloc ?_ _) | (with_reducible refine Kd.C_drewN ?_ _) | (with_reducible refine Kd.C_drew ?_) | exact HR506_0.out)⟩, ⟨by repeat (first | (with_reducible exact HR510_0.out) | (with_reducible refine Kd.C_alloc ?_ _) | (with_reducible refine Kd.C_drewN ?_ _) | (with_reducible refine Kd.C_drew ?_) | exact HR510_0.out)⟩, ⟨by repeat (first | (with_reducible first | exact HB.out | apply below_alloc | apply pw_below_drewN | apply below_drew1 | refine below_set ?_ GE471.out | refine below_set ?_ GE478.out) | exact HB.out)⟩⟩
                    case rest =>
                     clear HC69
                     try clear c1
                     try clear c2
                     try clear p2
                     try clear c5
                     try clear p5
                     try clear q5
                     try clear hx5
                     try clear p6
                     try clear c7
                     try clear c22
                     try clear c28
                     try clear c50
                     try clear p50
                     try clear q50
                     try clear hx50
                     try clear c51
                     try clear p51
                     try clear q51
                     try clear hx51
                     try clear p64
                     try clear c76
                     try clear c76b0
                     try clear c76b1
                     try clear hx504_0
                     try clear hx505_0
                     try clear hx506_0
                     try clear hx507_0
                     try clear hx510_0
                     try clear hx511_0
                     try clear p504
                     try clear p505
                     try clear p506
                     try clear p507
                     try clear p510
                     try clear p511
                     try clear q504
                     try clear q505
                     try clear q506
                     try clear q507
                     try clear q510
                     try clear q511
                     obtain ⟨kq, x154_68, rfl, HA, HJ68, HO_8, HO_11, HO_14, HO_15, HO_479000, HO_479001, BK471, BK478, HR504_0, HR506_0, HR510_0, HB⟩ := hcut
                     cases kq with
                     | zero => exact absurd HA.out (by simp [foretellkeep_ClaimOnly.j6])
                     | succ kj68 =>
                      have H := HA.out
                      clear HA
                      simp only [foretellkeep_ClaimOnly.j6] at H
                      by_cases c77 : x154_68 = true
                      ·
                       subst c77
                       have H1 : (some false) = some r := by rw [if_pos rfl] at H; exact H
                       clear H
                       have H := H1
                       clear H1
                       exact absurd ((Option.some.inj H).trans hr_.out) (by decide)
                      ·
                       replace c77 := Bool.eq_false_iff.mpr c77
                       subst c77
                       have H1 : (if x19_3 = true then (if x20_3 ≥ (t472.length : Int) then (foretellkeep_ClaimOnly.l1 kj68 t479 t486 (wrap64 ((t472.length : Int) + (t475.length : Int))) y493 x15_29 x16_29 (Go.bits .or .i64 x18_3 t512) t508 (wrap64 (x20_3 + 1)) t472 t475) else (foretellkeep_ClaimOnly.l1 kj68 t479 t486 (wrap64 ((t472.length : Int) + (t475.length : Int))) y493 x15_29 x16_29 x18_3 t508 (wrap64 (x20_3 + 1)) t472 t475)) else (if x20_3 ≥ (t472.length : Int) then (foretellkeep_ClaimOnly.l1 kj68 t479 t486 (wrap64 ((t472.length : Int) + (t475.length : Int))) y493 x15_29 x16_29 (Go.bits .or .i64 x18_3 t512) false (wrap64 (x20_3 + 1)) t472 t475) else (foretellkeep_ClaimOnly.l1 kj68 t479 t486 (wrap64 ((t472.length : Int) + (t475.length : Int))) y493 x15_29 x16_29 x18_3 false (wrap64 (x20_3 + 1)) t472 t475))) = some r := by rw [if_neg (show ¬ (false = true) by decide)] at H; exact H
                       clear H
                       have H := H1
                       clear H1
                       by_cases c78 : x19_3 = true
                       ·
                        subst c78
                        have H1 : (if x20_3 ≥ (t472.length : Int) then (foretellkeep_ClaimOnly.l1 kj68 t479 t486 (wrap64 ((t472.length : Int) + (t475.length : Int))) y493 x15_29 x16_29 (Go.bits .or .i64 x18_3 t512) t508 (wrap64 (x20_3 + 1)) t472 t475) else (foretellkeep_ClaimOnly.l1 kj68 t479 t486 (wrap64 ((t472.length : Int) + (t475.length : Int))) y493 x15_29 x16_29 x18_3 t508 (wrap64 (x20_3 + 1)) t472 t475)) = some r := by rw [if_pos rfl] at H; exact H
                        clear H
                        have H := H1
                        clear H1
                        by_cases c79 : x20_3 ≥ (t472.length : Int)
                        ·
                         rw [if_pos c79] at H
                         have c79b0 : decide ((t472.length : Int) ≤ x20_3) = true := decide_eq_true c79
                         clear c79
                         have H' := Aside0.mk H
                         clear H
                         have hnb80 := NB478_471.out
                         have hnc80 := NB471_478.out
                         have hcz81_0 : wc.cell? ⟨gb478, 0, none⟩ = some (.slice Ao13 t472.length co13) := (blk_cell BK478.out 0).trans rfl
                         have hcz81_1 : wc.cell? ⟨gb478, 1, none⟩ = some (.slice Ao16 t475.length co16) := (blk_cell BK478.out 1).trans rfl
                         have hfz81_0 := blk_frozen BK478.out 0
                         have hfz81_1 := blk_frozen BK478.out 1
                         go_wp2
                         go_roundg kj68
                         case measure => have := HJ7.out; have := HJ29.out; have := HK3.out; have := HJ56.out; have := HJ68.out; omega
                         case rel => exact ⟨(Go.bits .or .i64 x18_3 t512), (t508), (wrap64 (x20_3 + 1)), (by first | rfl | (simp; done) | (simp [*]; done)), (by first | rfl | (simp; done) | (simp [*]; done)), (by first | rfl | (simp; done) | (simp [*]; done)), (by first | exact H' | (rw [hji41]; exact H')), ⟨by have := HJ7.out; have := HJ29.out; have := HK3.out; have := HJ56.out; have := HJ68.out; omega⟩, ⟨by (with_reducible repeat (first | apply Kd.V_alloc | apply Kd.V_drewN | apply Kd.V_drew)); exact HO_8.out⟩, ⟨by (with_reducible repeat (first | apply Kd.V_alloc | apply Kd.V_drewN | apply Kd.V_drew)); exact HO_11.out⟩, ⟨by (with_reducible repeat (first | apply Kd.N_alloc | apply Kd.N_drewN | apply Kd.N_drew)); exact HO_14.out⟩, ⟨by (with_reducible repeat (first | apply Kd.R_alloc | apply Kd.R_drewN | apply Kd.R_drew)); exact HO_15.out⟩, ⟨by (with_reducible repeat (first | apply Kd.N_alloc | apply Kd.N_drewN | apply Kd.N_drew)); exact HO_479000.out⟩, ⟨by (with_reducible repeat (first | apply Kd.N_alloc | apply Kd.N_drewN | apply Kd.N_drew)); exact HO_479001.out⟩, ⟨by (with_reducible repeat (first | refine blk_drewN ?_ _ | refine blk_drew ?_ | refine blk_alloc ?_ _)); exact BK471.out⟩, ⟨by (with_reducible repeat (first | refine blk_drewN ?_ _ | refine blk_drew ?_ | refine blk_alloc ?_ _)); exact BK478.out⟩, ⟨by repeat (first | (with_reducible first | exact HB.out | apply below_alloc | apply pw_below_drewN | apply below_drew1 | refine below_set ?_ GE471.out | refine below_set ?_ GE478.out) | exact HB.out)⟩⟩
                        ·
                         rw [if_neg c79] at H
                         have c79b0 : decide ((t472.length : Int) ≤ x20_3) = false := decide_eq_false c79
                         clear c79
                         have H' := Aside0.mk H
                         clear H
                         have hnb82 := NB478_471.out
                         have hnc82 := NB471_478.out
                         have hcz83_0 : wc.cell? ⟨gb478, 0, none⟩ = some (.slice Ao13 t472.length co13) := (blk_cell BK478.out 0).trans rfl
                         have hcz83_1 : wc.cell? ⟨gb478, 1, none⟩ = some (.slice Ao16 t475.length co16) := (blk_cell BK478.out 1).trans rfl
                         have hfz83_0 := blk_frozen BK478.out 0
                         have hfz83_1 := blk_frozen BK478.out 1
                         go_wp2
                         go_roundg kj68
                         case measure => have := HJ7.out; have := HJ29.out; have := HK3.out; have := HJ56.out; have := HJ68.out; omega
                         case rel => exact ⟨(x18_3), (t508), (wrap64 (x20_3 + 1)), (by first | rfl | (simp; done) | (simp [*]; done)), (by first | rfl | (simp; done) | (simp [*]; done)), (by first | rfl | (simp; done) | (simp [*]; done)), (by first | exact H' | (rw [hji41]; exact H')), ⟨by have := HJ7.out; have := HJ29.out; have := HK3.out; have := HJ56.out; have := HJ68.out; omega⟩, ⟨by (with_reducible repeat (first | apply Kd.V_alloc | apply Kd.V_drewN | apply Kd.V_drew)); exact HO_8.out⟩, ⟨by (with_reducible repeat (first | apply Kd.V_alloc | apply Kd.V_drewN | apply Kd.V_drew)); exact HO_11.out⟩, ⟨by (with_reducible repeat (first | apply Kd.N_alloc | apply Kd.N_drewN | apply Kd.N_drew)); exact HO_14.out⟩, ⟨by (with_reducible repeat (first | apply Kd.R_alloc | apply Kd.R_drewN | apply Kd.R_drew)); exact HO_15.out⟩, ⟨by (with_reducible repeat (first | apply Kd.N_alloc | apply Kd.N_drewN | apply Kd.N_drew)); exact HO_479000.out⟩, ⟨by (with_reducible repeat (first | apply Kd.N_alloc | apply Kd.N_drewN | apply Kd.N_drew)); exact HO_479001.out⟩, ⟨by (with_reducible repeat (first | refine blk_drewN ?_ _ | refine blk_drew ?_ | refine blk_alloc ?_ _)); exact BK471.out⟩, ⟨by (with_reducible repeat (first | refine blk_drewN ?_ _ | refine blk_drew ?_ | refine blk_alloc ?_ _)); exact BK478.out⟩, ⟨by repeat (first | (with_reducible first | exact HB.out | apply below_alloc | apply pw_below_drewN | apply below_drew1 | refine below_set ?_ GE471.out | refine below_set ?_ GE478.out) | exact HB.out)⟩⟩
                       ·
                        replace c78 := Bool.eq_false_iff.mpr c78
                        subst c78
                        have H1 : (if x20_3 ≥ (t472.length : Int) then (foretellkeep_ClaimOnly.l1 kj68 t479 t486 (wrap64 ((t472.length : Int) + (t475.length : Int))) y493 x15_29 x16_29 (Go.bits .or .i64 x18_3 t512) false (wrap64 (x20_3 + 1)) t472 t475) else (foretellkeep_ClaimOnly.l1 kj68 t479 t486 (wrap64 ((t472.length : Int) + (t475.length : Int))) y493 x15_29 x16_29 x18_3 false (wrap64 (x20_3 + 1)) t472 t475)) = some r := by rw [if_neg (show ¬ (false = true) by decide)] at H; exact H
                        clear H
                        have H := H1
                        clear H1
                        by_cases c84 : x20_3 ≥ (t472.length : Int)
                        ·
                         rw [if_pos c84] at H
                         have c84b0 : decide ((t472.length : Int) ≤ x20_3) = true := decide_eq_true c84
                         clear c84
                         have H' := Aside0.mk H
                         clear H
                         have hnb85 := NB478_471.out
                         have hnc85 := NB471_478.out
                         have hcz86_0 : wc.cell? ⟨gb478, 0, none⟩ = some (.slice Ao13 t472.length co13) := (blk_cell BK478.out 0).trans rfl
                         have hcz86_1 : wc.cell? ⟨gb478, 1, none⟩ = some (.slice Ao16 t475.length co16) := (blk_cell BK478.out 1).trans rfl
                         have hfz86_0 := blk_frozen BK478.out 0
                         have hfz86_1 := blk_frozen BK478.out 1
                         go_wp2
                         go_roundg kj68
                         case measure => have := HJ7.out; have := HJ29.out; have := HK3.out; have := HJ56.out; have := HJ68.out; omega
                         case rel => exact ⟨(Go.bits .or .i64 x18_3 t512), (false), (wrap64 (x20_3 + 1)), (by first | rfl | (simp; done) | (simp [*]; done)), (by first | rfl | (simp; done) | (simp [*]; done)), (by first | rfl | (simp; done) | (simp [*]; done)), (by first | exact H' | (rw [hji41]; exact H')), ⟨by have := HJ7.out; have := HJ29.out; have := HK3.out; have := HJ56.out; have := HJ68.out; omega⟩, ⟨by (with_reducible repeat (first | apply Kd.V_alloc | apply Kd.V_drewN | apply Kd.V_drew)); exact HO_8.out⟩, ⟨by (with_reducible repeat (first | apply Kd.V_alloc | apply Kd.V_drewN | apply Kd.V_drew)); exact HO_11.out⟩, ⟨by (with_reducible repeat (first | apply Kd.N_alloc | apply Kd.N_drewN | apply Kd.N_drew)); exact HO_14.out⟩, ⟨by (with_reducible repeat (first | apply Kd.R_alloc | apply Kd.R_drewN | apply Kd.R_drew)); exact HO_15.out⟩, ⟨by (with_reducible repeat (first | apply Kd.N_alloc | apply Kd.N_drewN | apply Kd.N_drew)); exact HO_479000.out⟩, ⟨by (with_reducible repeat (first | apply Kd.N_alloc | apply Kd.N_drewN | apply Kd.N_drew)); exact HO_479001.out⟩, ⟨by (with_reducible repeat (first | refine blk_drewN ?_ _ | refine blk_drew ?_ | refine blk_alloc ?_ _)); exact BK471.out⟩, ⟨by (with_reducible repeat (first | refine blk_drewN ?_ _ | refine blk_drew ?_ | refine blk_alloc ?_ _)); exact BK478.out⟩, ⟨by repeat (first | (with_reducible first | exact HB.out | apply below_alloc | apply pw_below_drewN | apply below_drew1 | refine below_set ?_ GE471.out | refine below_set ?_ GE478.out) | exact HB.out)⟩⟩
                        ·
                         rw [if_neg c84] at H
                         have c84b0 : decide ((t472.length : Int) ≤ x20_3) = false := decide_eq_false c84
                         clear c84
                         have H' := Aside0.mk H
                         clear H
                         have hnb87 := NB478_471.out
                         have hnc87 := NB471_478.out
                         have hcz88_0 : wc.cell? ⟨gb478, 0, none⟩ = some (.slice Ao13 t472.length co13) := (blk_cell BK478.out 0).trans rfl
                         have hcz88_1 : wc.cell? ⟨gb478, 1, none⟩ = some (.slice Ao16 t475.length co16) := (blk_cell BK478.out 1).trans rfl
                         have hfz88_0 := blk_frozen BK478.out 0
                         have hfz88_1 := blk_frozen BK478.out 1
                         go_wp2
                         go_roundg kj68
                         case measure => have := HJ7.out; have := HJ29.out; have := HK3.out; have := HJ56.out; have := HJ68.out; omega
                         case rel => exact ⟨(x18_3), (false), (wrap64 (x20_3 + 1)), (by first | rfl | (simp; done) | (simp [*]; done)), (by first | rfl | (simp; done) | (simp [*]; done)), (by first | rfl | (simp; done) | (simp [*]; done)), (by first | exact H' | (rw [hji41]; exact H')), ⟨by have := HJ7.out; have := HJ29.out; have := HK3.out; have := HJ56.out; have := HJ68.out; omega⟩, ⟨by (with_reducible repeat (first | apply Kd.V_alloc | apply Kd.V_drewN | apply Kd.V_drew)); exact HO_8.out⟩, ⟨by (with_reducible repeat (first | apply Kd.V_alloc | apply Kd.V_drewN | apply Kd.V_drew)); exact HO_11.out⟩, ⟨by (with_reducible repeat (first | apply Kd.N_alloc | apply Kd.N_drewN | apply Kd.N_drew)); exact HO_14.out⟩, ⟨by (with_reducible repeat (first | apply Kd.R_alloc | apply Kd.R_drewN | apply Kd.R_drew)); exact HO_15.out⟩, ⟨by (with_reducible repeat (first | apply Kd.N_alloc | apply Kd.N_drewN | apply Kd.N_drew)); exact HO_479000.out⟩, ⟨by (with_reducible repeat (first | apply Kd.N_alloc | apply Kd.N_drewN | apply Kd.N_drew)); exact HO_479001.out⟩, ⟨by (with_reducible repeat (first | refine blk_drewN ?_ _ | refine blk_drew ?_ | refine blk_alloc ?_ _)); exact BK471.out⟩, ⟨by (with_reducible repeat (first | refine blk_drewN ?_ _ | refine blk_drew ?_ | refine blk_alloc ?_ _)); exact BK478.out⟩, ⟨by repeat (first | (with_reducible first | exact HB.out | apply below_alloc | apply pw_below_drewN | apply below_drew1 | refine below_set ?_ GE471.out | refine below_set ?_ GE478.out) | exact HB.out)⟩⟩
                   ·
                    rw [if_neg c66] at H
                    exact absurd H (by simp)
                  ·
                   rw [if_neg c65] at H
                   exact absurd H (by simp)
                 ·
                  rw [if_neg c64] at H
                  exact absurd H (by simp)
                ·
                 rw [if_neg c63] at H
                 exact absurd H (by simp)
               ·
                rw [if_neg c62] at H
                exact absurd H (by simp)
              ·
               rw [if_neg c61] at H
               exact absurd H (by simp)
           ·
            rw [if_neg c56] at H
            have c56b0 : decide (x20_3 < (wrap64 ((t472.length : Int) + (t475.length : Int)))) = false := decide_eq_false c56
            clear c56
            by_cases c89 : x19_3 = true
            ·
             subst c89
             have H1 : (some ((x18_3 == (wrap64 ((shl .i64 1 (t486.length : Int)) - 1))) == (!x16_29))) = some r := by rw [if_pos rfl] at H; exact H
             clear H
             have H := H1
             clear H1
             obtain ⟨ji90, hji90⟩ : ∃ j_ : Int, (shl .i64 1 (t486.length : Int)) = j_ := ⟨_, rfl⟩
             replace H : (some ((x18_3 == (wrap64 ((ji90) - 1))) == (!x16_29))) = some r := by first | (rw [hji90] at H; exact H) | (simp only [hji90] at H ⊢; exact H)
             have hji90_ : (IntKind.i64.wrap (1 * 2 ^ min (t486.length : Int).toNat 64)) = ji90 := hji90
             have hji90z : (t486.length : Int) ≤ 64 → (IntKind.i64.wrap (1 * 2 ^ (t486.length : Int).toNat)) = ji90 := shl_small hji90
             have hji90p : (IntKind.i64.wrap (1 * 2 ^ min t486.length 64)) = ji90 := hji90_
             have hji90q : (t486.length : Int) ≤ 64 → (IntKind.i64.wrap (1 * 2 ^ t486.length)) = ji90 := hji90z
             have hji90r : (IntKind.i64.wrap (2 ^ min t486.length 64)) = ji90 := by have h_ := hji90p; rw [Int.one_mul] at h_; exact h_
             have hji90s : (t486.length : Int) ≤ 64 → (IntKind.i64.wrap (2 ^ t486.length)) = ji90 := fun hle_ => by have h_ := hji90q hle_; rw [Int.one_mul] at h_; exact h_
             have hji90u : (IntKind.i64.wrap (2 ^ min (t486.length : Int).toNat 64)) = ji90 := by have h_ := hji90_; rw [Int.one_mul] at h_; exact h_
             have hji90v : (t486.length : Int) ≤ 64 → (IntKind.i64.wrap (2 ^ (t486.length : Int).toNat)) = ji90 := fun hle_ => by have h_ := hji90z hle_; rw [Int.one_mul] at h_; exact h_
             have hji90y : (wrap64 (1 * 2 ^ min (t486.length : Int).toNat 64)) = ji90 := (i64_w _).symm.trans hji90_
             have hji90x : (t486.length : Int) ≤ 64 → (wrap64 (1 * 2 ^ (t486.length : Int).toNat)) = ji90 := fun h_ => (i64_w _).symm.trans (hji90z h_)
             obtain rfl := Option.some.inj H
             go_wp2
             go_ret
             exact ⟨by first | rfl | (simp [errW_none, errW_some] <;> rfl) | (simp only [← hji90]; first | rfl | (simp [errW_none, errW_some] <;> rfl)) | (simp [*, errW_none, errW_some] <;> rfl), by repeat (first | (with_reducible first | exact HB.out | apply below_alloc | apply pw_below_drewN | apply below_drew1 | refine below_set ?_ GE471.out | refine below_set ?_ GE478.out) | exact HB.out)⟩
            ·
             replace c89 := Bool.eq_false_iff.mpr c89
             subst c89
             have H1 : (some (false == (!x16_29))) = some r := by rw [if_neg (show ¬ (false = true) by decide)] at H; exact H
             clear H
             have H := H1
             clear H1
             obtain rfl := Option.some.inj H
             go_wp2
             go_ret
             exact ⟨by first | rfl | (simp [errW_none, errW_some] <;> rfl) | (simp [*, errW_none, errW_some] <;> rfl), by repeat (first | (with_reducible first | exact HB.out | apply below_alloc | apply pw_below_drewN | apply below_drew1 | refine below_set ?_ GE471.out | refine below_set ?_ GE478.out) | exact HB.out)⟩
      ·
       rw [if_neg c29] at H
       exact absurd H (by simp)
     ·
      rw [if_neg c28] at H
      exact absurd H (by simp)
    ·
     rw [if_neg c27] at H
     exact absurd H (by simp)

end Go.Proofs.YtcoaeefmmnohkaaDoor.P
