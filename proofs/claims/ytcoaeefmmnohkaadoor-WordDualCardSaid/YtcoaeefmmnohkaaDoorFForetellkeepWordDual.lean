-- a walk, laid out by a program of this repo over the seat's translation
import Derived.Test.YtcoaeefmmnohkaaDoorF0
import Derived.Test.YtcoaeefmmnohkaaDoorFForm
import Derived.Test.YtcoaeefmmnohkaaDoorFSpell
import Derived.Test.YtcoaeefmmnohkaaDoorFOpen
namespace Go.Proofs.YtcoaeefmmnohkaaDoor.P
open Go.RowKit Go.Proofs.YtcoaeefmmnohkaaDoorW.PrintWords Go.Proofs.YtcoaeefmmnohkaaDoorW.PrintLast Go.Proofs.YtcoaeefmmnohkaaDoorW.PrintMore Go.Proofs.YtcoaeefmmnohkaaDoor.G
attribute [local go_sem] max2_int min2_int max_two min_two max_three min_three max_four min_four   -- for this text's walks alone
set_option linter.unusedVariables false
set_option linter.unusedSimpArgs false

/-! ### foretellkeep_WordDual: function 8 -/
mutual
def foretellkeep_WordDual.j0 : Nat → List (S51) → List (S51) → Bool → Bool → List (List Bool) → List (List Bool) → Option (Bool)
 | 0, _, _, _, _, _, _ => none
 | k + 1, x8, x9, x10, x11, x372000, x372001 => (foretellkeep_joined.f k 10 (([x8] : List (List (S51))))).bind fun t389 => ((foretellkeep_joined.f k 17 (([t389] : List (List (S51))))).bind fun t395 => ((foretellkeep_joined.f k 10 (([t395] : List (List (S51))))).bind fun t401 => ((foretellkeep_holds.f k t401 x372000 x372001).bind fun bt404 => (foretellkeep_WordDual.j1 k x8 x9 x10 x11 bt404.1 bt404.2 x372000 x372001))))
def foretellkeep_WordDual.j1 : Nat → List (S51) → List (S51) → Bool → Bool → Bool → Bool → List (List Bool) → List (List Bool) → Option (Bool)
 | 0, _, _, _, _, _, _, _, _ => none
 | k + 1, x8, x9, x10, x11, x12, x13, x372000, x372001 => (foretellkeep_joined.f k 16 (([x8, x9] : List (List (S51))))).bind fun t409 => ((foretellkeep_holds.f k t409 x372000 x372001).bind fun bt412 => (foretellkeep_WordDual.j2 k x8 x9 x10 x11 x12 x13 bt412.1 bt412.2 x372000 x372001))
def foretellkeep_WordDual.j2 : Nat → List (S51) → List (S51) → Bool → Bool → Bool → Bool → Bool → Bool → List (List Bool) → List (List Bool) → Option (Bool)
 | 0, _, _, _, _, _, _, _, _, _, _ => none
 | k + 1, x8, x9, x10, x11, x12, x13, x14, x15, x372000, x372001 => (foretellkeep_joined.f k 10 (([x8] : List (List (S51))))).bind fun t417 => ((foretellkeep_joined.f k 10 (([x9] : List (List (S51))))).bind fun t423 => ((foretellkeep_joined.f k 15 (([t417, t423] : List (List (S51))))).bind fun t429 => ((foretellkeep_joined.f k 10 (([t429] : List (List (S51))))).bind fun t435 => ((foretellkeep_holds.f k t435 x372000 x372001).bind fun bt438 => (foretellkeep_WordDual.j3 k x8 x10 x11 x12 x13 x14 x15 bt438.1 bt438.2 x372000 x372001)))))
def foretellkeep_WordDual.j3 : Nat → List (S51) → Bool → Bool → Bool → Bool → Bool → Bool → Bool → Bool → List (List Bool) → List (List Bool) → Option (Bool)
 | 0, _, _, _, _, _, _, _, _, _, _, _ => none
 | k + 1, x8, x10, x11, x12, x13, x14, x15, x16, x17, x372000, x372001 => (foretellkeep_joined.f k 10 (([x8] : List (List (S51))))).bind fun t443 => ((foretellkeep_joined.f k 9 (([x8, t443] : List (List (S51))))).bind fun t449 => ((foretellkeep_holds.f k t449 x372000 x372001).bind fun bt452 => (foretellkeep_WordDual.j4 k x10 x11 x12 x13 x14 x15 x16 x17 bt452.1 bt452.2)))
def foretellkeep_WordDual.j4 : Nat → Bool → Bool → Bool → Bool → Bool → Bool → Bool → Bool → Bool → Bool → Option (Bool)
 | 0, _, _, _, _, _, _, _, _, _, _ => none
 | k + 1, x10, x11, x12, x13, x14, x15, x16, x17, x18, x19 => if x11 = true then (if x13 = true then (if x15 = true then (if x17 = true then (if x19 = true then (if (x10 == x12) = true then (if (x14 == x16) = true then (some x18) else (some false)) else (some false)) else (some false)) else (some false)) else (some false)) else (some false)) else (some false)
end
def foretellkeep_WordDual.f (k : Nat) (l0 : List (S79)) (l1 : List (S79)) (l2_0 : List Int) (l2_1 : List Int) : Option (Bool) := (foretellkeep_Word.f k l2_0 l2_1).bind fun bt365 => ((foretellkeep_Formula.f k l0 3 2).bind fun t372 => ((foretellkeep_Formula.f k l1 3 2).bind fun t375 => ((foretellkeep_joined.f k 18 (([t372] : List (List (S51))))).bind fun t381 => ((foretellkeep_holds.f k t381 bt365.1 bt365.2).bind fun bt384 => (foretellkeep_WordDual.j0 k t372 t375 bt384.1 bt384.2 bt365.1 bt365.2)))))
theorem foretellkeep_WordDual.mono_l : ∀ k, (∀ y0 y1 y2 y3 y4 y5, LeO (foretellkeep_WordDual.j0 k y0 y1 y2 y3 y4 y5) (foretellkeep_WordDual.j0 (k + 1) y0 y1 y2 y3 y4 y5)) ∧ (∀ y0 y1 y2 y3 y4 y5 y6 y7, LeO (foretellkeep_WordDual.j1 k y0 y1 y2 y3 y4 y5 y6 y7) (foretellkeep_WordDual.j1 (k + 1) y0 y1 y2 y3 y4 y5 y6 y7)) ∧ (∀ y0 y1 y2 y3 y4 y5 y6 y7 y8 y9, LeO (foretellkeep_WordDual.j2 k y0 y1 y2 y3 y4 y5 y6 y7 y8 y9) (foretellkeep_WordDual.j2 (k + 1) y0 y1 y2 y3 y4 y5 y6 y7 y8 y9)) ∧ (∀ y0 y1 y2 y3 y4 y5 y6 y7 y8 y9 y10, LeO (foretellkeep_WordDual.j3 k y0 y1 y2 y3 y4 y5 y6 y7 y8 y9 y10) (foretellkeep_WordDual.j3 (k + 1) y0 y1 y2 y3 y4 y5 y6 y7 y8 y9 y10)) ∧ (∀ y0 y1 y2 y3 y4 y5 y6 y7 y8 y9, LeO (foretellkeep_WordDual.j4 k y0 y1 y2 y3 y4 y5 y6 y7 y8 y9) (foretellkeep_WordDual.j4 (k + 1) y0 y1 y2 y3 y4 y5 y6 y7 y8 y9))
 | 0 => ⟨fun _ _ _ _ _ _ r h => by simp [foretellkeep_WordDual.j0] at h, fun _ _ _ _ _ _ _ _ r h => by simp [foretellkeep_WordDual.j1] at h, fun _ _ _ _ _ _ _ _ _ _ r h => by simp [foretellkeep_WordDual.j2] at h, fun _ _ _ _ _ _ _ _ _ _ _ r h => by simp [foretellkeep_WordDual.j3] at h, fun _ _ _ _ _ _ _ _ _ _ r h => by simp [foretellkeep_WordDual.j4] at h⟩
 | k + 1 => by
  obtain ⟨ih0, ih1, ih2, ih3, ih4⟩ := foretellkeep_WordDual.mono_l k
  refine ⟨?_, ?_, ?_, ?_, ?_⟩
  ·
   intro y0 y1 y2 y3 y4 y5
   unfold foretellkeep_WordDual.j0
   repeat' first
   | (with_reducible exact ih0 _ _ _ _ _ _)
   | (with_reducible exact ih1 _ _ _ _ _ _ _ _)
   | (with_reducible exact ih2 _ _ _ _ _ _ _ _ _ _)
   | (with_reducible exact ih3 _ _ _ _ _ _ _ _ _ _ _)
   | (with_reducible exact ih4 _ _ _ _ _ _ _ _ _ _)
   | (with_reducible exact foretellkeep_Formula.mono _ _ _ _)
   | (with_reducible exact foretellkeep_Word.mono _ _ _)
   | (with_reducible exact foretellkeep_holds.mono _ _ _ _)
   | (with_reducible exact foretellkeep_joined.mono _ _ _)
   | (with_reducible exact LeO.refl _)
   | (with_reducible exact LeO.none _)
   | (with_reducible refine LeO.ite ?_ ?_)
   | (with_reducible refine LeO.bind ?_ (fun _ => ?_))
   | exact ih0 _ _ _ _ _ _
   | exact ih1 _ _ _ _ _ _ _ _
   | exact ih2 _ _ _ _ _ _ _ _ _ _
   | exact ih3 _ _ _ _ _ _ _ _ _ _ _
   | exact ih4 _ _ _ _ _ _ _ _ _ _
   | exact foretellkeep_Formula.mono _ _ _ _
   | exact foretellkeep_Word.mono _ _ _
   | exact foretellkeep_holds.mono _ _ _ _
   | exact foretellkeep_joined.mono _ _ _
   | exact LeO.none _
   | refine LeO.ite ?_ ?_
   | refine LeO.bind ?_ (fun _ => ?_)
  ·
   intro y0 y1 y2 y3 y4 y5 y6 y7
   unfold foretellkeep_WordDual.j1
   repeat' first
   | (with_reducible exact ih0 _ _ _ _ _ _)
   | (with_reducible exact ih1 _ _ _ _ _ _ _ _)
   | (with_reducible exact ih2 _ _ _ _ _ _ _ _ _ _)
   | (with_reducible exact ih3 _ _ _ _ _ _ _ _ _ _ _)
   | (with_reducible exact ih4 _ _ _ _ _ _ _ _ _ _)
   | (with_reducible exact foretellkeep_Formula.mono _ _ _ _)
   | (with_reducible exact foretellkeep_Word.mono _ _ _)
   | (with_reducible exact foretellkeep_holds.mono _ _ _ _)
   | (with_reducible exact foretellkeep_joined.mono _ _ _)
   | (with_reducible exact LeO.refl _)
   | (with_reducible exact LeO.none _)
   | (with_reducible refine LeO.ite ?_ ?_)
   | (with_reducible refine LeO.bind ?_ (fun _ => ?_))
   | exact ih0 _ _ _ _ _ _
   | exact ih1 _ _ _ _ _ _ _ _
   | exact ih2 _ _ _ _ _ _ _ _ _ _
   | exact ih3 _ _ _ _ _ _ _ _ _ _ _
   | exact ih4 _ _ _ _ _ _ _ _ _ _
   | exact foretellkeep_Formula.mono _ _ _ _
   | exact foretellkeep_Word.mono _ _ _
   | exact foretellkeep_holds.mono _ _ _ _
   | exact foretellkeep_joined.mono _ _ _
   | exact LeO.none _
   | refine LeO.ite ?_ ?_
   | refine LeO.bind ?_ (fun _ => ?_)
  ·
   intro y0 y1 y2 y3 y4 y5 y6 y7 y8 y9
   unfold foretellkeep_WordDual.j2
   repeat' first
   | (with_reducible exact ih0 _ _ _ _ _ _)
   | (with_reducible exact ih1 _ _ _ _ _ _ _ _)
   | (with_reducible exact ih2 _ _ _ _ _ _ _ _ _ _)
   | (with_reducible exact ih3 _ _ _ _ _ _ _ _ _ _ _)
   | (with_reducible exact ih4 _ _ _ _ _ _ _ _ _ _)
   | (with_reducible exact foretellkeep_Formula.mono _ _ _ _)
   | (with_reducible exact foretellkeep_Word.mono _ _ _)
   | (with_reducible exact foretellkeep_holds.mono _ _ _ _)
   | (with_reducible exact foretellkeep_joined.mono _ _ _)
   | (with_reducible exact LeO.refl _)
   | (with_reducible exact LeO.none _)
   | (with_reducible refine LeO.ite ?_ ?_)
   | (with_reducible refine LeO.bind ?_ (fun _ => ?_))
   | exact ih0 _ _ _ _ _ _
   | exact ih1 _ _ _ _ _ _ _ _
   | exact ih2 _ _ _ _ _ _ _ _ _ _
   | exact ih3 _ _ _ _ _ _ _ _ _ _ _
   | exact ih4 _ _ _ _ _ _ _ _ _ _
   | exact foretellkeep_Formula.mono _ _ _ _
   | exact foretellkeep_Word.mono _ _ _
   | exact foretellkeep_holds.mono _ _ _ _
   | exact foretellkeep_joined.mono _ _ _
   | exact LeO.none _
   | refine LeO.ite ?_ ?_
   | refine LeO.bind ?_ (fun _ => ?_)
  ·
   intro y0 y1 y2 y3 y4 y5 y6 y7 y8 y9 y10
   unfold foretellkeep_WordDual.j3
   repeat' first
   | (with_reducible exact ih0 _ _ _ _ _ _)
   | (with_reducible exact ih1 _ _ _ _ _ _ _ _)
   | (with_reducible exact ih2 _ _ _ _ _ _ _ _ _ _)
   | (with_reducible exact ih3 _ _ _ _ _ _ _ _ _ _ _)
   | (with_reducible exact ih4 _ _ _ _ _ _ _ _ _ _)
   | (with_reducible exact foretellkeep_Formula.mono _ _ _ _)
   | (with_reducible exact foretellkeep_Word.mono _ _ _)
   | (with_reducible exact foretellkeep_holds.mono _ _ _ _)
   | (with_reducible exact foretellkeep_joined.mono _ _ _)
   | (with_reducible exact LeO.refl _)
   | (with_reducible exact LeO.none _)
   | (with_reducible refine LeO.ite ?_ ?_)
   | (with_reducible refine LeO.bind ?_ (fun _ => ?_))
   | exact ih0 _ _ _ _ _ _
   | exact ih1 _ _ _ _ _ _ _ _
   | exact ih2 _ _ _ _ _ _ _ _ _ _
   | exact ih3 _ _ _ _ _ _ _ _ _ _ _
   | exact ih4 _ _ _ _ _ _ _ _ _ _
   | exact foretellkeep_Formula.mono _ _ _ _
   | exact foretellkeep_Word.mono _ _ _
   | exact foretellkeep_holds.mono _ _ _ _
   | exact foretellkeep_joined.mono _ _ _
   | exact LeO.none _
   | refine LeO.ite ?_ ?_
   | refine LeO.bind ?_ (fun _ => ?_)
  ·
   intro y0 y1 y2 y3 y4 y5 y6 y7 y8 y9
   unfold foretellkeep_WordDual.j4
   repeat' first
   | (with_reducible exact ih0 _ _ _ _ _ _)
   | (with_reducible exact ih1 _ _ _ _ _ _ _ _)
   | (with_reducible exact ih2 _ _ _ _ _ _ _ _ _ _)
   | (with_reducible exact ih3 _ _ _ _ _ _ _ _ _ _ _)
   | (with_reducible exact ih4 _ _ _ _ _ _ _ _ _ _)
   | (with_reducible exact foretellkeep_Formula.mono _ _ _ _)
   | (with_reducible exact foretellkeep_Word.mono _ _ _)
   | (with_reducible exact foretellkeep_holds.mono _ _ _ _)
   | (with_reducible exact foretellkeep_joined.mono _ _ _)
   | (with_reducible exact LeO.refl _)
   | (with_reducible exact LeO.none _)
   | (with_reducible refine LeO.ite ?_ ?_)
   | (with_reducible refine LeO.bind ?_ (fun _ => ?_))
   | exact ih0 _ _ _ _ _ _
   | exact ih1 _ _ _ _ _ _ _ _
   | exact ih2 _ _ _ _ _ _ _ _ _ _
   | exact ih3 _ _ _ _ _ _ _ _ _ _ _
   | exact ih4 _ _ _ _ _ _ _ _ _ _
   | exact foretellkeep_Formula.mono _ _ _ _
   | exact foretellkeep_Word.mono _ _ _
   | exact foretellkeep_holds.mono _ _ _ _
   | exact foretellkeep_joined.mono _ _ _
   | exact LeO.none _
   | refine LeO.ite ?_ ?_
   | refine LeO.bind ?_ (fun _ => ?_)
theorem foretellkeep_WordDual.mono : ∀ a0 a1 a2 a3 k, LeO (foretellkeep_WordDual.f k a0 a1 a2 a3) (foretellkeep_WordDual.f (k + 1) a0 a1 a2 a3) := by
 intro a0 a1 a2 a3 k
 obtain ⟨ih0, ih1, ih2, ih3, ih4⟩ := foretellkeep_WordDual.mono_l k
 unfold foretellkeep_WordDual.f
 repeat' first
   | (with_reducible exact ih0 _ _ _ _ _ _)
   | (with_reducible exact ih1 _ _ _ _ _ _ _ _)
   | (with_reducible exact ih2 _ _ _ _ _ _ _ _ _ _)
   | (with_reducible exact ih3 _ _ _ _ _ _ _ _ _ _ _)
   | (with_reducible exact ih4 _ _ _ _ _ _ _ _ _ _)
   | (with_reducible exact foretellkeep_Formula.mono _ _ _ _)
   | (with_reducible exact foretellkeep_Word.mono _ _ _)
   | (with_reducible exact foretellkeep_holds.mono _ _ _ _)
   | (with_reducible exact foretellkeep_joined.mono _ _ _)
   | (with_reducible exact LeO.refl _)
   | (with_reducible exact LeO.none _)
   | (with_reducible refine LeO.ite ?_ ?_)
   | (with_reducible refine LeO.bind ?_ (fun _ => ?_))
   | exact ih0 _ _ _ _ _ _
   | exact ih1 _ _ _ _ _ _ _ _
   | exact ih2 _ _ _ _ _ _ _ _ _ _
   | exact ih3 _ _ _ _ _ _ _ _ _ _ _
   | exact ih4 _ _ _ _ _ _ _ _ _ _
   | exact foretellkeep_Formula.mono _ _ _ _
   | exact foretellkeep_Word.mono _ _ _
   | exact foretellkeep_holds.mono _ _ _ _
   | exact foretellkeep_joined.mono _ _ _
   | exact LeO.none _
   | refine LeO.ite ?_ ?_
   | refine LeO.bind ?_ (fun _ => ?_)
def foretellkeep_WordDual.T4 : Bool × List (List Nat × List Nat) := (true, [([], []), ([0], [0]), ([1], [1]), ([], []), ([2, 3, 2], [2, 3]), ([4], [4]), ([5], [5]), ([5], [5]), ([6, 4, 0, 1, 2, 3, 4, 5, 6], [6]), ([7, 8, 0, 1, 2, 3, 4, 5, 6, 7, 8], [7])])
def foretellkeep_WordDual.B4 : List Nat := [0, 1, 3, 0, 15, 31, 63, 63, 127, 511]
theorem foretellkeep_WordDual.tab4 : rtab .any (opsOf Tryd.f8 4) = foretellkeep_WordDual.T4 := by kernel_rfl
theorem foretellkeep_WordDual.bits4 : waitsOk foretellkeep_WordDual.T4.2 foretellkeep_WordDual.B4 = true := by kernel_rfl
def foretellkeep_WordDual.T5 : Bool × List (List Nat × List Nat) := (true, [([], []), ([0], [0]), ([1], [1]), ([2], [2]), ([3, 2], [3]), ([4], [4]), ([5, 4], [5]), ([], []), ([6, 7, 6], [6, 7]), ([8], [8]), ([9], [9]), ([9], [9]), ([10, 8, 0, 1, 2, 3, 4, 5, 6, 7, 8, 9, 10], [10]), ([11, 12, 0, 1, 2, 3, 4, 5, 6, 7, 8, 9, 10, 11, 12], [11])])
def foretellkeep_WordDual.B5 : List Nat := [0, 1, 3, 7, 15, 31, 63, 0, 255, 511, 1023, 1023, 2047, 8191]
theorem foretellkeep_WordDual.tab5 : rtab .any (opsOf Tryd.f8 5) = foretellkeep_WordDual.T5 := by kernel_rfl
theorem foretellkeep_WordDual.bits5 : waitsOk foretellkeep_WordDual.T5.2 foretellkeep_WordDual.B5 = true := by kernel_rfl
def foretellkeep_WordDual.T6 : Bool × List (List Nat × List Nat) := (true, [([], []), ([], []), ([0, 1], [0, 1]), ([2], [2]), ([], []), ([3, 4, 3], [3, 4]), ([5], [5]), ([6], [6]), ([6], [6]), ([7, 5, 0, 1, 2, 3, 4, 5, 6, 7], [7]), ([8, 9, 0, 1, 2, 3, 4, 5, 6, 7, 8, 9], [8])])
def foretellkeep_WordDual.B6 : List Nat := [0, 0, 3, 7, 0, 31, 63, 127, 127, 255, 1023]
theorem foretellkeep_WordDual.tab6 : rtab .any (opsOf Tryd.f8 6) = foretellkeep_WordDual.T6 := by kernel_rfl
theorem foretellkeep_WordDual.bits6 : waitsOk foretellkeep_WordDual.T6.2 foretellkeep_WordDual.B6 = true := by kernel_rfl
def foretellkeep_WordDual.T7 : Bool × List (List Nat × List Nat) := (true, [([], []), ([0], [0]), ([1], [1]), ([], []), ([3], [3]), ([4, 2], [4]), ([2, 5], [2, 5]), ([6, 5], [6]), ([7], [7]), ([8, 7], [8]), ([], []), ([9, 10, 9], [9, 10]), ([11], [11]), ([12], [12]), ([12], [12]), ([13, 11, 0, 1, 2, 3, 4, 5, 6, 7, 8, 9, 10, 11, 12, 13], [13]), ([14, 15, 0, 1, 2, 3, 4, 5, 6, 7, 8, 9, 10, 11, 12, 13, 14, 15], [14])])
def foretellkeep_WordDual.B7 : List Nat := [0, 1, 3, 0, 8, 31, 63, 127, 255, 511, 0, 2047, 4095, 8191, 8191, 16383, 65535]
theorem foretellkeep_WordDual.tab7 : rtab .any (opsOf Tryd.f8 7) = foretellkeep_WordDual.T7 := by kernel_rfl
theorem foretellkeep_WordDual.bits7 : waitsOk foretellkeep_WordDual.T7.2 foretellkeep_WordDual.B7 = true := by kernel_rfl
def foretellkeep_WordDual.T8 : Bool × List (List Nat × List Nat) := (true, [([], []), ([], []), ([1], [1]), ([2], [2]), ([0, 3], [0, 3]), ([4, 3], [4]), ([], []), ([5, 6, 5], [5, 6]), ([7], [7]), ([8], [8]), ([8], [8]), ([9, 7, 0, 1, 2, 3, 4, 5, 6, 7, 8, 9], [9]), ([10, 11, 0, 1, 2, 3, 4, 5, 6, 7, 8, 9, 10, 11], [10])])
def foretellkeep_WordDual.B8 : List Nat := [0, 0, 2, 6, 15, 31, 0, 127, 255, 511, 511, 1023, 4095]
theorem foretellkeep_WordDual.tab8 : rtab .any (opsOf Tryd.f8 8) = foretellkeep_WordDual.T8 := by kernel_rfl
theorem foretellkeep_WordDual.bits8 : waitsOk foretellkeep_WordDual.T8.2 foretellkeep_WordDual.B8 = true := by kernel_rfl
set_option maxHeartbeats 8000000 in
set_option maxRecDepth 100000 in
theorem foretellkeep_WordDual.calls (k : Nat) (A0 : Option Addr) (c0 : Nat) (l0 : List (S79)) (A1 : Option Addr) (c1 : Nat) (l1 : List (S79)) (A2_0 : Option Addr) (c2_0 : Nat) (l2_0 : List Int) (A2_1 : Option Addr) (c2_1 : Nat) (l2_1 : List Int) (r : Bool) (w : World) (hr0 : Kd.C k79 w A0 l0.length l0) (hc0 : l0.length ≤ c0) (hr1 : Kd.C k79 w A1 l1.length l1) (hc1 : l1.length ≤ c1) (hr2_0 : Kd.C (Kd.int .i64) w A2_0 l2_0.length l2_0) (hc2_0 : l2_0.length ≤ c2_0) (hr2_1 : Kd.C (Kd.int .i64) w A2_1 l2_1.length l2_1) (hc2_1 : l2_1.length ≤ c2_1) (hG_ : Glob w) (hr_ : Aside0 (r = true)) (h : foretellkeep_WordDual.f k l0 l1 l2_0 l2_1 = some r) :
  Calls Tryd.prog 8 #[.slice A0 l0.length c0, .slice A1 l1.length c1, .agg #[.slice A2_0 l2_0.length c2_0, .slice A2_1 l2_1.length c2_1]] w fun e w' => e = .returned (.bool r) ∧ Below w.heap.size w w' := by
 have hu40 := Tryd.underlying40
 have hu43 := Tryd.underlying43
 have HR0 := Aside0.mk hr0
 have HC0 := Aside0.mk hc0
 clear hr0 hc0
 have HR1 := Aside0.mk hr1
 have HC1 := Aside0.mk hc1
 clear hr1 hc1
 have HR2_0 := Aside0.mk hr2_0
 have HC2_0 := Aside0.mk hc2_0
 clear hr2_0 hc2_0
 have HR2_1 := Aside0.mk hr2_1
 have HC2_1 := Aside0.mk hc2_1
 clear hr2_1 hc2_1
 have HB := Aside0.mk (Below.refl w.heap.size w)
 have H : ((foretellkeep_Word.f k l2_0 l2_1).bind fun bt365 => ((foretellkeep_Formula.f k l0 3 2).bind fun t372 => ((foretellkeep_Formula.f k l1 3 2).bind fun t375 => ((foretellkeep_joined.f k 18 (([t372] : List (List (S51))))).bind fun t381 => ((foretellkeep_holds.f k t381 bt365.1 bt365.2).bind fun bt384 => (foretellkeep_WordDual.j0 k t372 t375 bt384.1 bt384.2 bt365.1 bt365.2)))))) = some r := h
 clear h
 replace H := Option.bind_eq_some_iff.mp H
 obtain ⟨⟨t365, t368⟩, A40, H⟩ := H
 replace H : ((foretellkeep_Formula.f k l0 3 2).bind fun t372 => ((foretellkeep_Formula.f k l1 3 2).bind fun t375 => ((foretellkeep_joined.f k 18 (([t372] : List (List (S51))))).bind fun t381 => ((foretellkeep_holds.f k t381 t365 t368).bind fun bt384 => (foretellkeep_WordDual.j0 k t372 t375 bt384.1 bt384.2 t365 t368))))) = some r := H
 have A4 := Aside0.mk A40
 clear A40
 replace H := Option.bind_eq_some_iff.mp H
 obtain ⟨t372, A50, H⟩ := H
 replace H : ((foretellkeep_Formula.f k l1 3 2).bind fun t375 => ((foretellkeep_joined.f k 18 (([t372] : List (List (S51))))).bind fun t381 => ((foretellkeep_holds.f k t381 t365 t368).bind fun bt384 => (foretellkeep_WordDual.j0 k t372 t375 bt384.1 bt384.2 t365 t368)))) = some r := H
 have A5 := Aside0.mk A50
 clear A50
 replace H := Option.bind_eq_some_iff.mp H
 obtain ⟨t375, A60, H⟩ := H
 replace H : ((foretellkeep_joined.f k 18 (([t372] : List (List (S51))))).bind fun t381 => ((foretellkeep_holds.f k t381 t365 t368).bind fun bt384 => (foretellkeep_WordDual.j0 k t372 t375 bt384.1 bt384.2 t365 t368))) = some r := H
 have A6 := Aside0.mk A60
 clear A60
 have HC7 := Aside0.mk H
 clear H
 go_enter Tryd.func8, Tryd.ntmps8
 go_upto_region 4 with (first | ((with_reducible refine gate_dst (N := 5) rfl ?_); refine box_event ?hg (N := 5) ?hd (cs := #[.slice A2_0 l2_0.length c2_0, .slice A2_1 l2_1.length c2_1]) (t := 40) ?hr ?_; (case hd => rfl); (case hg => rfl); (case hr => first | (go_simp; done) | (go_simp; rfl)); intro gb364 hg w8 hbox hb; have n0_ := Aside0.mk (below_step (by repeat (first | (with_reducible first | exact HB.out | apply below_alloc | apply pw_below_drewN | apply below_drew1) | exact HB.out)) hb); have n1_ := Aside0.mk (hbox); have n2_ := Aside0.mk ((by rw [hg]; exact (below_size (by repeat (first | (with_reducible first | exact HB.out | apply below_alloc | apply pw_below_drewN | apply below_drew1) | exact HB.out))) : w.heap.size ≤ gb364)); have n3_ := Aside0.mk ((by rw [hg]; exact (below_size (by repeat (first | (with_reducible first | exact HB.out | apply below_alloc | apply pw_below_drewN | apply below_drew1) | exact HB.out))) : w.heap.size ≤ gb364)); clear HB; have HB := n0_; have BK364 := n1_; have GW364 := n2_; have GE364 := n3_; clear n0_ n1_ n2_ n3_; clear hb hbox hg; have hcz9_0 : w8.cell? ⟨gb364, 0, none⟩ = some (.slice A2_0 l2_0.length c2_0) := (blk_cell BK364.out 0).trans rfl; have hcz9_1 : w8.cell? ⟨gb364, 1, none⟩ = some (.slice A2_1 l2_1.length c2_1) := (blk_cell BK364.out 1).trans rfl; have hfz9_0 := blk_frozen BK364.out 0; have hfz9_1 := blk_frozen BK364.out 1) | ((with_reducible refine gate_callee (f := 23) rfl ?_); refine goesL_ (some 21) rfl rfl Tryd.func23 (by kernel_rfl) rfl #[.agg #[.slice A2_0 l2_0.length c2_0, .slice A2_1 l2_1.length c2_1]] rfl (by (try simp only [List.map_toArray, List.map_cons, List.map_nil]); first | done | rfl | (simp only [List.length_drop, List.length_take]; rfl)) ?_; (with_reducible refine (foretellkeep_Word.calls k _ _ l2_0 _ _ l2_1 t365 t368 _ ?side1 ?side2 ?side3 ?side4 A4.out).mono ?_); (case side1 => repeat (first | exact (Kd.C_below HR2_0.out HB.out) | (with_reducible refine Kd.C_alloc ?_ _) | (with_reducible refine Kd.C_drewN ?_ _) | (with_reducible refine Kd.C_drew ?_))); (case side2 => exact HC2_0.out); (case side3 => repeat (first | exact (Kd.C_below HR2_1.out HB.out) | (with_reducible refine Kd.C_alloc ?_ _) | (with_reducible refine Kd.C_drewN ?_ _) | (with_reducible refine Kd.C_drew ?_))); (case side4 => exact HC2_1.out); rintro e w10 ⟨v366, v369, rfl, ho0, ho1, hb⟩; refine ⟨_, rfl, ?_⟩; have n0_ := Aside0.mk (Kd.N_lower (Kd.N_mono (ok' := fun k_ => some k_ ≠ (v369 : Value).ownBlock ∧ k_ ≠ gb364) ho0 (fun k_ hk_ => ⟨hk_.2, (Kd.freshB (g := gb364) (o := .cells #[.slice A2_0 l2_0.length c2_0, .slice A2_1 l2_1.length c2_1] 40 (0, 0)) (by (with_reducible repeat (first | refine blk_drewN ?_ _ | refine blk_drew ?_ | refine blk_alloc ?_ _)); exact BK364.out) k_ hk_.1)⟩)) (below_size (by repeat (first | (with_reducible first | exact HB.out | apply below_alloc | apply pw_below_drewN | apply below_drew1 | refine below_set ?_ GE364.out) | exact HB.out)))); have n1_ := Aside0.mk (Kd.N_lower (Kd.N_mono (ok' := fun k_ => some k_ ≠ (v366 : Value).ownBlock ∧ k_ ≠ gb364) ho1 (fun k_ hk_ => ⟨hk_.2, (Kd.freshB (g := gb364) (o := .cells #[.slice A2_0 l2_0.length c2_0, .slice A2_1 l2_1.length c2_1] 40 (0, 0)) (by (with_reducible repeat (first | refine blk_drewN ?_ _ | refine blk_drew ?_ | refine blk_alloc ?_ _)); exact BK364.out) k_ hk_.1)⟩)) (below_size (by repeat (first | (with_reducible first | exact HB.out | apply below_alloc | apply pw_below_drewN | apply below_drew1 | refine below_set ?_ GE364.out) | exact HB.out)))); have n2_ := Aside0.mk (blk_below (g := gb364) (o := .cells #[.slice A2_0 l2_0.length c2_0, .slice A2_1 l2_1.length c2_1] 40 (0, 0)) (by (with_reducible repeat (first | refine blk_drewN ?_ _ | refine blk_drew ?_ | refine blk_alloc ?_ _)); exact BK364.out) hb); have n3_ := Aside0.mk (below_step (by repeat (first | (with_reducible first | exact HB.out | apply below_alloc | apply pw_below_drewN | apply below_drew1 | refine below_set ?_ GE364.out) | exact HB.out)) hb); clear BK364; clear HB; have HO367 := n0_; have HO370 := n1_; have BK364 := n2_; have HB := n3_; clear n0_ n1_ n2_ n3_; (try clear hb); (try clear hb2); (try clear hk); (try clear hi); (try clear ho0); (try clear ho1)) | ((with_reducible refine gate_dst (N := 7) rfl ?_); refine box_event ?hg (N := 7) ?hd (cs := #[.slice none 0 0, .slice none 0 0]) (t := 43) ?hr ?_; (case hd => rfl); (case hg => rfl); (case hr => first | (go_simp; done) | (go_simp; rfl)); intro gb371 hg w11 hbox hb; have n0_ := Aside0.mk (Kd.N_below (Kd.N_elderB (by (with_reducible repeat (first | apply Kd.N_alloc | apply Kd.N_drewN | apply Kd.N_drew)); exact HO367.out) gb371 (Nat.le_of_eq hg.symm)) hb); have n1_ := Aside0.mk (Kd.N_below (Kd.N_elderB (by (with_reducible repeat (first | apply Kd.N_alloc | apply Kd.N_drewN | apply Kd.N_drew)); exact HO370.out) gb371 (Nat.le_of_eq hg.symm)) hb); have n2_ := Aside0.mk (blk_below (g := gb364) (o := .cells #[.slice A2_0 l2_0.length c2_0, .slice A2_1 l2_1.length c2_1] 40 (0, 0)) (by (with_reducible repeat (first | refine blk_drewN ?_ _ | refine blk_drew ?_ | refine blk_alloc ?_ _)); exact BK364.out) hb); have n3_ := Aside0.mk (below_step (by repeat (first | (with_reducible first | exact HB.out | apply below_alloc | apply pw_below_drewN | apply below_drew1 | refine below_set ?_ GE364.out) | exact HB.out)) hb); have n4_ := Aside0.mk (hbox); have n5_ := Aside0.mk ((by rw [hg]; exact (below_size (by repeat (first | (with_reducible first | exact HB.out | apply below_alloc | apply pw_below_drewN | apply below_drew1 | refine below_set ?_ GE364.out) | exact HB.out))) : w.heap.size ≤ gb371)); have n6_ := Aside0.mk ((by rw [hg]; exact (below_size (by repeat (first | (with_reducible first | exact HB.out | apply below_alloc | apply pw_below_drewN | apply below_drew1 | refine below_set ?_ GE364.out) | exact HB.out))) : w.heap.size ≤ gb371)); have n7_ := Aside0.mk ((by rw [hg]; exact Nat.ne_of_lt (blk_lt (g := gb364) (o := .cells #[.slice A2_0 l2_0.length c2_0, .slice A2_1 l2_1.length c2_1] 40 (0, 0)) (by (with_reducible repeat (first | refine blk_drewN ?_ _ | refine blk_drew ?_ | refine blk_alloc ?_ _)); exact BK364.out)) : gb364 ≠ gb371)); have n8_ := Aside0.mk ((by rw [hg]; exact Nat.ne_of_gt (blk_lt (g := gb364) (o := .cells #[.slice A2_0 l2_0.length c2_0, .slice A2_1 l2_1.length c2_1] 40 (0, 0)) (by (with_reducible repeat (first | refine blk_drewN ?_ _ | refine blk_drew ?_ | refine blk_alloc ?_ _)); exact BK364.out)) : gb371 ≠ gb364)); clear HO367; clear HO370; clear BK364; clear HB; have HO367 := n0_; have HO370 := n1_; have BK364 := n2_; have HB := n3_; have BK371 := n4_; have GW371 := n5_; have GE371 := n6_; have NB364_371 := n7_; have NB371_364 := n8_; clear n0_ n1_ n2_ n3_ n4_ n5_ n6_ n7_ n8_; clear hb hbox hg; obtain ⟨Ao12, co12, eo12⟩ := Kd.N_slice HO367.out; subst eo12; have hnb13 := NB371_364.out; have hnc13 := NB364_371.out; have hcz14_0 : w11.cell? ⟨gb371, 0, none⟩ = some (.slice none 0 0) := (blk_cell BK371.out 0).trans rfl; have hcz14_1 : w11.cell? ⟨gb371, 1, none⟩ = some (.slice none 0 0) := (blk_cell BK371.out 1).trans rfl; have hfz14_0 := blk_frozen BK371.out 0; have hfz14_1 := blk_frozen BK371.out 1; obtain ⟨Ao15, co15, eo15⟩ := Kd.N_slice HO370.out; subst eo15) | ((with_reducible refine gate_callee (f := 16) rfl ?_); refine goesL_ (some 23) rfl rfl Tryd.func16 (by kernel_rfl) rfl #[.slice A0 l0.length c0, .int .i64 3, .int .i64 2] rfl (by (try simp only [List.map_toArray, List.map_cons, List.map_nil]); first | done | rfl | (simp only [List.length_drop, List.length_take]; rfl)) ?_; (with_reducible refine (foretellkeep_Formula.calls k _ _ l0 3 2 t372 _ ?side1 ?side2 A5.out).mono ?_); (case side1 => exact Kd.C_below HR0.out (by repeat (first | (with_reducible first | exact HB.out | apply below_alloc | apply pw_below_drewN | apply below_drew1 | refine below_set ?_ GE364.out | refine below_set ?_ GE371.out) | exact HB.out))); (case side2 => exact HC0.out); rintro e w16 ⟨v373, rfl, ho0, hb⟩; refine ⟨_, rfl, ?_⟩; have n0_ := Aside0.mk (Kd.N_below (by (with_reducible repeat (first | apply Kd.N_alloc | apply Kd.N_drewN | apply Kd.N_drew)); exact (Kd.N_mono (Kd.N_far (p := ⟨gb371, 1, none⟩) (Kd.N_far (p := ⟨gb371, 0, none⟩) (Kd.N_mono HO367.out (fun k_ hk => (⟨hk, hk.2⟩ : _ ∧ k_ ≠ gb371))) (fun _ hk => by first | exact hk.2 | exact hk) (.slice Ao12 t365.length co12)) (fun _ hk => by first | exact hk.2 | exact hk) (.slice Ao15 t368.length co15)) (fun _ h_ => h_.1))) hb); have n1_ := Aside0.mk (Kd.N_below (by (with_reducible repeat (first | apply Kd.N_alloc | apply Kd.N_drewN | apply Kd.N_drew)); exact (Kd.N_mono (Kd.N_far (p := ⟨gb371, 1, none⟩) (Kd.N_far (p := ⟨gb371, 0, none⟩) (Kd.N_mono HO370.out (fun k_ hk => (⟨hk, hk.2⟩ : _ ∧ k_ ≠ gb371))) (fun _ hk => by first | exact hk.2 | exact hk) (.slice Ao12 t365.length co12)) (fun _ hk => by first | exact hk.2 | exact hk) (.slice Ao15 t368.length co15)) (fun _ h_ => h_.1))) hb); have n2_ := Aside0.mk (Kd.V_lower (Kd.V_mono (ok' := fun k_ => k_ ≠ gb364 ∧ k_ ≠ gb371) (Kd.R_V (Kd.R_bound ho0)) (fun k_ hk_ => ⟨(Kd.freshB (g := gb364) (o := .cells #[.slice A2_0 l2_0.length c2_0, .slice A2_1 l2_1.length c2_1] 40 (0, 0)) (by (with_reducible repeat (first | refine blk_drewN ?_ _ | refine blk_drew ?_ | refine blk_alloc ?_ _)); refine blk_far ?_ NB364_371.out _; (with_reducible repeat (first | refine blk_drewN ?_ _ | refine blk_drew ?_ | refine blk_alloc ?_ _)); refine blk_far ?_ NB364_371.out _; (with_reducible repeat (first | refine blk_drewN ?_ _ | refine blk_drew ?_ | refine blk_alloc ?_ _)); exact BK364.out) k_ hk_.2.1), (Kd.freshB (g := gb371) (o := .cells #[.slice Ao12 t365.length co12, .slice Ao15 t368.length co15] 43 (0, 0)) (by (with_reducible repeat (first | refine blk_drewN ?_ _ | refine blk_drew ?_ | refine blk_alloc ?_ _)); refine blk_put (cs := #[.slice Ao12 t365.length co12, .slice none 0 0]) ?_ 1 _ rfl; (with_reducible repeat (first | refine blk_drewN ?_ _ | refine blk_drew ?_ | refine blk_alloc ?_ _)); refine blk_put (cs := #[.slice none 0 0, .slice none 0 0]) ?_ 0 _ rfl; (with_reducible repeat (first | refine blk_drewN ?_ _ | refine blk_drew ?_ | refine blk_alloc ?_ _)); exact BK371.out) k_ hk_.2.1)⟩)) (below_size (by repeat (first | (with_reducible first | exact HB.out | apply below_alloc | apply pw_below_drewN | apply below_drew1 | refine below_set ?_ GE364.out | refine below_set ?_ GE371.out) | exact HB.out)))); have n3_ := Aside0.mk (blk_below (g := gb364) (o := .cells #[.slice A2_0 l2_0.length c2_0, .slice A2_1 l2_1.length c2_1] 40 (0, 0)) (by (with_reducible repeat (first | refine blk_drewN ?_ _ | refine blk_drew ?_ | refine blk_alloc ?_ _)); refine blk_far ?_ NB364_371.out _; (with_reducible repeat (first | refine blk_drewN ?_ _ | refine blk_drew ?_ | refine blk_alloc ?_ _)); refine blk_far ?_ NB364_371.out _; (with_reducible repeat (first | refine blk_drewN ?_ _ | refine blk_drew ?_ | refine blk_alloc ?_ _)); exact BK364.out) hb); have n4_ := Aside0.mk (blk_below (g := gb371) (o := .cells #[.slice Ao12 t365.length co12, .slice Ao15 t368.length co15] 43 (0, 0)) (by (with_reducible repeat (first | refine blk_drewN ?_ _ | refine blk_drew ?_ | refine blk_alloc ?_ _)); refine blk_put (cs := #[.slice Ao12 t365.length co12, .slice none 0 0]) ?_ 1 _ rfl; (with_reducible repeat (first | refine blk_drewN ?_ _ | refine blk_drew ?_ | refine blk_alloc ?_ _)); refine blk_put (cs := #[.slice none 0 0, .slice none 0 0]) ?_ 0 _ rfl; (with_reducible repeat (first | refine blk_drewN ?_ _ | refine blk_drew ?_ | refine blk_alloc ?_ _)); exact BK371.out) hb); have n5_ := Aside0.mk (below_step (by repeat (first | (with_reducible first | exact HB.out | apply below_alloc | apply pw_below_drewN | apply below_drew1 | refine below_set ?_ GE364.out | refine below_set ?_ GE371.out) | exact HB.out)) hb); clear HO367; clear HO370; clear BK364; clear BK371; clear HB; have HO367 := n0_; have HO370 := n1_; have HO374 := n2_; have BK364 := n3_; have BK371 := n4_; have HB := n5_; clear n0_ n1_ n2_ n3_ n4_ n5_; (try clear hb); (try clear hb2); (try clear hk); (try clear hi); (try clear ho0)) | ((with_reducible refine gate_callee (f := 16) rfl ?_); refine goesL_ (some 25) rfl rfl Tryd.func16 (by kernel_rfl) rfl #[.slice A1 l1.length c1, .int .i64 3, .int .i64 2] rfl (by (try simp only [List.map_toArray, List.map_cons, List.map_nil]); first | done | rfl | (simp only [List.length_drop, List.length_take]; rfl)) ?_; (with_reducible refine (foretellkeep_Formula.calls k _ _ l1 3 2 t375 _ ?side1 ?side2 A6.out).mono ?_); (case side1 => repeat (first | exact (Kd.C_below HR1.out HB.out) | (with_reducible refine Kd.C_alloc ?_ _) | (with_reducible refine Kd.C_drewN ?_ _) | (with_reducible refine Kd.C_drew ?_))); (case side2 => exact HC1.out); rintro e w17 ⟨v376, rfl, ho0, hb⟩; refine ⟨_, rfl, ?_⟩; have n0_ := Aside0.mk (Kd.N_below (by (with_reducible repeat (first | apply Kd.N_alloc | apply Kd.N_drewN | apply Kd.N_drew)); exact HO367.out) hb); have n1_ := Aside0.mk (Kd.N_below (by (with_reducible repeat (first | apply Kd.N_alloc | apply Kd.N_drewN | apply Kd.N_drew)); exact HO370.out) hb); have n2_ := Aside0.mk (Kd.V_below (by (with_reducible repeat (first | apply Kd.V_alloc | apply Kd.V_drewN | apply Kd.V_drew)); exact HO374.out) hb); have n3_ := Aside0.mk (Kd.V_lower (Kd.V_mono (ok' := fun k_ => k_ ≠ gb364 ∧ k_ ≠ gb371) (Kd.R_V (Kd.R_bound ho0)) (fun k_ hk_ => ⟨(Kd.freshB (g := gb364) (o := .cells #[.slice A2_0 l2_0.length c2_0, .slice A2_1 l2_1.length c2_1] 40 (0, 0)) (by (with_reducible repeat (first | refine blk_drewN ?_ _ | refine blk_drew ?_ | refine blk_alloc ?_ _)); exact BK364.out) k_ hk_.2.1), (Kd.freshB (g := gb371) (o := .cells #[.slice Ao12 t365.length co12, .slice Ao15 t368.length co15] 43 (0, 0)) (by (with_reducible repeat (first | refine blk_drewN ?_ _ | refine blk_drew ?_ | refine blk_alloc ?_ _)); exact BK371.out) k_ hk_.2.1)⟩)) (below_size (by repeat (first | (with_reducible first | exact HB.out | apply below_alloc | apply pw_below_drewN | apply below_drew1 | refine below_set ?_ GE364.out | refine below_set ?_ GE371.out) | exact HB.out)))); have n4_ := Aside0.mk (blk_below (g := gb364) (o := .cells #[.slice A2_0 l2_0.length c2_0, .slice A2_1 l2_1.length c2_1] 40 (0, 0)) (by (with_reducible repeat (first | refine blk_drewN ?_ _ | refine blk_drew ?_ | refine blk_alloc ?_ _)); exact BK364.out) hb); have n5_ := Aside0.mk (blk_below (g := gb371) (o := .cells #[.slice Ao12 t365.length co12, .slice Ao15 t368.length co15] 43 (0, 0)) (by (with_reducible repeat (first | refine blk_drewN ?_ _ | refine blk_drew ?_ | refine blk_alloc ?_ _)); exact BK371.out) hb); have n6_ := Aside0.mk (below_step (by repeat (first | (with_reducible first | exact HB.out | apply below_alloc | apply pw_below_drewN | apply below_drew1 | refine below_set ?_ GE364.out | refine below_set ?_ GE371.out) | exact HB.out)) hb); clear HO367; clear HO370; clear HO374; clear BK364; clear BK371; clear HB; have HO367 := n0_; have HO370 := n1_; have HO374 := n2_; have HO377 := n3_; have BK364 := n4_; have BK371 := n5_; have HB := n6_; clear n0_ n1_ n2_ n3_ n4_ n5_ n6_; (try clear hb); (try clear hb2); (try clear hk); (try clear hi); (try clear ho0)))
 (try simp only [Act.put, List.setIfInBounds_toArray, List.set_cons_zero, List.set_cons_succ])
 go_cut [10, 11] (fun v10 v11 wc => ∃ (kq : Nat) (x10_6 : Bool) (x11_6 : Bool), v10 = .bool x10_6 ∧ v11 = .bool x11_6 ∧ Aside0 (foretellkeep_WordDual.j0 kq t372 t375 x10_6 x11_6 t365 t368 = some r) ∧ Aside0 (kq ≤ k) ∧ Aside0 (Kd.V k51 51 wc w.heap.size (fun k_ => k_ ≠ gb364 ∧ k_ ≠ gb371) v373 t372) ∧ Aside0 (Kd.V k51 51 wc w.heap.size (fun k_ => k_ ≠ gb364 ∧ k_ ≠ gb371) v376 t375) ∧ Aside0 (Kd.N (Kd.slice 4 Kd.bool) 30 wc w.heap.size (fun k_ => some k_ ≠ ((.slice Ao15 t368.length co15) : Value).ownBlock ∧ k_ ≠ gb364 ∧ k_ ≠ gb371) (.slice Ao12 t365.length co12) t365) ∧ Aside0 (Kd.N (Kd.slice 4 Kd.bool) 30 wc w.heap.size (fun k_ => some k_ ≠ ((.slice Ao12 t365.length co12) : Value).ownBlock ∧ k_ ≠ gb364 ∧ k_ ≠ gb371) (.slice Ao15 t368.length co15) t368) ∧ Aside0 (wc.heap[gb364]? = some (.cells #[(.slice A2_0 l2_0.length c2_0), (.slice A2_1 l2_1.length c2_1)] 40 (0, 0))) ∧ Aside0 (wc.heap[gb371]? = some (.cells #[(.slice Ao12 t365.length co12), (.slice Ao15 t368.length co15)] 43 (0, 0))) ∧ Aside0 (Below w.heap.size w wc))
 case first =>
  have H := HC7.out
  clear HC7
  obtain ⟨y378, hy378⟩ : ∃ y_ : List (List (S51)), y_ = (([t372] : List (List (S51)))) := ⟨_, rfl⟩
  replace H : ((foretellkeep_joined.f k 18 y378).bind fun t381 => ((foretellkeep_holds.f k t381 t365 t368).bind fun bt384 => (foretellkeep_WordDual.j0 k t372 t375 bt384.1 bt384.2 t365 t368))) = some r := by first | (rw [hy378]; with_reducible exact H) | (have H2_ := (Option.bind_some _ _).symm.trans H; rw [hy378]; with_reducible exact H2_) | (have H2_ := (Option.bind_some _ _).symm.trans H; with_reducible exact H2_) | with_reducible exact H | (rw [hy378]; exact H) | exact H
  have Ny378 := Aside0.mk hy378
  clear hy378
  replace H := Option.bind_eq_some_iff.mp H
  obtain ⟨t381, A180, H⟩ := H
  replace H : ((foretellkeep_holds.f k t381 t365 t368).bind fun bt384 => (foretellkeep_WordDual.j0 k t372 t375 bt384.1 bt384.2 t365 t368)) = some r := H
  have A18 := Aside0.mk A180
  clear A180
  replace H := Option.bind_eq_some_iff.mp H
  obtain ⟨⟨t384, t385⟩, A190, H⟩ := H
  replace H : (foretellkeep_WordDual.j0 k t372 t375 t384 t385 t365 t368) = some r := H
  have A19 := Aside0.mk A190
  clear A190
  have H' := Aside0.mk H
  clear H
  obtain ⟨Ao20, co20, eo20⟩ := Kd.V_slice HO374.out
  subst eo20
  obtain ⟨Ao21, co21, eo21⟩ := Kd.V_slice HO377.out
  subst eo21
  try go_wp2
  have n0_ := Aside0.mk (Kd.N_drew HO367.out)
  have n1_ := Aside0.mk (Kd.N_drew HO370.out)
  have n2_ := Aside0.mk (Kd.V_drew HO374.out)
  have n3_ := Aside0.mk (Kd.V_drew HO377.out)
  have n4_ := Aside0.mk (blk_drew BK364.out)
  have n5_ := Aside0.mk (blk_drew BK371.out)
  have n6_ := Aside0.mk (below_drew1 HB.out)
  clear HO367
  clear HO370
  clear HO374
  clear HO377
  clear BK364
  clear BK371
  clear HB
  have HO367 := n0_
  have HO370 := n1_
  have HO374 := n2_
  have HO377 := n3_
  have BK364 := n4_
  have BK371 := n5_
  have HB := n6_
  clear n0_ n1_ n2_ n3_ n4_ n5_ n6_
  refine start_ (n := 10) (S := fun w' => w'.cell? ⟨gb371, 0, none⟩ = some (.slice Ao12 t365.length co12) ∧ w'.cell? ⟨gb371, 1, none⟩ = some (.slice Ao15 t368.length co15)) (ds := []) #[false, false, false, false, false, false, false, false, false, false] (by kernel_rfl) rfl rfl ⟨(blk_cell BK371.out 0).trans rfl, (blk_cell BK371.out 1).trans rfl⟩ (fun hHeld => ?_); refine with_tabW foretellkeep_WordDual.tab4 foretellkeep_WordDual.bits4 (fun HT_ HW_ => ?_)
  generalize w17.drew = w22 at HO367 HO370 HO374 HO377 BK364 BK371 HB hHeld ⊢
  refine pure_ (i := 0) (N := some 27) (v := ?_) (a' := ?_) #[true, false, false, false, false, false, false, false, false, false] rfl rfl (any_of HT_.out (by kernel_rfl)) (fun _ _ _ h => h) (Or.inl ⟨by rfl, ?_⟩) ?_ ?_
  rotate_left
  ·
   intro w'
   go_simp
   with_reducible rfl
  rotate_left
  ·
   simp only [Act.put, List.setIfInBounds_toArray, List.set_cons_zero, List.set_cons_succ, i64_w, i32_w]
   rfl
  refine take_ (i := 3) (N := some 30) (v := ?_) (a' := ?_) #[true, false, false, true, false, false, false, false, false, false] rfl rfl (take_ofW HT_.out HW_.out (by kernel_rfl)) (fun _ _ _ h => h) (Or.inl ⟨by rfl, ?_⟩) hHeld ?_ ?_
  rotate_left
  ·
   rintro w' ⟨s0, s1⟩
   go_simp
   with_reducible rfl
  rotate_left
  ·
   simp only [Act.put, List.setIfInBounds_toArray, List.set_cons_zero, List.set_cons_succ, i64_w, i32_w]
   rfl
  refine one_ (i := 1) (N := some 28) #[true, true, false, true, false, false, false, false, false, false] rfl rfl (one_of HT_.out (by kernel_rfl)) (by decide) (fun K hK => ?_)
  refine Kd.N_lit_step (Kd.slice 51 k51) _ 23 ?hg (N' := 28) ?hd (xs := ([t372] : List (List (S51)))) (inner := [.slice Ao20 t372.length co20]) (ok := (fun k_ => k_ ≠ gb364 ∧ k_ ≠ gb371)) (okp := (fun k_ => k_ ≠ gb364 ∧ k_ ≠ gb371)) ?hr ?hp (fun _ hk => hk) ((show ∀ k_, w22.heap.size ≤ k_ → (fun k_ => k_ ≠ gb364 ∧ k_ ≠ gb371) k_ from fun k_ hk => ⟨Kd.freshB (g := gb364) (o := .cells #[.slice A2_0 l2_0.length c2_0, .slice A2_1 l2_1.length c2_1] 40 (0, 0)) (by (with_reducible repeat (first | refine blk_drewN ?_ _ | refine blk_drew ?_ | refine blk_alloc ?_ _)); exact BK364.out) k_ hk, Kd.freshB (g := gb371) (o := .cells #[.slice Ao12 t365.length co12, .slice Ao15 t368.length co15] 43 (0, 0)) (by (with_reducible repeat (first | refine blk_drewN ?_ _ | refine blk_drew ?_ | refine blk_alloc ?_ _)); exact BK371.out) k_ hk⟩) _ (Nat.le_refl _)) (Below.refl _ _) (Nat.le_refl _) (by simp) ?_; (case hd => rfl); (case hg => rfl); (case hr => first | (go_simp; done) | (go_simp; rfl)); (case hp => exact (Reps.one (show Kd.FK (Kd.slice 51 k51) _ _ t372 [.slice Ao20 t372.length co20] from (Kd.FK_slice_mk (Kd.V_reads' (Kd.V_mono (ok' := (fun k_ => k_ ≠ gb364 ∧ k_ ≠ gb371)) (HO374.out) (fun k_ hk => by first | exact ⟨hk.1, hk.2⟩ | exact hk))).2.1 (Kd.V_F (Kd.V_mono (ok' := (fun k_ => k_ ≠ gb364 ∧ k_ ≠ gb371)) (HO374.out) (fun k_ hk => by first | exact ⟨hk.1, hk.2⟩ | exact hk))))) (Reps.none _ _)))
  intro v379 w23 ho24 hb hg_ hnew_
  clear hg_ hnew_
  (first | rw [← Ny378.out] at ho24 | (simp only [Int.reduceToNat] at ho24; rw [← Ny378.out] at ho24))
  have n0_ := Aside0.mk (Kd.N_elder' (by (with_reducible repeat (first | apply Kd.N_alloc | apply Kd.N_drewN | apply Kd.N_drew)); exact HO367.out) (by first | exact Kd.N_base ho24 | exact Kd.S_base ho24 | exact Kd.R_base ho24) hb)
  have n1_ := Aside0.mk (Kd.N_elder' (by (with_reducible repeat (first | apply Kd.N_alloc | apply Kd.N_drewN | apply Kd.N_drew)); exact HO370.out) (by first | exact Kd.N_base ho24 | exact Kd.S_base ho24 | exact Kd.R_base ho24) hb)
  have n2_ := Aside0.mk (Kd.V_elder' (by (with_reducible repeat (first | apply Kd.V_alloc | apply Kd.V_drewN | apply Kd.V_drew)); exact HO374.out) (by first | exact Kd.N_base ho24 | exact Kd.S_base ho24 | exact Kd.R_base ho24) hb)
  have n3_ := Aside0.mk (Kd.V_elder' (by (with_reducible repeat (first | apply Kd.V_alloc | apply Kd.V_drewN | apply Kd.V_drew)); exact HO377.out) (by first | exact Kd.N_base ho24 | exact Kd.S_base ho24 | exact Kd.R_base ho24) hb)
  have n4_ := Aside0.mk (Kd.N_lower ho24 (below_size (by repeat (first | (with_reducible first | exact HB.out | apply below_alloc | apply pw_below_drewN | apply below_drew1 | refine below_set ?_ GE364.out | refine below_set ?_ GE371.out) | exact HB.out))))
  have n5_ := Aside0.mk (blk_below (g := gb364) (o := .cells #[.slice A2_0 l2_0.length c2_0, .slice A2_1 l2_1.length c2_1] 40 (0, 0)) (by (with_reducible repeat (first | refine blk_drewN ?_ _ | refine blk_drew ?_ | refine blk_alloc ?_ _)); exact BK364.out) hb)
  have n6_ := Aside0.mk (blk_below (g := gb371) (o := .cells #[.slice Ao12 t365.length co12, .slice Ao15 t368.length co15] 43 (0, 0)) (by (with_reducible repeat (first | refine blk_drewN ?_ _ | refine blk_drew ?_ | refine blk_alloc ?_ _)); exact BK371.out) hb)
  have n7_ := Aside0.mk (below_step (by repeat (first | (with_reducible first | exact HB.out | apply below_alloc | apply pw_below_drewN | apply below_drew1 | refine below_set ?_ GE364.out | refine below_set ?_ GE371.out) | exact HB.out)) hb)
  clear HO367
  clear HO370
  clear HO374
  clear HO377
  clear BK364
  clear BK371
  clear HB
  have HO367 := n0_
  have HO370 := n1_
  have HO374 := n2_
  have HO377 := n3_
  have HO380 := n4_
  have BK364 := n5_
  have BK371 := n6_
  have HB := n7_
  clear n0_ n1_ n2_ n3_ n4_ n5_ n6_ n7_
  clear hb ho24
  obtain ⟨Ao25, co25, eo25⟩ := Kd.N_slice HO380.out
  (first | subst eo25 | (injection eo25 with f1_ f2_ f3_; have f4_ := f1_.symm; have f5_ := f3_.symm; clear f1_ f2_ f3_; subst f4_; subst f5_))
  refine hK.out _ _ ⟨(blk_cell BK371.out 0).trans rfl, (blk_cell BK371.out 1).trans rfl⟩ (fun hHeld => ?_)
  clear hK K
  refine norm_ (a' := ?_) ?_ ?_
  rotate_left
  ·
   show Act.put _ (some 28) _ = _
   simp only [Act.put, List.setIfInBounds_toArray, List.set_cons_zero, List.set_cons_succ, i64_w, i32_w]
   rfl
  refine one_ (i := 2) (N := some 29) #[true, true, true, true, false, false, false, false, false, false] rfl rfl (one_of HT_.out (by kernel_rfl)) (by decide) (fun K hK => ?_)
  refine goes_ Tryd.func21 (by kernel_rfl) rfl #[.int .i64 18, .slice Ao25 y378.length co25] (by rfl) rfl rfl (by (try simp only [List.map_toArray, List.map_cons, List.map_nil]); first | done | rfl | (simp only [List.length_drop, List.length_take]; rfl)) ?_
  with_reducible refine (foretellkeep_joined.calls k 18 _ _ y378 t381 _ ?side1 ?side2 A18.out).mono ?_
  (case side1 => repeat (first | exact (Kd.N_reads' HO380.out).2.2 | (with_reducible refine Kd.C_alloc ?_ _) | (with_reducible refine Kd.C_drewN ?_ _) | (with_reducible refine Kd.C_drew ?_)))
  (case side2 => exact (Kd.N_reads' HO380.out).2.1)
  rintro e w26 ⟨v382, rfl, ho0, hb⟩
  refine ⟨_, rfl, ?_⟩
  have n0_ := Aside0.mk (Kd.N_below (by (with_reducible repeat (first | apply Kd.N_alloc | apply Kd.N_drewN | apply Kd.N_drew)); exact HO367.out) hb)
  have n1_ := Aside0.mk (Kd.N_below (by (with_reducible repeat (first | apply Kd.N_alloc | apply Kd.N_drewN | apply Kd.N_drew)); exact HO370.out) hb)
  have n2_ := Aside0.mk (Kd.V_below (by (with_reducible repeat (first | apply Kd.V_alloc | apply Kd.V_drewN | apply Kd.V_drew)); exact HO374.out) hb)
  have n3_ := Aside0.mk (Kd.V_below (by (with_reducible repeat (first | apply Kd.V_alloc | apply Kd.V_drewN | apply Kd.V_drew)); exact HO377.out) hb)
  have n4_ := Aside0.mk (Kd.N_below (by (with_reducible repeat (first | apply Kd.N_alloc | apply Kd.N_drewN | apply Kd.N_drew)); exact HO380.out) hb)
  have n5_ := Aside0.mk (Kd.V_lower (Kd.V_mono (ok' := fun k_ => k_ ≠ gb364 ∧ k_ ≠ gb371) (Kd.R_V (Kd.R_bound ho0)) (fun k_ hk_ => ⟨(Kd.freshB (g := gb364) (o := .cells #[.slice A2_0 l2_0.length c2_0, .slice A2_1 l2_1.length c2_1] 40 (0, 0)) (by (with_reducible repeat (first | refine blk_drewN ?_ _ | refine blk_drew ?_ | refine blk_alloc ?_ _)); exact BK364.out) k_ hk_.2.1), (Kd.freshB (g := gb371) (o := .cells #[.slice Ao12 t365.length co12, .slice Ao15 t368.length co15] 43 (0, 0)) (by (with_reducible repeat (first | refine blk_drewN ?_ _ | refine blk_drew ?_ | refine blk_alloc ?_ _)); exact BK371.out) k_ hk_.2.1)⟩)) (below_size (by repeat (first | (with_reducible first | exact HB.out | apply below_alloc | apply pw_below_drewN | apply below_drew1 | refine below_set ?_ GE364.out | refine below_set ?_ GE371.out) | exact HB.out))))
  have n6_ := Aside0.mk (blk_below (g := gb364) (o := .cells #[.slice A2_0 l2_0.length c2_0, .slice A2_1 l2_1.length c2_1] 40 (0, 0)) (by (with_reducible repeat (first | refine blk_drewN ?_ _ | refine blk_drew ?_ | refine blk_alloc ?_ _)); exact BK364.out) hb)
  have n7_ := Aside0.mk (blk_below (g := gb371) (o := .cells #[.slice Ao12 t365.length co12, .slice Ao15 t368.length co15] 43 (0, 0)) (by (with_reducible repeat (first | refine blk_drewN ?_ _ | refine blk_drew ?_ | refine blk_alloc ?_ _)); exact BK371.out) hb)
  have n8_ := Aside0.mk (below_step (by repeat (first | (with_reducible first | exact HB.out | apply below_alloc | apply pw_below_drewN | apply below_drew1 | refine below_set ?_ GE364.out | refine below_set ?_ GE371.out) | exact HB.out)) hb)
  clear HO367
  clear HO370
  clear HO374
  clear HO377
  clear HO380
  clear BK364
  clear BK371
  clear HB
  have HO367 := n0_
  have HO370 := n1_
  have HO374 := n2_
  have HO377 := n3_
  have HO380 := n4_
  have HO383 := n5_
  have BK364 := n6_
  have BK371 := n7_
  have HB := n8_
  clear n0_ n1_ n2_ n3_ n4_ n5_ n6_ n7_ n8_
  (try clear hb)
  (try clear hb2)
  (try clear hk)
  (try clear hi)
  (try clear ho0)
  obtain ⟨Ao27, co27, eo27⟩ := Kd.V_slice HO383.out
  (first | subst eo27 | (injection eo27 with f1_ f2_ f3_; have f4_ := f1_.symm; have f5_ := f3_.symm; clear f1_ f2_ f3_; subst f4_; subst f5_))
  refine hK.out _ _ ⟨(blk_cell BK371.out 0).trans rfl, (blk_cell BK371.out 1).trans rfl⟩ (fun hHeld => ?_)
  clear hK K
  refine norm_ (a' := ?_) ?_ ?_
  rotate_left
  ·
   show Act.put _ (some 29) _ = _
   simp only [Act.put, List.setIfInBounds_toArray, List.set_cons_zero, List.set_cons_succ, i64_w, i32_w]
   rfl
  refine one_ (i := 4) (N := some 31) #[true, true, true, true, true, false, false, false, false, false] rfl rfl (one_of HT_.out (by kernel_rfl)) (by decide) (fun K hK => ?_)
  refine goes_ Tryd.func25 (by kernel_rfl) rfl #[.slice Ao27 t381.length co27, .agg #[.slice Ao12 t365.length co12, .slice Ao15 t368.length co15]] (by rfl) rfl rfl (by (try simp only [List.map_toArray, List.map_cons, List.map_nil]); first | done | rfl | (simp only [List.length_drop, List.length_take]; rfl)) ?_
  with_reducible refine (foretellkeep_holds.calls k _ _ t381 _ _ t365 _ _ t368 t384 t385 _ ?side1 ?side2 ?side3 ?side4 ?side5 ?side6 ?side7 A19.out).mono ?_
  (case side1 => repeat (first | exact (Kd.V_reads' HO383.out).2.2 | (with_reducible refine Kd.C_alloc ?_ _) | (with_reducible refine Kd.C_drewN ?_ _) | (with_reducible refine Kd.C_drew ?_)))
  (case side2 => exact (Kd.V_reads' HO383.out).2.1)
  (case side3 => repeat (first | exact (Kd.N_reads' HO367.out).2.2 | (with_reducible refine Kd.C_alloc ?_ _) | (with_reducible refine Kd.C_drewN ?_ _) | (with_reducible refine Kd.C_drew ?_)))
  (case side4 => exact (Kd.N_reads' HO367.out).2.1)
  (case side5 => repeat (first | exact (Kd.N_reads' HO370.out).2.2 | (with_reducible refine Kd.C_alloc ?_ _) | (with_reducible refine Kd.C_drewN ?_ _) | (with_reducible refine Kd.C_drew ?_)))
  (case side6 => exact (Kd.N_reads' HO370.out).2.1)
  (case side7 => first | exact hG_ | exact Glob.drewN hG_ _ | exact Glob.below hG_ (by repeat (first | (with_reducible first | exact HB.out | apply below_alloc | apply pw_below_drewN | apply below_drew1 | refine below_set ?_ GE364.out | refine below_set ?_ GE371.out) | exact HB.out)))
  rintro e w28 ⟨rfl, hb⟩
  refine ⟨_, rfl, ?_⟩
  have n0_ := Aside0.mk (Kd.N_below (by (with_reducible repeat (first | apply Kd.N_alloc | apply Kd.N_drewN | apply Kd.N_drew)); exact HO367.out) hb)
  have n1_ := Aside0.mk (Kd.N_below (by (with_reducible repeat (first | apply Kd.N_alloc | apply Kd.N_drewN | apply Kd.N_drew)); exact HO370.out) hb)
  have n2_ := Aside0.mk (Kd.V_below (by (with_reducible repeat (first | apply Kd.V_alloc | apply Kd.V_drewN | apply Kd.V_drew)); exact HO374.out) hb)
  have n3_ := Aside0.mk (Kd.V_below (by (with_reducible repeat (first | apply Kd.V_alloc | apply Kd.V_drewN | apply Kd.V_drew)); exact HO377.out) hb)
  have n4_ := Aside0.mk (Kd.N_below (by (with_reducible repeat (first | apply Kd.N_alloc | apply Kd.N_drewN | apply Kd.N_drew)); exact HO380.out) hb)
  have n5_ := Aside0.mk (Kd.V_below (by (with_reducible repeat (first | apply Kd.V_alloc | apply Kd.V_drewN | apply Kd.V_drew)); exact HO383.out) hb)
  have n6_ := Aside0.mk (blk_below (g := gb364) (o := .cells #[.slice A2_0 l2_0.length c2_0, .slice A2_1 l2_1.length c2_1] 40 (0, 0)) (by (with_reducible repeat (first | refine blk_drewN ?_ _ | refine blk_drew ?_ | refine blk_alloc ?_ _)); exact BK364.out) hb)
  have n7_ := Aside0.mk (blk_below (g := gb371) (o := .cells #[.slice Ao12 t365.length co12, .slice Ao15 t368.length co15] 43 (0, 0)) (by (with_reducible repeat (first | refine blk_drewN ?_ _ | refine blk_drew ?_ | refine blk_alloc ?_ _)); exact BK371.out) hb)
  have n8_ := Aside0.mk (below_step (by repeat (first | (with_reducible first | exact HB.out | apply below_alloc | apply pw_below_drewN | apply below_drew1 | refine below_set ?_ GE364.out | refine below_set ?_ GE371.out) | exact HB.out)) hb)
  clear HO367
  clear HO370
  clear HO374
  clear HO377
  clear HO380
  clear HO383
  clear BK364
  clear BK371
  clear HB
  have HO367 := n0_
  have HO370 := n1_
  have HO374 := n2_
  have HO377 := n3_
  have HO380 := n4_
  have HO383 := n5_
  have BK364 := n6_
  have BK371 := n7_
  have HB := n8_
  clear n0_ n1_ n2_ n3_ n4_ n5_ n6_ n7_ n8_
  (try clear hb)
  (try clear hb2)
  (try clear hk)
  (try clear hi)
  refine hK.out _ _ ⟨(blk_cell BK371.out 0).trans rfl, (blk_cell BK371.out 1).trans rfl⟩ (fun hHeld => ?_)
  clear hK K
  refine norm_ (a' := ?_) ?_ ?_
  rotate_left
  ·
   show Act.put _ (some 31) _ = _
   simp only [Act.put, List.setIfInBounds_toArray, List.set_cons_zero, List.set_cons_succ, i64_w, i32_w]
   rfl
  refine pure_ (i := 5) (N := some 26) (v := ?_) (a' := ?_) #[true, true, true, true, true, true, false, false, false, false] rfl rfl (any_of HT_.out (by kernel_rfl)) (fun _ _ _ h => h) (Or.inl ⟨by rfl, ?_⟩) ?_ ?_
  rotate_left
  ·
   intro w'
   go_simp
   with_reducible rfl
  rotate_left
  ·
   simp only [Act.put, List.setIfInBounds_toArray, List.set_cons_zero, List.set_cons_succ, i64_w, i32_w]
   rfl
  refine pure_ (i := 6) (N := some 32) (v := ?_) (a' := ?_) #[true, true, true, true, true, true, true, false, false, false] rfl rfl (any_of HT_.out (by kernel_rfl)) (fun _ _ _ h => h) (Or.inl ⟨by rfl, ?_⟩) ?_ ?_
  rotate_left
  ·
   intro w'
   go_simp
   with_reducible rfl
  rotate_left
  ·
   simp only [Act.put, List.setIfInBounds_toArray, List.set_cons_zero, List.set_cons_succ, i64_w, i32_w]
   rfl
  refine pure_ (i := 7) (N := some 33) (v := ?_) (a' := ?_) #[true, true, true, true, true, true, true, true, false, false] rfl rfl (any_of HT_.out (by kernel_rfl)) (fun _ _ _ h => h) (Or.inl ⟨by rfl, ?_⟩) ?_ ?_
  rotate_left
  ·
   intro w'
   go_simp
   with_reducible rfl
  rotate_left
  ·
   simp only [Act.put, List.setIfInBounds_toArray, List.set_cons_zero, List.set_cons_succ, i64_w, i32_w]
   rfl
  refine pure_ (i := 8) (N := some 10) (v := ?_) (a' := ?_) #[true, true, true, true, true, true, true, true, true, false] rfl rfl (any_of HT_.out (by kernel_rfl)) (fun _ _ _ h => h) (Or.inl ⟨by rfl, ?_⟩) ?_ ?_
  rotate_left
  ·
   intro w'
   go_simp
   with_reducible rfl
  rotate_left
  ·
   simp only [Act.put, List.setIfInBounds_toArray, List.set_cons_zero, List.set_cons_succ, i64_w, i32_w]
   rfl
  refine pure_ (i := 9) (N := some 11) (v := ?_) (a' := ?_) #[true, true, true, true, true, true, true, true, true, true] rfl rfl (any_of HT_.out (by kernel_rfl)) (fun _ _ _ h => h) (Or.inl ⟨by rfl, ?_⟩) ?_ ?_
  rotate_left
  ·
   intro w'
   go_simp
   with_reducible rfl
  rotate_left
  ·
   simp only [Act.put, List.setIfInBounds_toArray, List.set_cons_zero, List.set_cons_succ, i64_w, i32_w]
   rfl
  refine done_ (done_of HT_.out (by kernel_rfl)) ?_
  try go_wp2
  go_meet
  case rel => exact ⟨_, (t384), (t385), (by first | rfl | (simp; done) | (simp [*]; done)), (by first | rfl | (simp; done) | (simp [*]; done)), H', ⟨by first | omega | exact Nat.le_refl _⟩, ⟨by (with_reducible repeat (first | apply Kd.V_alloc | apply Kd.V_drewN | apply Kd.V_drew)); exact Kd.V_mono HO374.out (fun _ hk => by first | exact ⟨hk.1.1, hk.1.2⟩ | exact hk.1 | exact hk)⟩, ⟨by (with_reducible repeat (first | apply Kd.V_alloc | apply Kd.V_drewN | apply Kd.V_drew)); exact Kd.V_mono HO377.out (fun _ hk => by first | exact ⟨hk.1.1, hk.1.2⟩ | exact hk.1 | exact hk)⟩, ⟨by (with_reducible repeat (first | apply Kd.N_alloc | apply Kd.N_drewN | apply Kd.N_drew)); exact Kd.N_mono HO367.out (fun _ hk => by first | exact ⟨hk.1.1.1, ⟨hk.1.1.2, hk.1.2⟩⟩ | exact hk.1 | exact hk)⟩, ⟨by (with_reducible repeat (first | apply Kd.N_alloc | apply Kd.N_drewN | apply Kd.N_drew)); exact Kd.N_mono HO370.out (fun _ hk => by first | exact ⟨hk.1.1.1, ⟨hk.1.1.2, hk.1.2⟩⟩ | exact hk.1 | exact hk)⟩, ⟨by (with_reducible repeat (first | refine blk_drewN ?_ _ | refine blk_drew ?_ | refine blk_alloc ?_ _)); exact BK364.out⟩, ⟨by (with_reducible repeat (first | refine blk_drewN ?_ _ | refine blk_drew ?_ | refine blk_alloc ?_ _)); exact BK371.out⟩, ⟨by repeat (first | (with_reducible first | exact HB.out | apply below_alloc | apply pw_below_drewN | apply below_drew1 | refine below_set ?_ GE364.out | refine below_set ?_ GE371.out) | exact HB.out)⟩⟩
 case rest =>
  clear HC7
  try clear c1
  try clear c2
  try clear p2
  try clear c8
  try clear c13
  try clear c16
  try clear c21
  try clear c23
  try clear c25
  try clear hcz14_0
  try clear hcz14_1
  try clear hcz9_0
  try clear hcz9_1
  try clear hfz14_0
  try clear hfz14_1
  try clear hfz9_0
  try clear hfz9_1
  obtain ⟨kq, x10_6, x11_6, rfl, rfl, HA, HJ6, HO_8, HO_9, HO_372000, HO_372001, BK364, BK371, HB⟩ := hcut
  cases kq with
  | zero => exact absurd HA.out (by simp [foretellkeep_WordDual.j0])
  | succ kj6 =>
   have H := HA.out
   clear HA
   simp only [foretellkeep_WordDual.j0] at H
   have HC29 := Aside0.mk H
   clear H
   go_upto_region 5 with (fail)
   go_cut [12, 13] (fun v12 v13 wc => ∃ (kq : Nat) (x12_28 : Bool) (x13_28 : Bool), v12 = .bool x12_28 ∧ v13 = .bool x13_28 ∧ Aside0 (foretellkeep_WordDual.j1 kq t372 t375 x10_6 x11_6 x12_28 x13_28 t365 t368 = some r) ∧ Aside0 (kq ≤ kj6) ∧ Aside0 (Kd.V k51 51 wc w.heap.size (fun k_ => k_ ≠ gb364 ∧ k_ ≠ gb371) v373 t372) ∧ Aside0 (Kd.V k51 51 wc w.heap.size (fun k_ => k_ ≠ gb364 ∧ k_ ≠ gb371) v376 t375) ∧ Aside0 (Kd.N (Kd.slice 4 Kd.bool) 30 wc w.heap.size (fun k_ => some k_ ≠ ((.slice Ao15 t368.length co15) : Value).ownBlock ∧ k_ ≠ gb364 ∧ k_ ≠ gb371) (.slice Ao12 t365.length co12) t365) ∧ Aside0 (Kd.N (Kd.slice 4 Kd.bool) 30 wc w.heap.size (fun k_ => some k_ ≠ ((.slice Ao12 t365.length co12) : Value).ownBlock ∧ k_ ≠ gb364 ∧ k_ ≠ gb371) (.slice Ao15 t368.length co15) t368) ∧ Aside0 (wc.heap[gb364]? = some (.cells #[(.slice A2_0 l2_0.length c2_0), (.slice A2_1 l2_1.length c2_1)] 40 (0, 0))) ∧ Aside0 (wc.heap[gb371]? = some (.cells #[(.slice Ao12 t365.length co12), (.slice Ao15 t368.length co15)] 43 (0, 0))) ∧ Aside0 (Below w.heap.size w wc))
   case first =>
    have H := HC29.out
    clear HC29
    obtain ⟨y386, hy386⟩ : ∃ y_ : List (List (S51)), y_ = (([t372] : List (List (S51)))) := ⟨_, rfl⟩
    replace H : ((foretellkeep_joined.f kj6 10 y386).bind fun t389 => ((foretellkeep_joined.f kj6 17 (([t389] : List (List (S51))))).bind fun t395 => ((foretellkeep_joined.f kj6 10 (([t395] : List (List (S51))))).bind fun t401 => ((foretellkeep_holds.f kj6 t401 t365 t368).bind fun bt404 => (foretellkeep_WordDual.j1 kj6 t372 t375 x10_6 x11_6 bt404.1 bt404.2 t365 t368))))) = some r := by first | (rw [hy386]; with_reducible exact H) | (have H2_ := (Option.bind_some _ _).symm.trans H; rw [hy386]; with_reducible exact H2_) | (have H2_ := (Option.bind_some _ _).symm.trans H; with_reducible exact H2_) | with_reducible exact H | (rw [hy386]; exact H) | exact H
    have Ny386 := Aside0.mk hy386
    clear hy386
    replace H := Option.bind_eq_some_iff.mp H
    obtain ⟨t389, A300, H⟩ := H
    replace H : ((foretellkeep_joined.f kj6 17 (([t389] : List (List (S51))))).bind fun t395 => ((foretellkeep_joined.f kj6 10 (([t395] : List (List (S51))))).bind fun t401 => ((foretellkeep_holds.f kj6 t401 t365 t368).bind fun bt404 => (foretellkeep_WordDual.j1 kj6 t372 t375 x10_6 x11_6 bt404.1 bt404.2 t365 t368)))) = some r := H
    have A30 := Aside0.mk A300
    clear A300
    obtain ⟨y392, hy392⟩ : ∃ y_ : List (List (S51)), y_ = (([t389] : List (List (S51)))) := ⟨_, rfl⟩
    replace H : ((foretellkeep_joined.f kj6 17 y392).bind fun t395 => ((foretellkeep_joined.f kj6 10 (([t395] : List (List (S51))))).bind fun t401 => ((foretellkeep_holds.f kj6 t401 t365 t368).bind fun bt404 => (foretellkeep_WordDual.j1 kj6 t372 t375 x10_6 x11_6 bt404.1 bt404.2 t365 t368)))) = some r := by first | (rw [hy392]; with_reducible exact H) | (have H2_ := (Option.bind_some _ _).symm.trans H; rw [hy392]; with_reducible exact H2_) | (have H2_ := (Option.bind_some _ _).symm.trans H; with_reducible exact H2_) | with_reducible exact H | (rw [hy392]; exact H) | exact H
    have Ny392 := Aside0.mk hy392
    clear hy392
    replace H := Option.bind_eq_some_iff.mp H
    obtain ⟨t395, A310, H⟩ := H
    replace H : ((foretellkeep_joined.f kj6 10 (([t395] : List (List (S51))))).bind fun t401 => ((foretellkeep_holds.f kj6 t401 t365 t368).bind fun bt404 => (foretellkeep_WordDual.j1 kj6 t372 t375 x10_6 x11_6 bt404.1 bt404.2 t365 t368))) = some r := H
    have A31 := Aside0.mk A310
    clear A310
    obtain ⟨y398, hy398⟩ : ∃ y_ : List (List (S51)), y_ = (([t395] : List (List (S51)))) := ⟨_, rfl⟩
    replace H : ((foretellkeep_joined.f kj6 10 y398).bind fun t401 => ((foretellkeep_holds.f kj6 t401 t365 t368).bind fun bt404 => (foretellkeep_WordDual.j1 kj6 t372 t375 x10_6 x11_6 bt404.1 bt404.2 t365 t368))) = some r := by first | (rw [hy398]; with_reducible exact H) | (have H2_ := (Option.bind_some _ _).symm.trans H; rw [hy398]; with_reducible exact H2_) | (have H2_ := (Option.bind_some _ _).symm.trans H; with_reducible exact H2_) | with_reducible exact H | (rw [hy398]; exact H) | exact H
    have Ny398 := Aside0.mk hy398
    clear hy398
    replace H := Option.bind_eq_some_iff.mp H
    obtain ⟨t401, A320, H⟩ := H
    replace H : ((foretellkeep_holds.f kj6 t401 t365 t368).bind fun bt404 => (foretellkeep_WordDual.j1 kj6 t372 t375 x10_6 x11_6 bt404.1 bt404.2 t365 t368)) = some r := H
    have A32 := Aside0.mk A320
    clear A320
    replace H := Option.bind_eq_some_iff.mp H
    obtain ⟨⟨t404, t405⟩, A330, H⟩ := H
    replace H : (foretellkeep_WordDual.j1 kj6 t372 t375 x10_6 x11_6 t404 t405 t365 t368) = some r := H
    have A33 := Aside0.mk A330
    clear A330
    have H' := Aside0.mk H
    clear H
    obtain ⟨Ao34, co34, eo34⟩ := Kd.V_slice HO_8.out
    subst eo34
    obtain ⟨Ao35, co35, eo35⟩ := Kd.V_slice HO_9.out
    subst eo35
    try go_wp2
    have n0_ := Aside0.mk (Kd.V_drew HO_8.out)
    have n1_ := Aside0.mk (Kd.V_drew HO_9.out)
    have n2_ := Aside0.mk (Kd.N_drew HO_372000.out)
    have n3_ := Aside0.mk (Kd.N_drew HO_372001.out)
    have n4_ := Aside0.mk (blk_drew BK364.out)
    have n5_ := Aside0.mk (blk_drew BK371.out)
    have n6_ := Aside0.mk (below_drew1 HB.out)
    clear HO_8
    clear HO_9
    clear HO_372000
    clear HO_372001
    clear BK364
    clear BK371
    clear HB
    have HO_8 := n0_
    have HO_9 := n1_
    have HO_372000 := n2_
    have HO_372001 := n3_
    have BK364 := n4_
    have BK371 := n5_
    have HB := n6_
    clear n0_ n1_ n2_ n3_ n4_ n5_ n6_
    refine start_ (n := 14) (S := fun w' => w'.cell? ⟨gb371, 0, none⟩ = some (.slice Ao12 t365.length co12) ∧ w'.cell? ⟨gb371, 1, none⟩ = some (.slice Ao15 t368.length co15)) (ds := []) #[false, false, false, false, false, false, false, false, false, false, false, false, false, false] (by kernel_rfl) rfl rfl ⟨(blk_cell BK371.out 0).trans rfl, (blk_cell BK371.out 1).trans rfl⟩ (fun hHeld => ?_); refine with_tabW foretellkeep_WordDual.tab5 foretellkeep_WordDual.bits5 (fun HT_ HW_ => ?_)
    generalize wc.drew = w36 at HO_8 HO_9 HO_372000 HO_372001 BK364 BK371 HB hHeld ⊢
    refine pure_ (i := 0) (N := some 35) (v := ?_) (a' := ?_) #[true, false, false, false, false, false, false, false, false, false, false, false, false, false] rfl rfl (any_of HT_.out (by kernel_rfl)) (fun _ _ _ h => h) (Or.inl ⟨by rfl, ?_⟩) ?_ ?_
    rotate_left
    ·
     intro w'
     go_simp
     with_reducible rfl
    rotate_left
    ·
     simp only [Act.put, List.setIfInBounds_toArray, List.set_cons_zero, List.set_cons_succ, i64_w, i32_w]
     rfl
    refine take_ (i := 7) (N := some 42) (v := ?_) (a' := ?_) #[true, false, false, false, false, false, false, true, false, false, false, false, false, false] rfl rfl (take_ofW HT_.out HW_.out (by kernel_rfl)) (fun _ _ _ h => h) (Or.inl ⟨by rfl, ?_⟩) hHeld ?_ ?_
    rotate_left
    ·
     rintro w' ⟨s0, s1⟩
     go_simp
     with_reducible rfl
    rotate_left
    ·
     simp only [Act.put, List.setIfInBounds_toArray, List.set_cons_zero, List.set_cons_succ, i64_w, i32_w]
     rfl
    refine one_ (i := 1) (N := some 36) #[true, true, false, false, false, false, false, true, false, false, false, false, false, false] rfl rfl (one_of HT_.out (by kernel_rfl)) (by decide) (fun K hK => ?_)
    refine Kd.N_lit_step (Kd.slice 51 k51) _ 23 ?hg (N' := 36) ?hd (xs := ([t372] : List (List (S51)))) (inner := [.slice Ao34 t372.length co34]) (ok := (fun k_ => k_ ≠ gb364 ∧ k_ ≠ gb371)) (okp := (fun k_ => k_ ≠ gb364 ∧ k_ ≠ gb371)) ?hr ?hp (fun _ hk => hk) ((show ∀ k_, w36.heap.size ≤ k_ → (fun k_ => k_ ≠ gb364 ∧ k_ ≠ gb371) k_ from fun k_ hk => ⟨Kd.freshB (g := gb364) (o := .cells #[.slice A2_0 l2_0.length c2_0, .slice A2_1 l2_1.length c2_1] 40 (0, 0)) (by (with_reducible repeat (first | refine blk_drewN ?_ _ | refine blk_drew ?_ | refine blk_alloc ?_ _)); exact BK364.out) k_ hk, Kd.freshB (g := gb371) (o := .cells #[.slice Ao12 t365.length co12, .slice Ao15 t368.length co15] 43 (0, 0)) (by (with_reducible repeat (first | refine blk_drewN ?_ _ | refine blk_drew ?_ | refine blk_alloc ?_ _)); exact BK371.out) k_ hk⟩) _ (Nat.le_refl _)) (Below.refl _ _) (Nat.le_refl _) (by simp) ?_; (case hd => rfl); (case hg => rfl); (case hr => first | (go_simp; done) | (go_simp; rfl)); (case hp => exact (Reps.one (show Kd.FK (Kd.slice 51 k51) _ _ t372 [.slice Ao34 t372.length co34] from (Kd.FK_slice_mk (Kd.V_reads' (Kd.V_mono (ok' := (fun k_ => k_ ≠ gb364 ∧ k_ ≠ gb371)) (HO_8.out) (fun k_ hk => ⟨hk.1, hk.2⟩))).2.1 (Kd.V_F (Kd.V_mono (ok' := (fun k_ => k_ ≠ gb364 ∧ k_ ≠ gb371)) (HO_8.out) (fun k_ hk => ⟨hk.1, hk.2⟩))))) (Reps.none _ _)))
    intro v387 w37 ho38 hb hg_ hnew_
    clear hg_ hnew_
    (first | rw [← Ny386.out] at ho38 | (simp only [Int.reduceToNat] at ho38; rw [← Ny386.out] at ho38))
    have n0_ := Aside0.mk (Kd.V_elder' (by (with_reducible repeat (first | apply Kd.V_alloc | apply Kd.V_drewN | apply Kd.V_drew)); exact HO_8.out) (by first | exact Kd.N_base ho38 | exact Kd.S_base ho38 | exact Kd.R_base ho38) hb)
    have n1_ := Aside0.mk (Kd.V_elder' (by (with_reducible repeat (first | apply Kd.V_alloc | apply Kd.V_drewN | apply Kd.V_drew)); exact HO_9.out) (by first | exact Kd.N_base ho38 | exact Kd.S_base ho38 | exact Kd.R_base ho38) hb)
    have n2_ := Aside0.mk (Kd.N_elder' (by (with_reducible repeat (first | apply Kd.N_alloc | apply Kd.N_drewN | apply Kd.N_drew)); exact HO_372000.out) (by first | exact Kd.N_base ho38 | exact Kd.S_base ho38 | exact Kd.R_base ho38) hb)
    have n3_ := Aside0.mk (Kd.N_elder' (by (with_reducible repeat (first | apply Kd.N_alloc | apply Kd.N_drewN | apply Kd.N_drew)); exact HO_372001.out) (by first | exact Kd.N_base ho38 | exact Kd.S_base ho38 | exact Kd.R_base ho38) hb)
    have n4_ := Aside0.mk (Kd.N_lower ho38 (below_size (by repeat (first | (with_reducible first | exact HB.out | apply below_alloc | apply pw_below_drewN | apply below_drew1 | refine below_set ?_ GE364.out | refine below_set ?_ GE371.out) | exact HB.out))))
    have n5_ := Aside0.mk (blk_below (g := gb364) (o := .cells #[.slice A2_0 l2_0.length c2_0, .slice A2_1 l2_1.length c2_1] 40 (0, 0)) (by (with_reducible repeat (first | refine blk_drewN ?_ _ | refine blk_drew ?_ | refine blk_alloc ?_ _)); exact BK364.out) hb)
    have n6_ := Aside0.mk (blk_below (g := gb371) (o := .cells #[.slice Ao12 t365.length co12, .slice Ao15 t368.length co15] 43 (0, 0)) (by (with_reducible repeat (first | refine blk_drewN ?_ _ | refine blk_drew ?_ | refine blk_alloc ?_ _)); exact BK371.out) hb)
    have n7_ := Aside0.mk (below_step (by repeat (first | (with_reducible first | exact HB.out | apply below_alloc | apply pw_below_drewN | apply below_drew1 | refine below_set ?_ GE364.out | refine below_set ?_ GE371.out) | exact HB.out)) hb)
    clear HO_8
    clear HO_9
    clear HO_372000
    clear HO_372001
    clear BK364
    clear BK371
    clear HB
    have HO_8 := n0_
    have HO_9 := n1_
    have HO_372000 := n2_
    have HO_372001 := n3_
    have HO388 := n4_
    have BK364 := n5_
    have BK371 := n6_
    have HB := n7_
    clear n0_ n1_ n2_ n3_ n4_ n5_ n6_ n7_
    clear hb ho38
    obtain ⟨Ao39, co39, eo39⟩ := Kd.N_slice HO388.out
    (first | subst eo39 | (injection eo39 with f1_ f2_ f3_; have f4_ := f1_.symm; have f5_ := f3_.symm; clear f1_ f2_ f3_; subst f4_; subst f5_))
    refine hK.out _ _ ⟨(blk_cell BK371.out 0).trans rfl, (blk_cell BK371.out 1).trans rfl⟩ (fun hHeld => ?_)
    clear hK K
    refine norm_ (a' := ?_) ?_ ?_
    rotate_left
    ·
     show Act.put _ (some 36) _ = _
     simp only [Act.put, List.setIfInBounds_toArray, List.set_cons_zero, List.set_cons_succ, i64_w, i32_w]
     rfl
    refine one_ (i := 2) (N := some 37) #[true, true, true, false, false, false, false, true, false, false, false, false, false, false] rfl rfl (one_of HT_.out (by kernel_rfl)) (by decide) (fun K hK => ?_)
    refine goes_ Tryd.func21 (by kernel_rfl) rfl #[.int .i64 10, .slice Ao39 y386.length co39] (by rfl) rfl rfl (by (try simp only [List.map_toArray, List.map_cons, List.map_nil]); first | done | rfl | (simp only [List.length_drop, List.length_take]; rfl)) ?_
    with_reducible refine (foretellkeep_joined.calls kj6 10 _ _ y386 t389 _ ?side1 ?side2 A30.out).mono ?_
    (case side1 => repeat (first | exact (Kd.N_reads' HO388.out).2.2 | (with_reducible refine Kd.C_alloc ?_ _) | (with_reducible refine Kd.C_drewN ?_ _) | (with_reducible refine Kd.C_drew ?_)))
    (case side2 => exact (Kd.N_reads' HO388.out).2.1)
    rintro e w40 ⟨v390, rfl, ho0, hb⟩
    refine ⟨_, rfl, ?_⟩
    have n0_ := Aside0.mk (Kd.V_below (by (with_reducible repeat (first | apply Kd.V_alloc | apply Kd.V_drewN | apply Kd.V_drew)); exact HO_8.out) hb)
    have n1_ := Aside0.mk (Kd.V_below (by (with_reducible repeat (first | apply Kd.V_alloc | apply Kd.V_drewN | apply Kd.V_drew)); exact HO_9.out) hb)
    have n2_ := Aside0.mk (Kd.N_below (by (with_reducible repeat (first | apply Kd.N_alloc | apply Kd.N_drewN | apply Kd.N_drew)); exact HO_372000.out) hb)
    have n3_ := Aside0.mk (Kd.N_below (by (with_reducible repeat (first | apply Kd.N_alloc | apply Kd.N_drewN | apply Kd.N_drew)); exact HO_372001.out) hb)
    have n4_ := Aside0.mk (Kd.N_below (by (with_reducible repeat (first | apply Kd.N_alloc | apply Kd.N_drewN | apply Kd.N_drew)); exact HO388.out) hb)
    have n5_ := Aside0.mk (Kd.V_lower (Kd.V_mono (ok' := fun k_ => k_ ≠ gb364 ∧ k_ ≠ gb371) (Kd.R_V (Kd.R_bound ho0)) (fun k_ hk_ => ⟨(Kd.freshB (g := gb364) (o := .cells #[.slice A2_0 l2_0.length c2_0, .slice A2_1 l2_1.length c2_1] 40 (0, 0)) (by (with_reducible repeat (first | refine blk_drewN ?_ _ | refine blk_drew ?_ | refine blk_alloc ?_ _)); exact BK364.out) k_ hk_.2.1), (Kd.freshB (g := gb371) (o := .cells #[.slice Ao12 t365.length co12, .slice Ao15 t368.length co15] 43 (0, 0)) (by (with_reducible repeat (first | refine blk_drewN ?_ _ | refine blk_drew ?_ | refine blk_alloc ?_ _)); exact BK371.out) k_ hk_.2.1)⟩)) (below_size (by repeat (first | (with_reducible first | exact HB.out | apply below_alloc | apply pw_below_drewN | apply below_drew1 | refine below_set ?_ GE364.out | refine below_set ?_ GE371.out) | exact HB.out))))
    have n6_ := Aside0.mk (blk_below (g := gb364) (o := .cells #[.slice A2_0 l2_0.length c2_0, .slice A2_1 l2_1.length c2_1] 40 (0, 0)) (by (with_reducible repeat (first | refine blk_drewN ?_ _ | refine blk_drew ?_ | refine blk_alloc ?_ _)); exact BK364.out) hb)
    have n7_ := Aside0.mk (blk_below (g := gb371) (o := .cells #[.slice Ao12 t365.length co12, .slice Ao15 t368.length co15] 43 (0, 0)) (by (with_reducible repeat (first | refine blk_drewN ?_ _ | refine blk_drew ?_ | refine blk_alloc ?_ _)); exact BK371.out) hb)
    have n8_ := Aside0.mk (below_step (by repeat (first | (with_reducible first | exact HB.out | apply below_alloc | apply pw_below_drewN | apply below_drew1 | refine below_set ?_ GE364.out | refine below_set ?_ GE371.out) | exact HB.out)) hb)
    clear HO_8
    clear HO_9
    clear HO_372000
    clear HO_372001
    clear HO388
    clear BK364
    clear BK371
    clear HB
    have HO_8 := n0_
    have HO_9 := n1_
    have HO_372000 := n2_
    have HO_372001 := n3_
    have HO388 := n4_
    have HO391 := n5_
    have BK364 := n6_
    have BK371 := n7_
    have HB := n8_
    clear n0_ n1_ n2_ n3_ n4_ n5_ n6_ n7_ n8_
    (try clear hb)
    (try clear hb2)
    (try clear hk)
    (try clear hi)
    (try clear ho0)
    obtain ⟨Ao41, co41, eo41⟩ := Kd.V_slice HO391.out
    (first | subst eo41 | (injection eo41 with f1_ f2_ f3_; have f4_ := f1_.symm; have f5_ := f3_.symm; clear f1_ f2_ f3_; subst f4_; subst f5_))
    refine hK.out _ _ ⟨(blk_cell BK371.out 0).trans rfl, (blk_cell BK371.out 1).trans rfl⟩ (fun hHeld => ?_)
    clear hK K
    refine norm_ (a' := ?_) ?_ ?_
    rotate_left
    ·
     show Act.put _ (some 37) _ = _
     simp only [Act.put, List.setIfInBounds_toArray, List.set_cons_zero, List.set_cons_succ, i64_w, i32_w]
     rfl
    refine one_ (i := 3) (N := some 38) #[true, true, true, true, false, false, false, true, false, false, false, false, false, false] rfl rfl (one_of HT_.out (by kernel_rfl)) (by decide) (fun K hK => ?_)
    refine Kd.N_lit_step (Kd.slice 51 k51) _ 23 ?hg (N' := 38) ?hd (xs := ([t389] : List (List (S51)))) (inner := [.slice Ao41 t389.length co41]) (ok := (fun k_ => k_ ≠ gb364 ∧ k_ ≠ gb371)) (okp := (fun k_ => k_ ≠ gb364 ∧ k_ ≠ gb371)) ?hr ?hp (fun _ hk => hk) ((show ∀ k_, w40.heap.size ≤ k_ → (fun k_ => k_ ≠ gb364 ∧ k_ ≠ gb371) k_ from fun k_ hk => ⟨Kd.freshB (g := gb364) (o := .cells #[.slice A2_0 l2_0.length c2_0, .slice A2_1 l2_1.length c2_1] 40 (0, 0)) (by (with_reducible repeat (first | refine blk_drewN ?_ _ | refine blk_drew ?_ | refine blk_alloc ?_ _)); exact BK364.out) k_ hk, Kd.freshB (g := gb371) (o := .cells #[.slice Ao12 t365.length co12, .slice Ao15 t368.length co15] 43 (0, 0)) (by (with_reducible repeat (first | refine blk_drewN ?_ _ | refine blk_drew ?_ | refine blk_alloc ?_ _)); exact BK371.out) k_ hk⟩) _ (Nat.le_refl _)) (Below.refl _ _) (Nat.le_refl _) (by simp) ?_; (case hd => rfl); (case hg => rfl); (case hr => first | (go_simp; done) | (go_simp; rfl)); (case hp => exact (Reps.one (show Kd.FK (Kd.slice 51 k51) _ _ t389 [.slice Ao41 t389.length co41] from (Kd.FK_slice_mk (Kd.V_reads' (Kd.V_mono (ok' := (fun k_ => k_ ≠ gb364 ∧ k_ ≠ gb371)) (HO391.out) (fun k_ hk => by first | exact ⟨hk.1, hk.2⟩ | exact hk))).2.1 (Kd.V_F (Kd.V_mono (ok' := (fun k_ => k_ ≠ gb364 ∧ k_ ≠ gb371)) (HO391.out) (fun k_ hk => by first | exact ⟨hk.1, hk.2⟩ | exact hk))))) (Reps.none _ _)))
    intro v393 w42 ho43 hb hg_ hnew_
    clear hg_ hnew_
    (first | rw [← Ny392.out] at ho43 | (simp only [Int.reduceToNat] at ho43; rw [← Ny392.out] at ho43))
    have n0_ := Aside0.mk (Kd.V_elder' (by (with_reducible repeat (first | apply Kd.V_alloc | apply Kd.V_drewN | apply Kd.V_drew)); exact HO_8.out) (by first | exact Kd.N_base ho43 | exact Kd.S_base ho43 | exact Kd.R_base ho43) hb)
    have n1_ := Aside0.mk (Kd.V_elder' (by (with_reducible repeat (first | apply Kd.V_alloc | apply Kd.V_drewN | apply Kd.V_drew)); exact HO_9.out) (by first | exact Kd.N_base ho43 | exact Kd.S_base ho43 | exact Kd.R_base ho43) hb)
    have n2_ := Aside0.mk (Kd.N_elder' (by (with_reducible repeat (first | apply Kd.N_alloc | apply Kd.N_drewN | apply Kd.N_drew)); exact HO_372000.out) (by first | exact Kd.N_base ho43 | exact Kd.S_base ho43 | exact Kd.R_base ho43) hb)
    have n3_ := Aside0.mk (Kd.N_elder' (by (with_reducible repeat (first | apply Kd.N_alloc | apply Kd.N_drewN | apply Kd.N_drew)); exact HO_372001.out) (by first | exact Kd.N_base ho43 | exact Kd.S_base ho43 | exact Kd.R_base ho43) hb)
    have n4_ := Aside0.mk (Kd.N_elder' (by (with_reducible repeat (first | apply Kd.N_alloc | apply Kd.N_drewN | apply Kd.N_drew)); exact HO388.out) (by first | exact Kd.N_base ho43 | exact Kd.S_base ho43 | exact Kd.R_base ho43) hb)
    have n5_ := Aside0.mk (Kd.V_elder' (by (with_reducible repeat (first | apply Kd.V_alloc | apply Kd.V_drewN | apply Kd.V_drew)); exact HO391.out) (by first | exact Kd.N_base ho43 | exact Kd.S_base ho43 | exact Kd.R_base ho43) hb)
    have n6_ := Aside0.mk (Kd.N_lower ho43 (below_size (by repeat (first | (with_reducible first | exact HB.out | apply below_alloc | apply pw_below_drewN | apply below_drew1 | refine below_set ?_ GE364.out | refine below_set ?_ GE371.out) | exact HB.out))))
    have n7_ := Aside0.mk (blk_below (g := gb364) (o := .cells #[.slice A2_0 l2_0.length c2_0, .slice A2_1 l2_1.length c2_1] 40 (0, 0)) (by (with_reducible repeat (first | refine blk_drewN ?_ _ | refine blk_drew ?_ | refine blk_alloc ?_ _)); exact BK364.out) hb)
    have n8_ := Aside0.mk (blk_below (g := gb371) (o := .cells #[.slice Ao12 t365.length co12, .slice Ao15 t368.length co15] 43 (0, 0)) (by (with_reducible repeat (first | refine blk_drewN ?_ _ | refine blk_drew ?_ | refine blk_alloc ?_ _)); exact BK371.out) hb)
    have n9_ := Aside0.mk (below_step (by repeat (first | (with_reducible first | exact HB.out | apply below_alloc | apply pw_below_drewN | apply below_drew1 | refine below_set ?_ GE364.out | refine below_set ?_ GE371.out) | exact HB.out)) hb)
    clear HO_8
    clear HO_9
    clear HO_372000
    clear HO_372001
    clear HO388
    clear HO391
    clear BK364
    clear BK371
    clear HB
    have HO_8 := n0_
    have HO_9 := n1_
    have HO_372000 := n2_
    have HO_372001 := n3_
    have HO388 := n4_
    have HO391 := n5_
    have HO394 := n6_
    have BK364 := n7_
    have BK371 := n8_
    have HB := n9_
    clear n0_ n1_ n2_ n3_ n4_ n5_ n6_ n7_ n8_ n9_
    clear hb ho43
    obtain ⟨Ao44, co44, eo44⟩ := Kd.N_slice HO394.out
    (first | subst eo44 | (injection eo44 with f1_ f2_ f3_; have f4_ := f1_.symm; have f5_ := f3_.symm; clear f1_ f2_ f3_; subst f4_; subst f5_))
    refine hK.out _ _ ⟨(blk_cell BK371.out 0).trans rfl, (blk_cell BK371.out 1).trans rfl⟩ (fun hHeld => ?_)
    clear hK K
    refine norm_ (a' := ?_) ?_ ?_
    rotate_left
    ·
     show Act.put _ (some 38) _ = _
     simp only [Act.put, List.setIfInBounds_toArray, List.set_cons_zero, List.set_cons_succ, i64_w, i32_w]
     rfl
    refine one_ (i := 4) (N := some 39) #[true, true, true, true, true, false, false, true, false, false, false, false, false, false] rfl rfl (one_of HT_.out (by kernel_rfl)) (by decide) (fun K hK => ?_)
    refine goes_ Tryd.func21 (by kernel_rfl) rfl #[.int .i64 17, .slice Ao44 y392.length co44] (by rfl) rfl rfl (by (try simp only [List.map_toArray, List.map_cons, List.map_nil]); first | done | rfl | (simp only [List.length_drop, List.length_take]; rfl)) ?_
    with_reducible refine (foretellkeep_joined.calls kj6 17 _ _ y392 t395 _ ?side1 ?side2 A31.out).mono ?_
    (case side1 => repeat (first | exact (Kd.N_reads' HO394.out).2.2 | (with_reducible refine Kd.C_alloc ?_ _) | (with_reducible refine Kd.C_drewN ?_ _) | (with_reducible refine Kd.C_drew ?_)))
    (case side2 => exact (Kd.N_reads' HO394.out).2.1)
    rintro e w45 ⟨v396, rfl, ho0, hb⟩
    refine ⟨_, rfl, ?_⟩
    have n0_ := Aside0.mk (Kd.V_below (by (with_reducible repeat (first | apply Kd.V_alloc | apply Kd.V_drewN | apply Kd.V_drew)); exact HO_8.out) hb)
    have n1_ := Aside0.mk (Kd.V_below (by (with_reducible repeat (first | apply Kd.V_alloc | apply Kd.V_drewN | apply Kd.V_drew)); exact HO_9.out) hb)
    have n2_ := Aside0.mk (Kd.N_below (by (with_reducible repeat (first | apply Kd.N_alloc | apply Kd.N_drewN | apply Kd.N_drew)); exact HO_372000.out) hb)
    have n3_ := Aside0.mk (Kd.N_below (by (with_reducible repeat (first | apply Kd.N_alloc | apply Kd.N_drewN | apply Kd.N_drew)); exact HO_372001.out) hb)
    have n4_ := Aside0.mk (Kd.N_below (by (with_reducible repeat (first | apply Kd.N_alloc | apply Kd.N_drewN | apply Kd.N_drew)); exact HO388.out) hb)
    have n5_ := Aside0.mk (Kd.V_below (by (with_reducible repeat (first | apply Kd.V_alloc | apply Kd.V_drewN | apply Kd.V_drew)); exact HO391.out) hb)
    have n6_ := Aside0.mk (Kd.N_below (by (with_reducible repeat (first | apply Kd.N_alloc | apply Kd.N_drewN | apply Kd.N_drew)); exact HO394.out) hb)
    have n7_ := Aside0.mk (Kd.V_lower (Kd.V_mono (ok' := fun k_ => k_ ≠ gb364 ∧ k_ ≠ gb371) (Kd.R_V (Kd.R_bound ho0)) (fun k_ hk_ => ⟨(Kd.freshB (g := gb364) (o := .cells #[.slice A2_0 l2_0.length c2_0, .slice A2_1 l2_1.length c2_1] 40 (0, 0)) (by (with_reducible repeat (first | refine blk_drewN ?_ _ | refine blk_drew ?_ | refine blk_alloc ?_ _)); exact BK364.out) k_ hk_.2.1), (Kd.freshB (g := gb371) (o := .cells #[.slice Ao12 t365.length co12, .slice Ao15 t368.length co15] 43 (0, 0)) (by (with_reducible repeat (first | refine blk_drewN ?_ _ | refine blk_drew ?_ | refine blk_alloc ?_ _)); exact BK371.out) k_ hk_.2.1)⟩)) (below_size (by repeat (first | (with_reducible first | exact HB.out | apply below_alloc | apply pw_below_drewN | apply below_drew1 | refine below_set ?_ GE364.out | refine below_set ?_ GE371.out) | exact HB.out))))
    have n8_ := Aside0.mk (blk_below (g := gb364) (o := .cells #[.slice A2_0 l2_0.length c2_0, .slice A2_1 l2_1.length c2_1] 40 (0, 0)) (by (with_reducible repeat (first | refine blk_drewN ?_ _ | refine blk_drew ?_ | refine blk_alloc ?_ _)); exact BK364.out) hb)
    have n9_ := Aside0.mk (blk_below (g := gb371) (o := .cells #[.slice Ao12 t365.length co12, .slice Ao15 t368.length co15] 43 (0, 0)) (by (with_reducible repeat (first | refine blk_drewN ?_ _ | refine blk_drew ?_ | refine blk_alloc ?_ _)); exact BK371.out) hb)
    have n10_ := Aside0.mk (below_step (by repeat (first | (with_reducible first | exact HB.out | apply below_alloc | apply pw_below_drewN | apply below_drew1 | refine below_set ?_ GE364.out | refine below_set ?_ GE371.out) | exact HB.out)) hb)
    clear HO_8
    clear HO_9
    clear HO_372000
    clear HO_372001
    clear HO388
    clear HO391
    clear HO394
    clear BK364
    clear BK371
    clear HB
    have HO_8 := n0_
    have HO_9 := n1_
    have HO_372000 := n2_
    have HO_372001 := n3_
    have HO388 := n4_
    have HO391 := n5_
    have HO394 := n6_
    have HO397 := n7_
    have BK364 := n8_
    have BK371 := n9_
    have HB := n10_
    clear n0_ n1_ n2_ n3_ n4_ n5_ n6_ n7_ n8_ n9_ n10_
    (try clear hb)
    (try clear hb2)
    (try clear hk)
    (try clear hi)
    (try clear ho0)
    obtain ⟨Ao46, co46, eo46⟩ := Kd.V_slice HO397.out
    (first | subst eo46 | (injection eo46 with f1_ f2_ f3_; have f4_ := f1_.symm; have f5_ := f3_.symm; clear f1_ f2_ f3_; subst f4_; subst f5_))
    refine hK.out _ _ ⟨(blk_cell BK371.out 0).trans rfl, (blk_cell BK371.out 1).trans rfl⟩ (fun hHeld => ?_)
    clear hK K
    refine norm_ (a' := ?_) ?_ ?_
    rotate_left
    ·
     show Act.put _ (some 39) _ = _
     simp only [Act.put, List.setIfInBounds_toArray, List.set_cons_zero, List.set_cons_succ, i64_w, i32_w]
     rfl
    refine one_ (i := 5) (N := some 40) #[true, true, true, true, true, true, false, true, false, false, false, false, false, false] rfl rfl (one_of HT_.out (by kernel_rfl)) (by decide) (fun K hK => ?_)
    refine Kd.N_lit_step (Kd.slice 51 k51) _ 23 ?hg (N' := 40) ?hd (xs := ([t395] : List (List (S51)))) (inner := [.slice Ao46 t395.length co46]) (ok := (fun k_ => k_ ≠ gb364 ∧ k_ ≠ gb371)) (okp := (fun k_ => k_ ≠ gb364 ∧ k_ ≠ gb371)) ?hr ?hp (fun _ hk => hk) ((show ∀ k_, w45.heap.size ≤ k_ → (fun k_ => k_ ≠ gb364 ∧ k_ ≠ gb371) k_ from fun k_ hk => ⟨Kd.freshB (g := gb364) (o := .cells #[.slice A2_0 l2_0.length c2_0, .slice A2_1 l2_1.length c2_1] 40 (0, 0)) (by (with_reducible repeat (first | refine blk_drewN ?_ _ | refine blk_drew ?_ | refine blk_alloc ?_ _)); exact BK364.out) k_ hk, Kd.freshB (g := gb371) (o := .cells #[.slice Ao12 t365.length co12, .slice Ao15 t368.length co15] 43 (0, 0)) (by (with_reducible repeat (first | refine blk_drewN ?_ _ | refine blk_drew ?_ | refine blk_alloc ?_ _)); exact BK371.out) k_ hk⟩) _ (Nat.le_refl _)) (Below.refl _ _) (Nat.le_refl _) (by simp) ?_; (case hd => rfl); (case hg => rfl); (case hr => first | (go_simp; done) | (go_simp; rfl)); (case hp => exact (Reps.one (show Kd.FK (Kd.slice 51 k51) _ _ t395 [.slice Ao46 t395.length co46] from (Kd.FK_slice_mk (Kd.V_reads' (Kd.V_mono (ok' := (fun k_ => k_ ≠ gb364 ∧ k_ ≠ gb371)) (HO397.out) (fun k_ hk => by first | exact ⟨hk.1, hk.2⟩ | exact hk))).2.1 (Kd.V_F (Kd.V_mono (ok' := (fun k_ => k_ ≠ gb364 ∧ k_ ≠ gb371)) (HO397.out) (fun k_ hk => by first | exact ⟨hk.1, hk.2⟩ | exact hk))))) (Reps.none _ _)))
    intro v399 w47 ho48 hb hg_ hnew_
    clear hg_ hnew_
    (first | rw [← Ny398.out] at ho48 | (simp only [Int.reduceToNat] at ho48; rw [← Ny398.out] at ho48))
    have n0_ := Aside0.mk (Kd.V_elder' (by (with_reducible repeat (first | apply Kd.V_alloc | apply Kd.V_drewN | apply Kd.V_drew)); exact HO_8.out) (by first | exact Kd.N_base ho48 | exact Kd.S_base ho48 | exact Kd.R_base ho48) hb)
    have n1_ := Aside0.mk (Kd.V_elder' (by (with_reducible repeat (first | apply Kd.V_alloc | apply Kd.V_drewN | apply Kd.V_drew)); exact HO_9.out) (by first | exact Kd.N_base ho48 | exact Kd.S_base ho48 | exact Kd.R_base ho48) hb)
    have n2_ := Aside0.mk (Kd.N_elder' (by (with_reducible repeat (first | apply Kd.N_alloc | apply Kd.N_drewN | apply Kd.N_drew)); exact HO_372000.out) (by first | exact Kd.N_base ho48 | exact Kd.S_base ho48 | exact Kd.R_base ho48) hb)
    have n3_ := Aside0.mk (Kd.N_elder' (by (with_reducible repeat (first | apply Kd.N_alloc | apply Kd.N_drewN | apply Kd.N_drew)); exact HO_372001.out) (by first | exact Kd.N_base ho48 | exact Kd.S_base ho48 | exact Kd.R_base ho48) hb)
    have n4_ := Aside0.mk (Kd.N_elder' (by (with_reducible repeat (first | apply Kd.N_alloc | apply Kd.N_drewN | apply Kd.N_drew)); exact HO388.out) (by first | exact Kd.N_base ho48 | exact Kd.S_base ho48 | exact Kd.R_base ho48) hb)
    have n5_ := Aside0.mk (Kd.V_elder' (by (with_reducible repeat (first | apply Kd.V_alloc | apply Kd.V_drewN | apply Kd.V_drew)); exact HO391.out) (by first | exact Kd.N_base ho48 | exact Kd.S_base ho48 | exact Kd.R_base ho48) hb)
    have n6_ := Aside0.mk (Kd.N_elder' (by (with_reducible repeat (first | apply Kd.N_alloc | apply Kd.N_drewN | apply Kd.N_drew)); exact HO394.out) (by first | exact Kd.N_base ho48 | exact Kd.S_base ho48 | exact Kd.R_base ho48) hb)
    have n7_ := Aside0.mk (Kd.V_elder' (by (with_reducible repeat (first | apply Kd.V_alloc | apply Kd.V_drewN | apply Kd.V_drew)); exact HO397.out) (by first | exact Kd.N_base ho48 | exact Kd.S_base ho48 | exact Kd.R_base ho48) hb)
    have n8_ := Aside0.mk (Kd.N_lower ho48 (below_size (by repeat (first | (with_reducible first | exact HB.out | apply below_alloc | apply pw_below_drewN | apply below_drew1 | refine below_set ?_ GE364.out | refine below_set ?_ GE371.out) | exact HB.out))))
    have n9_ := Aside0.mk (blk_below (g := gb364) (o := .cells #[.slice A2_0 l2_0.length c2_0, .slice A2_1 l2_1.length c2_1] 40 (0, 0)) (by (with_reducible repeat (first | refine blk_drewN ?_ _ | refine blk_drew ?_ | refine blk_alloc ?_ _)); exact BK364.out) hb)
    have n10_ := Aside0.mk (blk_below (g := gb371) (o := .cells #[.slice Ao12 t365.length co12, .slice Ao15 t368.length co15] 43 (0, 0)) (by (with_reducible repeat (first | refine blk_drewN ?_ _ | refine blk_drew ?_ | refine blk_alloc ?_ _)); exact BK371.out) hb)
    have n11_ := Aside0.mk (below_step (by repeat (first | (with_reducible first | exact HB.out | apply below_alloc | apply pw_below_drewN | apply below_drew1 | refine below_set ?_ GE364.out | refine below_set ?_ GE371.out) | exact HB.out)) hb)
    clear HO_8
    clear HO_9
    clear HO_372000
    clear HO_372001
    clear HO388
    clear HO391
    clear HO394
    clear HO397
    clear BK364
    clear BK371
    clear HB
    have HO_8 := n0_
    have HO_9 := n1_
    have HO_372000 := n2_
    have HO_372001 := n3_
    have HO388 := n4_
    have HO391 := n5_
    have HO394 := n6_
    have HO397 := n7_
    have HO400 := n8_
    have BK364 := n9_
    have BK371 := n10_
    have HB := n11_
    clear n0_ n1_ n2_ n3_ n4_ n5_ n6_ n7_ n8_ n9_ n10_ n11_
    clear hb ho48
    obtain ⟨Ao49, co49, eo49⟩ := Kd.N_slice HO400.out
    (first | subst eo49 | (injection eo49 with f1_ f2_ f3_; have f4_ := f1_.symm; have f5_ := f3_.symm; clear f1_ f2_ f3_; subst f4_; subst f5_))
    refine hK.out _ _ ⟨(blk_cell BK371.out 0).trans rfl, (blk_cell BK371.out 1).trans rfl⟩ (fun hHeld => ?_)
    clear hK K
    refine norm_ (a' := ?_) ?_ ?_
    rotate_left
    ·
     show Act.put _ (some 40) _ = _
     simp only [Act.put, List.setIfInBounds_toArray, List.set_cons_zero, List.set_cons_succ, i64_w, i32_w]
     rfl
    refine one_ (i := 6) (N := some 41) #[true, true, true, true, true, true, true, true, false, false, false, false, false, false] rfl rfl (one_of HT_.out (by kernel_rfl)) (by decide) (fun K hK => ?_)
    refine goes_ Tryd.func21 (by kernel_rfl) rfl #[.int .i64 10, .slice Ao49 y398.length co49] (by rfl) rfl rfl (by (try simp only [List.map_toArray, List.map_cons, List.map_nil]); first | done | rfl | (simp only [List.length_drop, List.length_take]; rfl)) ?_
    with_reducible refine (foretellkeep_joined.calls kj6 10 _ _ y398 t401 _ ?side1 ?side2 A32.out).mono ?_
    (case side1 => repeat (first | exact (Kd.N_reads' HO400.out).2.2 | (with_reducible refine Kd.C_alloc ?_ _) | (with_reducible refine Kd.C_drewN ?_ _) | (with_reducible refine Kd.C_drew ?_)))
    (case side2 => exact (Kd.N_reads' HO400.out).2.1)
    rintro e w50 ⟨v402, rfl, ho0, hb⟩
    refine ⟨_, rfl, ?_⟩
    have n0_ := Aside0.mk (Kd.V_below (by (with_reducible repeat (first | apply Kd.V_alloc | apply Kd.V_drewN | apply Kd.V_drew)); exact HO_8.out) hb)
    have n1_ := Aside0.mk (Kd.V_below (by (with_reducible repeat (first | apply Kd.V_alloc | apply Kd.V_drewN | apply Kd.V_drew)); exact HO_9.out) hb)
    have n2_ := Aside0.mk (Kd.N_below (by (with_reducible repeat (first | apply Kd.N_alloc | apply Kd.N_drewN | apply Kd.N_drew)); exact HO_372000.out) hb)
    have n3_ := Aside0.mk (Kd.N_below (by (with_reducible repeat (first | apply Kd.N_alloc | apply Kd.N_drewN | apply Kd.N_drew)); exact HO_372001.out) hb)
    have n4_ := Aside0.mk (Kd.N_below (by (with_reducible repeat (first | apply Kd.N_alloc | apply Kd.N_drewN | apply Kd.N_drew)); exact HO388.out) hb)
    have n5_ := Aside0.mk (Kd.V_below (by (with_reducible repeat (first | apply Kd.V_alloc | apply Kd.V_drewN | apply Kd.V_drew)); exact HO391.out) hb)
    have n6_ := Aside0.mk (Kd.N_below (by (with_reducible repeat (first | apply Kd.N_alloc | apply Kd.N_drewN | apply Kd.N_drew)); exact HO394.out) hb)
    have n7_ := Aside0.mk (Kd.V_below (by (with_reducible repeat (first | apply Kd.V_alloc | apply Kd.V_drewN | apply Kd.V_drew)); exact HO397.out) hb)
    have n8_ := Aside0.mk (Kd.N_below (by (with_reducible repeat (first | apply Kd.N_alloc | apply Kd.N_drewN | apply Kd.N_drew)); exact HO400.out) hb)
    have n9_ := Aside0.mk (Kd.V_lower (Kd.V_mono (ok' := fun k_ => k_ ≠ gb364 ∧ k_ ≠ gb371) (Kd.R_V (Kd.R_bound ho0)) (fun k_ hk_ => ⟨(Kd.freshB (g := gb364) (o := .cells #[.slice A2_0 l2_0.length c2_0, .slice A2_1 l2_1.length c2_1] 40 (0, 0)) (by (with_reducible repeat (first | refine blk_drewN ?_ _ | refine blk_drew ?_ | refine blk_alloc ?_ _)); exact BK364.out) k_ hk_.2.1), (Kd.freshB (g := gb371) (o := .cells #[.slice Ao12 t365.length co12, .slice Ao15 t368.length co15] 43 (0, 0)) (by (with_reducible repeat (first | refine blk_drewN ?_ _ | refine blk_drew ?_ | refine blk_alloc ?_ _)); exact BK371.out) k_ hk_.2.1)⟩)) (below_size (by repeat (first | (with_reducible first | exact HB.out | apply below_alloc | apply pw_below_drewN | apply below_drew1 | refine below_set ?_ GE364.out | refine below_set ?_ GE371.out) | exact HB.out))))
    have n10_ := Aside0.mk (blk_below (g := gb364) (o := .cells #[.slice A2_0 l2_0.length c2_0, .slice A2_1 l2_1.length c2_1] 40 (0, 0)) (by (with_reducible repeat (first | refine blk_drewN ?_ _ | refine blk_drew ?_ | refine blk_alloc ?_ _)); exact BK364.out) hb)
    have n11_ := Aside0.mk (blk_below (g := gb371) (o := .cells #[.slice Ao12 t365.length co12, .slice Ao15 t368.length co15] 43 (0, 0)) (by (with_reducible repeat (first | refine blk_drewN ?_ _ | refine blk_drew ?_ | refine blk_alloc ?_ _)); exact BK371.out) hb)
    have n12_ := Aside0.mk (below_step (by repeat (first | (with_reducible first | exact HB.out | apply below_alloc | apply pw_below_drewN | apply below_drew1 | refine below_set ?_ GE364.out | refine below_set ?_ GE371.out) | exact HB.out)) hb)
    clear HO_8
    clear HO_9
    clear HO_372000
    clear HO_372001
    clear HO388
    clear HO391
    clear HO394
    clear HO397
    clear HO400
    clear BK364
    clear BK371
    clear HB
    have HO_8 := n0_
    have HO_9 := n1_
    have HO_372000 := n2_
    have HO_372001 := n3_
    have HO388 := n4_
    have HO391 := n5_
    have HO394 := n6_
    have HO397 := n7_
    have HO400 := n8_
    have HO403 := n9_
    have BK364 := n10_
    have BK371 := n11_
    have HB := n12_
    clear n0_ n1_ n2_ n3_ n4_ n5_ n6_ n7_ n8_ n9_ n10_ n11_ n12_
    (try clear hb)
    (try clear hb2)
    (try clear hk)
    (try clear hi)
    (try clear ho0)
    obtain ⟨Ao51, co51, eo51⟩ := Kd.V_slice HO403.out
    (first | subst eo51 | (injection eo51 with f1_ f2_ f3_; have f4_ := f1_.symm; have f5_ := f3_.symm; clear f1_ f2_ f3_; subst f4_; subst f5_))
    refine hK.out _ _ ⟨(blk_cell BK371.out 0).trans rfl, (blk_cell BK371.out 1).trans rfl⟩ (fun hHeld => ?_)
    clear hK K
    refine norm_ (a' := ?_) ?_ ?_
    rotate_left
    ·
     show Act.put _ (some 41) _ = _
     simp only [Act.put, List.setIfInBounds_toArray, List.set_cons_zero, List.set_cons_succ, i64_w, i32_w]
     rfl
    refine one_ (i := 8) (N := some 43) #[true, true, true, true, true, true, true, true, true, false, false, false, false, false] rfl rfl (one_of HT_.out (by kernel_rfl)) (by decide) (fun K hK => ?_)
    refine goes_ Tryd.func25 (by kernel_rfl) rfl #[.slice Ao51 t401.length co51, .agg #[.slice Ao12 t365.length co12, .slice Ao15 t368.length co15]] (by rfl) rfl rfl (by (try simp only [List.map_toArray, List.map_cons, List.map_nil]); first | done | rfl | (simp only [List.length_drop, List.length_take]; rfl)) ?_
    with_reducible refine (foretellkeep_holds.calls kj6 _ _ t401 _ _ t365 _ _ t368 t404 t405 _ ?side1 ?side2 ?side3 ?side4 ?side5 ?side6 ?side7 A33.out).mono ?_
    (case side1 => repeat (first | exact (Kd.V_reads' HO403.out).2.2 | (with_reducible refine Kd.C_alloc ?_ _) | (with_reducible refine Kd.C_drewN ?_ _) | (with_reducible refine Kd.C_drew ?_)))
    (case side2 => exact (Kd.V_reads' HO403.out).2.1)
    (case side3 => repeat (first | exact (Kd.N_reads' HO_372000.out).2.2 | (with_reducible refine Kd.C_alloc ?_ _) | (with_reducible refine Kd.C_drewN ?_ _) | (with_reducible refine Kd.C_drew ?_)))
    (case side4 => exact (Kd.N_reads' HO_372000.out).2.1)
    (case side5 => repeat (first | exact (Kd.N_reads' HO_372001.out).2.2 | (with_reducible refine Kd.C_alloc ?_ _) | (with_reducible refine Kd.C_drewN ?_ _) | (with_reducible refine Kd.C_drew ?_)))
    (case side6 => exact (Kd.N_reads' HO_372001.out).2.1)
    (case side7 => first | exact hG_ | exact Glob.drewN hG_ _ | exact Glob.below hG_ (by repeat (first | (with_reducible first | exact HB.out | apply below_alloc | apply pw_below_drewN | apply below_drew1 | refine below_set ?_ GE364.out | refine below_set ?_ GE371.out) | exact HB.out)))
    rintro e w52 ⟨rfl, hb⟩
    refine ⟨_, rfl, ?_⟩
    have n0_ := Aside0.mk (Kd.V_below (by (with_reducible repeat (first | apply Kd.V_alloc | apply Kd.V_drewN | apply Kd.V_drew)); exact HO_8.out) hb)
    have n1_ := Aside0.mk (Kd.V_below (by (with_reducible repeat (first | apply Kd.V_alloc | apply Kd.V_drewN | apply Kd.V_drew)); exact HO_9.out) hb)
    have n2_ := Aside0.mk (Kd.N_below (by (with_reducible repeat (first | apply Kd.N_alloc | apply Kd.N_drewN | apply Kd.N_drew)); exact HO_372000.out) hb)
    have n3_ := Aside0.mk (Kd.N_below (by (with_reducible repeat (first | apply Kd.N_alloc | apply Kd.N_drewN | apply Kd.N_drew)); exact HO_372001.out) hb)
    have n4_ := Aside0.mk (Kd.N_below (by (with_reducible repeat (first | apply Kd.N_alloc | apply Kd.N_drewN | apply Kd.N_drew)); exact HO388.out) hb)
    have n5_ := Aside0.mk (Kd.V_below (by (with_reducible repeat (first | apply Kd.V_alloc | apply Kd.V_drewN | apply Kd.V_drew)); exact HO391.out) hb)
    have n6_ := Aside0.mk (Kd.N_below (by (with_reducible repeat (first | apply Kd.N_alloc | apply Kd.N_drewN | apply Kd.N_drew)); exact HO394.out) hb)
    have n7_ := Aside0.mk (Kd.V_below (by (with_reducible repeat (first | apply Kd.V_alloc | apply Kd.V_drewN | apply Kd.V_drew)); exact HO397.out) hb)
    have n8_ := Aside0.mk (Kd.N_below (by (with_reducible repeat (first | apply Kd.N_alloc | apply Kd.N_drewN | apply Kd.N_drew)); exact HO400.out) hb)
    have n9_ := Aside0.mk (Kd.V_below (by (with_reducible repeat (first | apply Kd.V_alloc | apply Kd.V_drewN | apply Kd.V_drew)); exact HO403.out) hb)
    have n10_ := Aside0.mk (blk_below (g := gb364) (o := .cells #[.slice A2_0 l2_0.length c2_0, .slice A2_1 l2_1.length c2_1] 40 (0, 0)) (by (with_reducible repeat (first | refine blk_drewN ?_ _ | refine blk_drew ?_ | refine blk_alloc ?_ _)); exact BK364.out) hb)
    have n11_ := Aside0.mk (blk_below (g := gb371) (o := .cells #[.slice Ao12 t365.length co12, .slice Ao15 t368.length co15] 43 (0, 0)) (by (with_reducible repeat (first | refine blk_drewN ?_ _ | refine blk_drew ?_ | refine blk_alloc ?_ _)); exact BK371.out) hb)
    have n12_ := Aside0.mk (below_step (by repeat (first | (with_reducible first | exact HB.out | apply below_alloc | apply pw_below_drewN | apply below_drew1 | refine below_set ?_ GE364.out | refine below_set ?_ GE371.out) | exact HB.out)) hb)
    clear HO_8
    clear HO_9
    clear HO_372000
    clear HO_372001
    clear HO388
    clear HO391
    clear HO394
    clear HO397
    clear HO400
    clear HO403
    clear BK364
    clear BK371
    clear HB
    have HO_8 := n0_
    have HO_9 := n1_
    have HO_372000 := n2_
    have HO_372001 := n3_
    have HO388 := n4_
    have HO391 := n5_
    have HO394 := n6_
    have HO397 := n7_
    have HO400 := n8_
    have HO403 := n9_
    have BK364 := n10_
    have BK371 := n11_
    have HB := n12_
    clear n0_ n1_ n2_ n3_ n4_ n5_ n6_ n7_ n8_ n9_ n10_ n11_ n12_
    (try clear hb)
    (try clear hb2)
    (try clear hk)
    (try clear hi)
    refine hK.out _ _ ⟨(blk_cell BK371.out 0).trans rfl, (blk_cell BK371.out 1).trans rfl⟩ (fun hHeld => ?_)
    clear hK K
    refine norm_ (a' := ?_) ?_ ?_
    rotate_left
    ·
     show Act.put _ (some 43) _ = _
     simp only [Act.put, List.setIfInBounds_toArray, List.set_cons_zero, List.set_cons_succ, i64_w, i32_w]
     rfl
    refine pure_ (i := 9) (N := some 34) (v := ?_) (a' := ?_) #[true, true, true, true, true, true, true, true, true, true, false, false, false, false] rfl rfl (any_of HT_.out (by kernel_rfl)) (fun _ _ _ h => h) (Or.inl ⟨by rfl, ?_⟩) ?_ ?_
    rotate_left
    ·
     intro w'
     go_simp
     with_reducible rfl
    rotate_left
    ·
     simp only [Act.put, List.setIfInBounds_toArray, List.set_cons_zero, List.set_cons_succ, i64_w, i32_w]
     rfl
    refine pure_ (i := 10) (N := some 44) (v := ?_) (a' := ?_) #[true, true, true, true, true, true, true, true, true, true, true, false, false, false] rfl rfl (any_of HT_.out (by kernel_rfl)) (fun _ _ _ h => h) (Or.inl ⟨by rfl, ?_⟩) ?_ ?_
    rotate_left
    ·
     intro w'
     go_simp
     with_reducible rfl
    rotate_left
    ·
     simp only [Act.put, List.setIfInBounds_toArray, List.set_cons_zero, List.set_cons_succ, i64_w, i32_w]
     rfl
    refine pure_ (i := 11) (N := some 45) (v := ?_) (a' := ?_) #[true, true, true, true, true, true, true, true, true, true, true, true, false, false] rfl rfl (any_of HT_.out (by kernel_rfl)) (fun _ _ _ h => h) (Or.inl ⟨by rfl, ?_⟩) ?_ ?_
    rotate_left
    ·
     intro w'
     go_simp
     with_reducible rfl
    rotate_left
    ·
     simp only [Act.put, List.setIfInBounds_toArray, List.set_cons_zero, List.set_cons_succ, i64_w, i32_w]
     rfl
    refine pure_ (i := 12) (N := some 12) (v := ?_) (a' := ?_) #[true, true, true, true, true, true, true, true, true, true, true, true, true, false] rfl rfl (any_of HT_.out (by kernel_rfl)) (fun _ _ _ h => h) (Or.inl ⟨by rfl, ?_⟩) ?_ ?_
    rotate_left
    ·
     intro w'
     go_simp
     with_reducible rfl
    rotate_left
    ·
     simp only [Act.put, List.setIfInBounds_toArray, List.set_cons_zero, List.set_cons_succ, i64_w, i32_w]
     rfl
    refine pure_ (i := 13) (N := some 13) (v := ?_) (a' := ?_) #[true, true, true, true, true, true, true, true, true, true, true, true, true, true] rfl rfl (any_of HT_.out (by kernel_rfl)) (fun _ _ _ h => h) (Or.inl ⟨by rfl, ?_⟩) ?_ ?_
    rotate_left
    ·
     intro w'
     go_simp
     with_reducible rfl
    rotate_left
    ·
     simp only [Act.put, List.setIfInBounds_toArray, List.set_cons_zero, List.set_cons_succ, i64_w, i32_w]
     rfl
    refine done_ (done_of HT_.out (by kernel_rfl)) ?_
    try go_wp2
    go_meet
    case rel => exact ⟨_, (t404), (t405), (by first | rfl | (simp; done) | (simp [*]; done)), (by first | rfl | (simp; done) | (simp [*]; done)), H', ⟨by have := HJ6.out; first | omega | exact Nat.le_refl _⟩, ⟨by (with_reducible repeat (first | apply Kd.V_alloc | apply Kd.V_drewN | apply Kd.V_drew)); exact Kd.V_mono HO_8.out (fun _ hk => by first | exact ⟨hk.1.1.1.1, hk.1.1.1.2⟩ | exact hk.1 | exact hk)⟩, ⟨by (with_reducible repeat (first | apply Kd.V_alloc | apply Kd.V_drewN | apply Kd.V_drew)); exact Kd.V_mono HO_9.out (fun _ hk => by first | exact ⟨hk.1.1.1.1, hk.1.1.1.2⟩ | exact hk.1 | exact hk)⟩, ⟨by (with_reducible repeat (first | apply Kd.N_alloc | apply Kd.N_drewN | apply Kd.N_drew)); exact Kd.N_mono HO_372000.out (fun _ hk => by first | exact ⟨hk.1.1.1.1, ⟨hk.1.1.1.2.1, hk.1.1.1.2.2⟩⟩ | exact hk.1 | exact hk)⟩, ⟨by (with_reducible repeat (first | apply Kd.N_alloc | apply Kd.N_drewN | apply Kd.N_drew)); exact Kd.N_mono HO_372001.out (fun _ hk => by first | exact ⟨hk.1.1.1.1, ⟨hk.1.1.1.2.1, hk.1.1.1.2.2⟩⟩ | exact hk.1 | exact hk)⟩, ⟨by (with_reducible repeat (first | refine blk_drewN ?_ _ | refine blk_drew ?_ | refine blk_alloc ?_ _)); exact BK364.out⟩, ⟨by (with_reducible repeat (first | refine blk_drewN ?_ _ | refine blk_drew ?_ | refine blk_alloc ?_ _)); exact BK371.out⟩, ⟨by repeat (first | (with_reducible first | exact HB.out | apply below_alloc | apply pw_below_drewN | apply below_drew1 | refine below_set ?_ GE364.out | refine below_set ?_ GE371.out) | exact HB.out)⟩⟩
   case rest =>
    clear HC29
    try clear c1
    try clear c2
    try clear p2
    try clear c8
    try clear c13
    try clear c16
    try clear c21
    try clear c23
    try clear c25
    try clear hcz14_0
    try clear hcz14_1
    try clear hcz9_0
    try clear hcz9_1
    try clear hfz14_0
    try clear hfz14_1
    try clear hfz9_0
    try clear hfz9_1
    try clear p2
    obtain ⟨kq, x12_28, x13_28, rfl, rfl, HA, HJ28, HO_8, HO_9, HO_372000, HO_372001, BK364, BK371, HB⟩ := hcut
    cases kq with
    | zero => exact absurd HA.out (by simp [foretellkeep_WordDual.j1])
    | succ kj28 =>
     have H := HA.out
     clear HA
     simp only [foretellkeep_WordDual.j1] at H
     have HC53 := Aside0.mk H
     clear H
     go_upto_region 6 with (fail)
     go_cut [14, 15] (fun v14 v15 wc => ∃ (kq : Nat) (x14_52 : Bool) (x15_52 : Bool), v14 = .bool x14_52 ∧ v15 = .bool x15_52 ∧ Aside0 (foretellkeep_WordDual.j2 kq t372 t375 x10_6 x11_6 x12_28 x13_28 x14_52 x15_52 t365 t368 = some r) ∧ Aside0 (kq ≤ kj28) ∧ Aside0 (Kd.V k51 51 wc w.heap.size (fun k_ => k_ ≠ gb364 ∧ k_ ≠ gb371) v373 t372) ∧ Aside0 (Kd.V k51 51 wc w.heap.size (fun k_ => k_ ≠ gb364 ∧ k_ ≠ gb371) v376 t375) ∧ Aside0 (Kd.N (Kd.slice 4 Kd.bool) 30 wc w.heap.size (fun k_ => some k_ ≠ ((.slice Ao15 t368.length co15) : Value).ownBlock ∧ k_ ≠ gb364 ∧ k_ ≠ gb371) (.slice Ao12 t365.length co12) t365) ∧ Aside0 (Kd.N (Kd.slice 4 Kd.bool) 30 wc w.heap.size (fun k_ => some k_ ≠ ((.slice Ao12 t365.length co12) : Value).ownBlock ∧ k_ ≠ gb364 ∧ k_ ≠ gb371) (.slice Ao15 t368.length co15) t368) ∧ Aside0 (wc.heap[gb364]? = some (.cells #[(.slice A2_0 l2_0.length c2_0), (.slice A2_1 l2_1.length c2_1)] 40 (0, 0))) ∧ Aside0 (wc.heap[gb371]? = some (.cells #[(.slice Ao12 t365.length co12), (.slice Ao15 t368.length co15)] 43 (0, 0))) ∧ Aside0 (Below w.heap.size w wc))
     case first =>
      have H := HC53.out
      clear HC53
      obtain ⟨y406, hy406⟩ : ∃ y_ : List (List (S51)), y_ = (([t372, t375] : List (List (S51)))) := ⟨_, rfl⟩
      replace H : ((foretellkeep_joined.f kj28 16 y406).bind fun t409 => ((foretellkeep_holds.f kj28 t409 t365 t368).bind fun bt412 => (foretellkeep_WordDual.j2 kj28 t372 t375 x10_6 x11_6 x12_28 x13_28 bt412.1 bt412.2 t365 t368))) = some r := by first | (rw [hy406]; with_reducible exact H) | (have H2_ := (Option.bind_some _ _).symm.trans H; rw [hy406]; with_reducible exact H2_) | (have H2_ := (Option.bind_some _ _).symm.trans H; with_reducible exact H2_) | with_reducible exact H | (rw [hy406]; exact H) | exact H
      have Ny406 := Aside0.mk hy406
      clear hy406
      replace H := Option.bind_eq_some_iff.mp H
      obtain ⟨t409, A540, H⟩ := H
      replace H : ((foretellkeep_holds.f kj28 t409 t365 t368).bind fun bt412 => (foretellkeep_WordDual.j2 kj28 t372 t375 x10_6 x11_6 x12_28 x13_28 bt412.1 bt412.2 t365 t368)) = some r := H
      have A54 := Aside0.mk A540
      clear A540
      replace H := Option.bind_eq_some_iff.mp H
      obtain ⟨⟨t412, t413⟩, A550, H⟩ := H
      replace H : (foretellkeep_WordDual.j2 kj28 t372 t375 x10_6 x11_6 x12_28 x13_28 t412 t413 t365 t368) = some r := H
      have A55 := Aside0.mk A550
      clear A550
      have H' := Aside0.mk H
      clear H
      obtain ⟨Ao56, co56, eo56⟩ := Kd.V_slice HO_8.out
      subst eo56
      obtain ⟨Ao57, co57, eo57⟩ := Kd.V_slice HO_9.out
      subst eo57
      try go_wp2
      have n0_ := Aside0.mk (Kd.V_drew HO_8.out)
      have n1_ := Aside0.mk (Kd.V_drew HO_9.out)
      have n2_ := Aside0.mk (Kd.N_drew HO_372000.out)
      have n3_ := Aside0.mk (Kd.N_drew HO_372001.out)
      have n4_ := Aside0.mk (blk_drew BK364.out)
      have n5_ := Aside0.mk (blk_drew BK371.out)
      have n6_ := Aside0.mk (below_drew1 HB.out)
      clear HO_8
      clear HO_9
      clear HO_372000
      clear HO_372001
      clear BK364
      clear BK371
      clear HB
      have HO_8 := n0_
      have HO_9 := n1_
      have HO_372000 := n2_
      have HO_372001 := n3_
      have BK364 := n4_
      have BK371 := n5_
      have HB := n6_
      clear n0_ n1_ n2_ n3_ n4_ n5_ n6_
      refine start_ (n := 11) (S := fun w' => w'.cell? ⟨gb371, 0, none⟩ = some (.slice Ao12 t365.length co12) ∧ w'.cell? ⟨gb371, 1, none⟩ = some (.slice Ao15 t368.length co15)) (ds := []) #[false, false, false, false, false, false, false, false, false, false, false] (by kernel_rfl) rfl rfl ⟨(blk_cell BK371.out 0).trans rfl, (blk_cell BK371.out 1).trans rfl⟩ (fun hHeld => ?_); refine with_tabW foretellkeep_WordDual.tab6 foretellkeep_WordDual.bits6 (fun HT_ HW_ => ?_)
      generalize wc.drew = w58 at HO_8 HO_9 HO_372000 HO_372001 BK364 BK371 HB hHeld ⊢
      refine pure_ (i := 0) (N := some 47) (v := ?_) (a' := ?_) #[true, false, false, false, false, false, false, false, false, false, false] rfl rfl (any_of HT_.out (by kernel_rfl)) (fun _ _ _ h => h) (Or.inl ⟨by rfl, ?_⟩) ?_ ?_
      rotate_left
      ·
       intro w'
       go_simp
       with_reducible rfl
      rotate_left
      ·
       simp only [Act.put, List.setIfInBounds_toArray, List.set_cons_zero, List.set_cons_succ, i64_w, i32_w]
       rfl
      refine pure_ (i := 1) (N := some 48) (v := ?_) (a' := ?_) #[true, true, false, false, false, false, false, false, false, false, false] rfl rfl (any_of HT_.out (by kernel_rfl)) (fun _ _ _ h => h) (Or.inl ⟨by rfl, ?_⟩) ?_ ?_
      rotate_left
      ·
       intro w'
       go_simp
       with_reducible rfl
      rotate_left
      ·
       simp only [Act.put, List.setIfInBounds_toArray, List.set_cons_zero, List.set_cons_succ, i64_w, i32_w]
       rfl
      refine take_ (i := 4) (N := some 51) (v := ?_) (a' := ?_) #[true, true, false, false, true, false, false, false, false, false, false] rfl rfl (take_ofW HT_.out HW_.out (by kernel_rfl)) (fun _ _ _ h => h) (Or.inl ⟨by rfl, ?_⟩) hHeld ?_ ?_
      rotate_left
      ·
       rintro w' ⟨s0, s1⟩
       go_simp
       with_reducible rfl
      rotate_left
      ·
       simp only [Act.put, List.setIfInBounds_toArray, List.set_cons_zero, List.set_cons_succ, i64_w, i32_w]
       rfl
      refine one_ (i := 2) (N := some 49) #[true, true, true, false, true, false, false, false, false, false, false] rfl rfl (one_of HT_.out (by kernel_rfl)) (by decide) (fun K hK => ?_)
      refine Kd.N_lit_step (Kd.slice 51 k51) _ 23 ?hg (N' := 49) ?hd (xs := ([t372, t375] : List (List (S51)))) (inner := [.slice Ao56 t372.length co56, .slice Ao57 t375.length co57]) (ok := (fun k_ => k_ ≠ gb364 ∧ k_ ≠ gb371)) (okp := (fun k_ => k_ ≠ gb364 ∧ k_ ≠ gb371)) ?hr ?hp (fun _ hk => hk) ((show ∀ k_, w58.heap.size ≤ k_ → (fun k_ => k_ ≠ gb364 ∧ k_ ≠ gb371) k_ from fun k_ hk => ⟨Kd.freshB (g := gb364) (o := .cells #[.slice A2_0 l2_0.length c2_0, .slice A2_1 l2_1.length c2_1] 40 (0, 0)) (by (with_reducible repeat (first | refine blk_drewN ?_ _ | refine blk_drew ?_ | refine blk_alloc ?_ _)); exact BK364.out) k_ hk, Kd.freshB (g := gb371) (o := .cells #[.slice Ao12 t365.length co12, .slice Ao15 t368.length co15] 43 (0, 0)) (by (with_reducible repeat (first | refine blk_drewN ?_ _ | refine blk_drew ?_ | refine blk_alloc ?_ _)); exact BK371.out) k_ hk⟩) _ (Nat.le_refl _)) (Below.refl _ _) (Nat.le_refl _) (by simp) ?_; (case hd => rfl); (case hg => rfl); (case hr => first | (go_simp; done) | (go_simp; rfl)); (case hp => exact (Reps.one (show Kd.FK (Kd.slice 51 k51) _ _ t372 [.slice Ao56 t372.length co56] from (Kd.FK_slice_mk (Kd.V_reads' (Kd.V_mono (ok' := (fun k_ => k_ ≠ gb364 ∧ k_ ≠ gb371)) (HO_8.out) (fun k_ hk => ⟨hk.1, hk.2⟩))).2.1 (Kd.V_F (Kd.V_mono (ok' := (fun k_ => k_ ≠ gb364 ∧ k_ ≠ gb371)) (HO_8.out) (fun k_ hk => ⟨hk.1, hk.2⟩))))) (Reps.one (show Kd.FK (Kd.slice 51 k51) _ _ t375 [.slice Ao57 t375.length co57] from (Kd.FK_slice_mk (Kd.V_reads' (Kd.V_mono (ok' := (fun k_ => k_ ≠ gb364 ∧ k_ ≠ gb371)) (HO_9.out) (fun k_ hk => ⟨hk.1, hk.2⟩))).2.1 (Kd.V_F (Kd.V_mono (ok' := (fun k_ => k_ ≠ gb364 ∧ k_ ≠ gb371)) (HO_9.out) (fun k_ hk => ⟨hk.1, hk.2⟩))))) (Reps.none _ _))))
      intro v407 w59 ho60 hb hg_ hnew_
      clear hg_ hnew_
      (first | rw [← Ny406.out] at ho60 | (simp only [Int.reduceToNat] at ho60; rw [← Ny406.out] at ho60))
      have n0_ := Aside0.mk (Kd.V_elder' (by (with_reducible repeat (first | apply Kd.V_alloc | apply Kd.V_drewN | apply Kd.V_drew)); exact HO_8.out) (by first | exact Kd.N_base ho60 | exact Kd.S_base ho60 | exact Kd.R_base ho60) hb)
      have n1_ := Aside0.mk (Kd.V_elder' (by (with_reducible repeat (first | apply Kd.V_alloc | apply Kd.V_drewN | apply Kd.V_drew)); exact HO_9.out) (by first | exact Kd.N_base ho60 | exact Kd.S_base ho60 | exact Kd.R_base ho60) hb)
      have n2_ := Aside0.mk (Kd.N_elder' (by (with_reducible repeat (first | apply Kd.N_alloc | apply Kd.N_drewN | apply Kd.N_drew)); exact HO_372000.out) (by first | exact Kd.N_base ho60 | exact Kd.S_base ho60 | exact Kd.R_base ho60) hb)
      have n3_ := Aside0.mk (Kd.N_elder' (by (with_reducible repeat (first | apply Kd.N_alloc | apply Kd.N_drewN | apply Kd.N_drew)); exact HO_372001.out) (by first | exact Kd.N_base ho60 | exact Kd.S_base ho60 | exact Kd.R_base ho60) hb)
      have n4_ := Aside0.mk (Kd.N_lower ho60 (below_size (by repeat (first | (with_reducible first | exact HB.out | apply below_alloc | apply pw_below_drewN | apply below_drew1 | refine below_set ?_ GE364.out | refine below_set ?_ GE371.out) | exact HB.out))))
      have n5_ := Aside0.mk (blk_below (g := gb364) (o := .cells #[.slice A2_0 l2_0.length c2_0, .slice A2_1 l2_1.length c2_1] 40 (0, 0)) (by (with_reducible repeat (first | refine blk_drewN ?_ _ | refine blk_drew ?_ | refine blk_alloc ?_ _)); exact BK364.out) hb)
      have n6_ := Aside0.mk (blk_below (g := gb371) (o := .cells #[.slice Ao12 t365.length co12, .slice Ao15 t368.length co15] 43 (0, 0)) (by (with_reducible repeat (first | refine blk_drewN ?_ _ | refine blk_drew ?_ | refine blk_alloc ?_ _)); exact BK371.out) hb)
      have n7_ := Aside0.mk (below_step (by repeat (first | (with_reducible first | exact HB.out | apply below_alloc | apply pw_below_drewN | apply below_drew1 | refine below_set ?_ GE364.out | refine below_set ?_ GE371.out) | exact HB.out)) hb)
      clear HO_8
      clear HO_9
      clear HO_372000
      clear HO_372001
      clear BK364
      clear BK371
      clear HB
      have HO_8 := n0_
      have HO_9 := n1_
      have HO_372000 := n2_
      have HO_372001 := n3_
      have HO408 := n4_
      have BK364 := n5_
      have BK371 := n6_
      have HB := n7_
      clear n0_ n1_ n2_ n3_ n4_ n5_ n6_ n7_
      clear hb ho60
      obtain ⟨Ao61, co61, eo61⟩ := Kd.N_slice HO408.out
      (first | subst eo61 | (injection eo61 with f1_ f2_ f3_; have f4_ := f1_.symm; have f5_ := f3_.symm; clear f1_ f2_ f3_; subst f4_; subst f5_))
      refine hK.out _ _ ⟨(blk_cell BK371.out 0).trans rfl, (blk_cell BK371.out 1).trans rfl⟩ (fun hHeld => ?_)
      clear hK K
      refine norm_ (a' := ?_) ?_ ?_
      rotate_left
      ·
       show Act.put _ (some 49) _ = _
       simp only [Act.put, List.setIfInBounds_toArray, List.set_cons_zero, List.set_cons_succ, i64_w, i32_w]
       rfl
      refine one_ (i := 3) (N := some 50) #[true, true, true, true, true, false, false, false, false, false, false] rfl rfl (one_of HT_.out (by kernel_rfl)) (by decide) (fun K hK => ?_)
      refine goes_ Tryd.func21 (by kernel_rfl) rfl #[.int .i64 16, .slice Ao61 y406.length co61] (by rfl) rfl rfl (by (try simp only [List.map_toArray, List.map_cons, List.map_nil]); first | done | rfl | (simp only [List.length_drop, List.length_take]; rfl)) ?_
      with_reducible refine (foretellkeep_joined.calls kj28 16 _ _ y406 t409 _ ?side1 ?side2 A54.out).mono ?_
      (case side1 => repeat (first | exact (Kd.N_reads' HO408.out).2.2 | (with_reducible refine Kd.C_alloc ?_ _) | (with_reducible refine Kd.C_drewN ?_ _) | (with_reducible refine Kd.C_drew ?_)))
      (case side2 => exact (Kd.N_reads' HO408.out).2.1)
      rintro e w62 ⟨v410, rfl, ho0, hb⟩
      refine ⟨_, rfl, ?_⟩
      have n0_ := Aside0.mk (Kd.V_below (by (with_reducible repeat (first | apply Kd.V_alloc | apply Kd.V_drewN | apply Kd.V_drew)); exact HO_8.out) hb)
      have n1_ := Aside0.mk (Kd.V_below (by (with_reducible repeat (first | apply Kd.V_alloc | apply Kd.V_drewN | apply Kd.V_drew)); exact HO_9.out) hb)
      have n2_ := Aside0.mk (Kd.N_below (by (with_reducible repeat (first | apply Kd.N_alloc | apply Kd.N_drewN | apply Kd.N_drew)); exact HO_372000.out) hb)
      have n3_ := Aside0.mk (Kd.N_below (by (with_reducible repeat (first | apply Kd.N_alloc | apply Kd.N_drewN | apply Kd.N_drew)); exact HO_372001.out) hb)
      have n4_ := Aside0.mk (Kd.N_below (by (with_reducible repeat (first | apply Kd.N_alloc | apply Kd.N_drewN | apply Kd.N_drew)); exact HO408.out) hb)
      have n5_ := Aside0.mk (Kd.V_lower (Kd.V_mono (ok' := fun k_ => k_ ≠ gb364 ∧ k_ ≠ gb371) (Kd.R_V (Kd.R_bound ho0)) (fun k_ hk_ => ⟨(Kd.freshB (g := gb364) (o := .cells #[.slice A2_0 l2_0.length c2_0, .slice A2_1 l2_1.length c2_1] 40 (0, 0)) (by (with_reducible repeat (first | refine blk_drewN ?_ _ | refine blk_drew ?_ | refine blk_alloc ?_ _)); exact BK364.out) k_ hk_.2.1), (Kd.freshB (g := gb371) (o := .cells #[.slice Ao12 t365.length co12, .slice Ao15 t368.length co15] 43 (0, 0)) (by (with_reducible repeat (first | refine blk_drewN ?_ _ | refine blk_drew ?_ | refine blk_alloc ?_ _)); exact BK371.out) k_ hk_.2.1)⟩)) (below_size (by repeat (first | (with_reducible first | exact HB.out | apply below_alloc | apply pw_below_drewN | apply below_drew1 | refine below_set ?_ GE364.out | refine below_set ?_ GE371.out) | exact HB.out))))
      have n6_ := Aside0.mk (blk_below (g := gb364) (o := .cells #[.slice A2_0 l2_0.length c2_0, .slice A2_1 l2_1.length c2_1] 40 (0, 0)) (by (with_reducible repeat (first | refine blk_drewN ?_ _ | refine blk_drew ?_ | refine blk_alloc ?_ _)); exact BK364.out) hb)
      have n7_ := Aside0.mk (blk_below (g := gb371) (o := .cells #[.slice Ao12 t365.length co12, .slice Ao15 t368.length co15] 43 (0, 0)) (by (with_reducible repeat (first | refine blk_drewN ?_ _ | refine blk_drew ?_ | refine blk_alloc ?_ _)); exact BK371.out) hb)
      have n8_ := Aside0.mk (below_step (by repeat (first | (with_reducible first | exact HB.out | apply below_alloc | apply pw_below_drewN | apply below_drew1 | refine below_set ?_ GE364.out | refine below_set ?_ GE371.out) | exact HB.out)) hb)
      clear HO_8
      clear HO_9
      clear HO_372000
      clear HO_372001
      clear HO408
      clear BK364
      clear BK371
      clear HB
      have HO_8 := n0_
      have HO_9 := n1_
      have HO_372000 := n2_
      have HO_372001 := n3_
      have HO408 := n4_
      have HO411 := n5_
      have BK364 := n6_
      have BK371 := n7_
      have HB := n8_
      clear n0_ n1_ n2_ n3_ n4_ n5_ n6_ n7_ n8_
      (try clear hb)
      (try clear hb2)
      (try clear hk)
      (try clear hi)
      (try clear ho0)
      obtain ⟨Ao63, co63, eo63⟩ := Kd.V_slice HO411.out
      (first | subst eo63 | (injection eo63 with f1_ f2_ f3_; have f4_ := f1_.symm; have f5_ := f3_.symm; clear f1_ f2_ f3_; subst f4_; subst f5_))
      refine hK.out _ _ ⟨(blk_cell BK371.out 0).trans rfl, (blk_cell BK371.out 1).trans rfl⟩ (fun hHeld => ?_)
      clear hK K
      refine norm_ (a' := ?_) ?_ ?_
      rotate_left
      ·
       show Act.put _ (some 50) _ = _
       simp only [Act.put, List.setIfInBounds_toArray, List.set_cons_zero, List.set_cons_succ, i64_w, i32_w]
       rfl
      refine one_ (i := 5) (N := some 52) #[true, true, true, true, true, true, false, false, false, false, false] rfl rfl (one_of HT_.out (by kernel_rfl)) (by decide) (fun K hK => ?_)
      refine goes_ Tryd.func25 (by kernel_rfl) rfl #[.slice Ao63 t409.length co63, .agg #[.slice Ao12 t365.length co12, .slice Ao15 t368.length co15]] (by rfl) rfl rfl (by (try simp only [List.map_toArray, List.map_cons, List.map_nil]); first | done | rfl | (simp only [List.length_drop, List.length_take]; rfl)) ?_
      with_reducible refine (foretellkeep_holds.calls kj28 _ _ t409 _ _ t365 _ _ t368 t412 t413 _ ?side1 ?side2 ?side3 ?side4 ?side5 ?side6 ?side7 A55.out).mono ?_
      (case side1 => repeat (first | exact (Kd.V_reads' HO411.out).2.2 | (with_reducible refine Kd.C_alloc ?_ _) | (with_reducible refine Kd.C_drewN ?_ _) | (with_reducible refine Kd.C_drew ?_)))
      (case side2 => exact (Kd.V_reads' HO411.out).2.1)
      (case side3 => repeat (first | exact (Kd.N_reads' HO_372000.out).2.2 | (with_reducible refine Kd.C_alloc ?_ _) | (with_reducible refine Kd.C_drewN ?_ _) | (with_reducible refine Kd.C_drew ?_)))
      (case side4 => exact (Kd.N_reads' HO_372000.out).2.1)
      (case side5 => repeat (first | exact (Kd.N_reads' HO_372001.out).2.2 | (with_reducible refine Kd.C_alloc ?_ _) | (with_reducible refine Kd.C_drewN ?_ _) | (with_reducible refine Kd.C_drew ?_)))
      (case side6 => exact (Kd.N_reads' HO_372001.out).2.1)
      (case side7 => first | exact hG_ | exact Glob.drewN hG_ _ | exact Glob.below hG_ (by repeat (first | (with_reducible first | exact HB.out | apply below_alloc | apply pw_below_drewN | apply below_drew1 | refine below_set ?_ GE364.out | refine below_set ?_ GE371.out) | exact HB.out)))
      rintro e w64 ⟨rfl, hb⟩
      refine ⟨_, rfl, ?_⟩
      have n0_ := Aside0.mk (Kd.V_below (by (with_reducible repeat (first | apply Kd.V_alloc | apply Kd.V_drewN | apply Kd.V_drew)); exact HO_8.out) hb)
      have n1_ := Aside0.mk (Kd.V_below (by (with_reducible repeat (first | apply Kd.V_alloc | apply Kd.V_drewN | apply Kd.V_drew)); exact HO_9.out) hb)
      have n2_ := Aside0.mk (Kd.N_below (by (with_reducible repeat (first | apply Kd.N_alloc | apply Kd.N_drewN | apply Kd.N_drew)); exact HO_372000.out) hb)
      have n3_ := Aside0.mk (Kd.N_below (by (with_reducible repeat (first | apply Kd.N_alloc | apply Kd.N_drewN | apply Kd.N_drew)); exact HO_372001.out) hb)
      have n4_ := Aside0.mk (Kd.N_below (by (with_reducible repeat (first | apply Kd.N_alloc | apply Kd.N_drewN | apply Kd.N_drew)); exact HO408.out) hb)
      have n5_ := Aside0.mk (Kd.V_below (by (with_reducible repeat (first | apply Kd.V_alloc | apply Kd.V_drewN | apply Kd.V_drew)); exact HO411.out) hb)
      have n6_ := Aside0.mk (blk_below (g := gb364) (o := .cells #[.slice A2_0 l2_0.length c2_0, .slice A2_1 l2_1.length c2_1] 40 (0, 0)) (by (with_reducible repeat (first | refine blk_drewN ?_ _ | refine blk_drew ?_ | refine blk_alloc ?_ _)); exact BK364.out) hb)
      have n7_ := Aside0.mk (blk_below (g := gb371) (o := .cells #[.slice Ao12 t365.length co12, .slice Ao15 t368.length co15] 43 (0, 0)) (by (with_reducible repeat (first | refine blk_drewN ?_ _ | refine blk_drew ?_ | refine blk_alloc ?_ _)); exact BK371.out) hb)
      have n8_ := Aside0.mk (below_step (by repeat (first | (with_reducible first | exact HB.out | apply below_alloc | apply pw_below_drewN | apply below_drew1 | refine below_set ?_ GE364.out | refine below_set ?_ GE371.out) | exact HB.out)) hb)
      clear HO_8
      clear HO_9
      clear HO_372000
      clear HO_372001
      clear HO408
      clear HO411
      clear BK364
      clear BK371
      clear HB
      have HO_8 := n0_
      have HO_9 := n1_
      have HO_372000 := n2_
      have HO_372001 := n3_
      have HO408 := n4_
      have HO411 := n5_
      have BK364 := n6_
      have BK371 := n7_
      have HB := n8_
      clear n0_ n1_ n2_ n3_ n4_ n5_ n6_ n7_ n8_
      (try clear hb)
      (try clear hb2)
      (try clear hk)
      (try clear hi)
      refine hK.out _ _ ⟨(blk_cell BK371.out 0).trans rfl, (blk_cell BK371.out 1).trans rfl⟩ (fun hHeld => ?_)
      clear hK K
      refine norm_ (a' := ?_) ?_ ?_
      rotate_left
      ·
       show Act.put _ (some 52) _ = _
       simp only [Act.put, List.setIfInBounds_toArray, List.set_cons_zero, List.set_cons_succ, i64_w, i32_w]
       rfl
      refine pure_ (i := 6) (N := some 46) (v := ?_) (a' := ?_) #[true, true, true, true, true, true, true, false, false, false, false] rfl rfl (any_of HT_.out (by kernel_rfl)) (fun _ _ _ h => h) (Or.inl ⟨by rfl, ?_⟩) ?_ ?_
      rotate_left
      ·
       intro w'
       go_simp
       with_reducible rfl
      rotate_left
      ·
       simp only [Act.put, List.setIfInBounds_toArray, List.set_cons_zero, List.set_cons_succ, i64_w, i32_w]
       rfl
      refine pure_ (i := 7) (N := some 53) (v := ?_) (a' := ?_) #[true, true, true, true, true, true, true, true, false, false, false] rfl rfl (any_of HT_.out (by kernel_rfl)) (fun _ _ _ h => h) (Or.inl ⟨by rfl, ?_⟩) ?_ ?_
      rotate_left
      ·
       intro w'
       go_simp
       with_reducible rfl
      rotate_left
      ·
       simp only [Act.put, List.setIfInBounds_toArray, List.set_cons_zero, List.set_cons_succ, i64_w, i32_w]
       rfl
      refine pure_ (i := 8) (N := some 54) (v := ?_) (a' := ?_) #[true, true, true, true, true, true, true, true, true, false, false] rfl rfl (any_of HT_.out (by kernel_rfl)) (fun _ _ _ h => h) (Or.inl ⟨by rfl, ?_⟩) ?_ ?_
      rotate_left
      ·
       intro w'
       go_simp
       with_reducible rfl
      rotate_left
      ·
       simp only [Act.put, List.setIfInBounds_toArray, List.set_cons_zero, List.set_cons_succ, i64_w, i32_w]
       rfl
      refine pure_ (i := 9) (N := some 14) (v := ?_) (a' := ?_) #[true, true, true, true, true, true, true, true, true, true, false] rfl rfl (any_of HT_.out (by kernel_rfl)) (fun _ _ _ h => h) (Or.inl ⟨by rfl, ?_⟩) ?_ ?_
      rotate_left
      ·
       intro w'
       go_simp
       with_reducible rfl
      rotate_left
      ·
       simp only [Act.put, List.setIfInBounds_toArray, List.set_cons_zero, List.set_cons_succ, i64_w, i32_w]
       rfl
      refine pure_ (i := 10) (N := some 15) (v := ?_) (a' := ?_) #[true, true, true, true, true, true, true, true, true, true, true] rfl rfl (any_of HT_.out (by kernel_rfl)) (fun _ _ _ h => h) (Or.inl ⟨by rfl, ?_⟩) ?_ ?_
      rotate_left
      ·
       intro w'
       go_simp
       with_reducible rfl
      rotate_left
      ·
       simp only [Act.put, List.setIfInBounds_toArray, List.set_cons_zero, List.set_cons_succ, i64_w, i32_w]
       rfl
      refine done_ (done_of HT_.out (by kernel_rfl)) ?_
      try go_wp2
      go_meet
      case rel => exact ⟨_, (t412), (t413), (by first | rfl | (simp; done) | (simp [*]; done)), (by first | rfl | (simp; done) | (simp [*]; done)), H', ⟨by have := HJ6.out; have := HJ28.out; first | omega | exact Nat.le_refl _⟩, ⟨by (with_reducible repeat (first | apply Kd.V_alloc | apply Kd.V_drewN | apply Kd.V_drew)); exact Kd.V_mono HO_8.out (fun _ hk => by first | exact ⟨hk.1.1, hk.1.2⟩ | exact hk.1 | exact hk)⟩, ⟨by (with_reducible repeat (first | apply Kd.V_alloc | apply Kd.V_drewN | apply Kd.V_drew)); exact Kd.V_mono HO_9.out (fun _ hk => by first | exact ⟨hk.1.1, hk.1.2⟩ | exact hk.1 | exact hk)⟩, ⟨by (with_reducible repeat (first | apply Kd.N_alloc | apply Kd.N_drewN | apply Kd.N_drew)); exact Kd.N_mono HO_372000.out (fun _ hk => by first | exact ⟨hk.1.1, ⟨hk.1.2.1, hk.1.2.2⟩⟩ | exact hk.1 | exact hk)⟩, ⟨by (with_reducible repeat (first | apply Kd.N_alloc | apply Kd.N_drewN | apply Kd.N_drew)); exact Kd.N_mono HO_372001.out (fun _ hk => by first | exact ⟨hk.1.1, ⟨hk.1.2.1, hk.1.2.2⟩⟩ | exact hk.1 | exact hk)⟩, ⟨by (with_reducible repeat (first | refine blk_drewN ?_ _ | refine blk_drew ?_ | refine blk_alloc ?_ _)); exact BK364.out⟩, ⟨by (with_reducible repeat (first | refine blk_drewN ?_ _ | refine blk_drew ?_ | refine blk_alloc ?_ _)); exact BK371.out⟩, ⟨by repeat (first | (with_reducible first | exact HB.out | apply below_alloc | apply pw_below_drewN | apply below_drew1 | refine below_set ?_ GE364.out | refine below_set ?_ GE371.out) | exact HB.out)⟩⟩
     case rest =>
      clear HC53
      try clear c1
      try clear c2
      try clear p2
      try clear c8
      try clear c13
      try clear c16
      try clear c21
      try clear c23
      try clear c25
      try clear hcz14_0
      try clear hcz14_1
      try clear hcz9_0
      try clear hcz9_1
      try clear hfz14_0
      try clear hfz14_1
      try clear hfz9_0
      try clear hfz9_1
      try clear p2
      obtain ⟨kq, x14_52, x15_52, rfl, rfl, HA, HJ52, HO_8, HO_9, HO_372000, HO_372001, BK364, BK371, HB⟩ := hcut
      cases kq with
      | zero => exact absurd HA.out (by simp [foretellkeep_WordDual.j2])
      | succ kj52 =>
       have H := HA.out
       clear HA
       simp only [foretellkeep_WordDual.j2] at H
       have HC65 := Aside0.mk H
       clear H
       go_upto_region 7 with (fail)
       go_cut [16, 17] (fun v16 v17 wc => ∃ (kq : Nat) (x16_64 : Bool) (x17_64 : Bool), v16 = .bool x16_64 ∧ v17 = .bool x17_64 ∧ Aside0 (foretellkeep_WordDual.j3 kq t372 x10_6 x11_6 x12_28 x13_28 x14_52 x15_52 x16_64 x17_64 t365 t368 = some r) ∧ Aside0 (kq ≤ kj52) ∧ Aside0 (Kd.V k51 51 wc w.heap.size (fun k_ => k_ ≠ gb364 ∧ k_ ≠ gb371) v373 t372) ∧ Aside0 (Kd.N (Kd.slice 4 Kd.bool) 30 wc w.heap.size (fun k_ => some k_ ≠ ((.slice Ao15 t368.length co15) : Value).ownBlock ∧ k_ ≠ gb364 ∧ k_ ≠ gb371) (.slice Ao12 t365.length co12) t365) ∧ Aside0 (Kd.N (Kd.slice 4 Kd.bool) 30 wc w.heap.size (fun k_ => some k_ ≠ ((.slice Ao12 t365.length co12) : Value).ownBlock ∧ k_ ≠ gb364 ∧ k_ ≠ gb371) (.slice Ao15 t368.length co15) t368) ∧ Aside0 (wc.heap[gb364]? = some (.cells #[(.slice A2_0 l2_0.length c2_0), (.slice A2_1 l2_1.length c2_1)] 40 (0, 0))) ∧ Aside0 (wc.heap[gb371]? = some (.cells #[(.slice Ao12 t365.length co12), (.slice Ao15 t368.length co15)] 43 (0, 0))) ∧ Aside0 (Below w.heap.size w wc))
       case first =>
        have H := HC65.out
        clear HC65
        obtain ⟨y414, hy414⟩ : ∃ y_ : List (List (S51)), y_ = (([t372] : List (List (S51)))) := ⟨_, rfl⟩
        replace H : ((foretellkeep_joined.f kj52 10 y414).bind fun t417 => ((foretellkeep_joined.f kj52 10 (([t375] : List (List (S51))))).bind fun t423 => ((foretellkeep_joined.f kj52 15 (([t417, t423] : List (List (S51))))).bind fun t429 => ((foretellkeep_joined.f kj52 10 (([t429] : List (List (S51))))).bind fun t435 => ((foretellkeep_holds.f kj52 t435 t365 t368).bind fun bt438 => (foretellkeep_WordDual.j3 kj52 t372 x10_6 x11_6 x12_28 x13_28 x14_52 x15_52 bt438.1 bt438.2 t365 t368)))))) = some r := by first | (rw [hy414]; with_reducible exact H) | (have H2_ := (Option.bind_some _ _).symm.trans H; rw [hy414]; with_reducible exact H2_) | (have H2_ := (Option.bind_some _ _).symm.trans H; with_reducible exact H2_) | with_reducible exact H | (rw [hy414]; exact H) | exact H
        have Ny414 := Aside0.mk hy414
        clear hy414
        replace H := Option.bind_eq_some_iff.mp H
        obtain ⟨t417, A660, H⟩ := H
        replace H : ((foretellkeep_joined.f kj52 10 (([t375] : List (List (S51))))).bind fun t423 => ((foretellkeep_joined.f kj52 15 (([t417, t423] : List (List (S51))))).bind fun t429 => ((foretellkeep_joined.f kj52 10 (([t429] : List (List (S51))))).bind fun t435 => ((foretellkeep_holds.f kj52 t435 t365 t368).bind fun bt438 => (foretellkeep_WordDual.j3 kj52 t372 x10_6 x11_6 x12_28 x13_28 x14_52 x15_52 bt438.1 bt438.2 t365 t368))))) = some r := H
        have A66 := Aside0.mk A660
        clear A660
        obtain ⟨y420, hy420⟩ : ∃ y_ : List (List (S51)), y_ = (([t375] : List (List (S51)))) := ⟨_, rfl⟩
        replace H : ((foretellkeep_joined.f kj52 10 y420).bind fun t423 => ((foretellkeep_joined.f kj52 15 (([t417, t423] : List (List (S51))))).bind fun t429 => ((foretellkeep_joined.f kj52 10 (([t429] : List (List (S51))))).bind fun t435 => ((foretellkeep_holds.f kj52 t435 t365 t368).bind fun bt438 => (foretellkeep_WordDual.j3 kj52 t372 x10_6 x11_6 x12_28 x13_28 x14_52 x15_52 bt438.1 bt438.2 t365 t368))))) = some r := by first | (rw [hy420]; with_reducible exact H) | (have H2_ := (Option.bind_some _ _).symm.trans H; rw [hy420]; with_reducible exact H2_) | (have H2_ := (Option.bind_some _ _).symm.trans H; with_reducible exact H2_) | with_reducible exact H | (rw [hy420]; exact H) | exact H
        have Ny420 := Aside0.mk hy420
        clear hy420
        replace H := Option.bind_eq_some_iff.mp H
        obtain ⟨t423, A670, H⟩ := H
        replace H : ((foretellkeep_joined.f kj52 15 (([t417, t423] : List (List (S51))))).bind fun t429 => ((foretellkeep_joined.f kj52 10 (([t429] : List (List (S51))))).bind fun t435 => ((foretellkeep_holds.f kj52 t435 t365 t368).bind fun bt438 => (foretellkeep_WordDual.j3 kj52 t372 x10_6 x11_6 x12_28 x13_28 x14_52 x15_52 bt438.1 bt438.2 t365 t368)))) = some r := H
        have A67 := Aside0.mk A670
        clear A670
        obtain ⟨y426, hy426⟩ : ∃ y_ : List (List (S51)), y_ = (([t417, t423] : List (List (S51)))) := ⟨_, rfl⟩
        replace H : ((foretellkeep_joined.f kj52 15 y426).bind fun t429 => ((foretellkeep_joined.f kj52 10 (([t429] : List (List (S51))))).bind fun t435 => ((foretellkeep_holds.f kj52 t435 t365 t368).bind fun bt438 => (foretellkeep_WordDual.j3 kj52 t372 x10_6 x11_6 x12_28 x13_28 x14_52 x15_52 bt438.1 bt438.2 t365 t368)))) = some r := by first | (rw [hy426]; with_reducible exact H) | (have H2_ := (Option.bind_some _ _).symm.trans H; rw [hy426]; with_reducible exact H2_) | (have H2_ := (Option.bind_some _ _).symm.trans H; with_reducible exact H2_) | with_reducible exact H | (rw [hy426]; exact H) | exact H
        have Ny426 := Aside0.mk hy426
        clear hy426
        replace H := Option.bind_eq_some_iff.mp H
        obtain ⟨t429, A680, H⟩ := H
        replace H : ((foretellkeep_joined.f kj52 10 (([t429] : List (List (S51))))).bind fun t435 => ((foretellkeep_holds.f kj52 t435 t365 t368).bind fun bt438 => (foretellkeep_WordDual.j3 kj52 t372 x10_6 x11_6 x12_28 x13_28 x14_52 x15_52 bt438.1 bt438.2 t365 t368))) = some r := H
        have A68 := Aside0.mk A680
        clear A680
        obtain ⟨y432, hy432⟩ : ∃ y_ : List (List (S51)), y_ = (([t429] : List (List (S51)))) := ⟨_, rfl⟩
        replace H : ((foretellkeep_joined.f kj52 10 y432).bind fun t435 => ((foretellkeep_holds.f kj52 t435 t365 t368).bind fun bt438 => (foretellkeep_WordDual.j3 kj52 t372 x10_6 x11_6 x12_28 x13_28 x14_52 x15_52 bt438.1 bt438.2 t365 t368))) = some r := by first | (rw [hy432]; with_reducible exact H) | (have H2_ := (Option.bind_some _ _).symm.trans H; rw [hy432]; with_reducible exact H2_) | (have H2_ := (Option.bind_some _ _).symm.trans H; with_reducible exact H2_) | with_reducible exact H | (rw [hy432]; exact H) | exact H
        have Ny432 := Aside0.mk hy432
        clear hy432
        replace H := Option.bind_eq_some_iff.mp H
        obtain ⟨t435, A690, H⟩ := H
        replace H : ((foretellkeep_holds.f kj52 t435 t365 t368).bind fun bt438 => (foretellkeep_WordDual.j3 kj52 t372 x10_6 x11_6 x12_28 x13_28 x14_52 x15_52 bt438.1 bt438.2 t365 t368)) = some r := H
        have A69 := Aside0.mk A690
        clear A690
        replace H := Option.bind_eq_some_iff.mp H
        obtain ⟨⟨t438, t439⟩, A700, H⟩ := H
        replace H : (foretellkeep_WordDual.j3 kj52 t372 x10_6 x11_6 x12_28 x13_28 x14_52 x15_52 t438 t439 t365 t368) = some r := H
        have A70 := Aside0.mk A700
        clear A700
        have H' := Aside0.mk H
        clear H
        obtain ⟨Ao71, co71, eo71⟩ := Kd.V_slice HO_8.out
        subst eo71
        obtain ⟨Ao72, co72, eo72⟩ := Kd.V_slice HO_9.out
        subst eo72
        try go_wp2
        have n0_ := Aside0.mk (Kd.V_drew HO_8.out)
        have n1_ := Aside0.mk (Kd.V_drew HO_9.out)
        have n2_ := Aside0.mk (Kd.N_drew HO_372000.out)
        have n3_ := Aside0.mk (Kd.N_drew HO_372001.out)
        have n4_ := Aside0.mk (blk_drew BK364.out)
        have n5_ := Aside0.mk (blk_drew BK371.out)
        have n6_ := Aside0.mk (below_drew1 HB.out)
        clear HO_8
        clear HO_9
        clear HO_372000
        clear HO_372001
        clear BK364
        clear BK371
        clear HB
        have HO_8 := n0_
        have HO_9 := n1_
        have HO_372000 := n2_
        have HO_372001 := n3_
        have BK364 := n4_
        have BK371 := n5_
        have HB := n6_
        clear n0_ n1_ n2_ n3_ n4_ n5_ n6_
        refine start_ (n := 17) (S := fun w' => True) (ds := []) #[false, false, false, false, false, false, false, false, false, false, false, false, false, false, false, false, false] (by kernel_rfl) rfl rfl trivial (fun hHeld => ?_); refine with_tabW foretellkeep_WordDual.tab7 foretellkeep_WordDual.bits7 (fun HT_ HW_ => ?_)
        generalize wc.drew = w73 at HO_8 HO_9 HO_372000 HO_372001 BK364 BK371 HB hHeld ⊢
        refine pure_ (i := 0) (N := some 56) (v := ?_) (a' := ?_) #[true, false, false, false, false, false, false, false, false, false, false, false, false, false, false, false, false] rfl rfl (any_of HT_.out (by kernel_rfl)) (fun _ _ _ h => h) (Or.inl ⟨by rfl, ?_⟩) ?_ ?_
        rotate_left
        ·
         intro w'
         go_simp
         with_reducible rfl
        rotate_left
        ·
         simp only [Act.put, List.setIfInBounds_toArray, List.set_cons_zero, List.set_cons_succ, i64_w, i32_w]
         rfl
        refine pure_ (i := 3) (N := some 59) (v := ?_) (a' := ?_) #[true, false, false, true, false, false, false, false, false, false, false, false, false, false, false, false, false] rfl rfl (any_of HT_.out (by kernel_rfl)) (fun _ _ _ h => h) (Or.inl ⟨by rfl, ?_⟩) ?_ ?_
        rotate_left
        ·
         intro w'
         go_simp
         with_reducible rfl
        rotate_left
        ·
         simp only [Act.put, List.setIfInBounds_toArray, List.set_cons_zero, List.set_cons_succ, i64_w, i32_w]
         rfl
        refine inv_at [1, 2, 4, 5, 6, 7, 8, 9, 10, 11, 12, 13, 14, 15, 16] (fun a0_ b a w' => ∃ (v415 : Value) (v418 : Value) (v421 : Value) (v424 : Value) (v427 : Value) (v430 : Value) (v433 : Value) (v436 : Value), a = putSel a0_ b [(1, 57, v415), (2, 58, v418), (4, 60, v421), (5, 61, v424), (6, 62, v427), (7, 63, v430), (8, 64, v433), (9, 65, v436), (10, 66, .agg #[.slice Ao12 t365.length co12, .slice Ao15 t368.length co15]), (11, 67, .tuple #[.bool t438, .bool t439]), (12, 55, .tuple #[.bool t438, .bool t439]), (13, 68, .bool t438), (14, 69, .bool t439), (15, 16, .bool t438), (16, 17, .bool t439)] ∧ (Kd.N (Kd.slice 4 Kd.bool) 30 w' w.heap.size (fun k_ => some k_ ≠ (.slice Ao15 t368.length co15 : Value).ownBlock ∧ k_ ≠ gb364 ∧ k_ ≠ gb371) (.slice Ao12 t365.length co12) t365) ∧ (Kd.N (Kd.slice 4 Kd.bool) 30 w' w.heap.size (fun k_ => some k_ ≠ (.slice Ao12 t365.length co12 : Value).ownBlock ∧ k_ ≠ gb364 ∧ k_ ≠ gb371) (.slice Ao15 t368.length co15) t368) ∧ (Kd.V k51 51 w' w.heap.size (fun k_ => k_ ≠ gb364 ∧ k_ ≠ gb371) (.slice Ao71 t372.length co71) t372) ∧ (Kd.V k51 51 w' w.heap.size (fun k_ => k_ ≠ gb364 ∧ k_ ≠ gb371) (.slice Ao72 t375.length co72) t375) ∧ (w'.heap[gb364]? = some (.cells #[.slice A2_0 l2_0.length c2_0, .slice A2_1 l2_1.length c2_1] 40 (0, 0))) ∧ (w'.heap[gb371]? = some (.cells #[.slice Ao12 t365.length co12, .slice Ao15 t368.length co15] 43 (0, 0))) ∧ (Below w.heap.size w w') ∧ (b 1 = true → Kd.N (Kd.slice 51 k51) 23 w' w.heap.size (fun k_ => k_ ≠ gb364 ∧ k_ ≠ gb371) v415 y414) ∧ (b 2 = true → Kd.V k51 51 w' w.heap.size (fun k_ => k_ ≠ gb364 ∧ k_ ≠ gb371) v418 t417) ∧ (b 4 = true → Kd.N (Kd.slice 51 k51) 23 w' w.heap.size (fun k_ => k_ ≠ gb364 ∧ k_ ≠ gb371) v421 y420) ∧ (b 5 = true → Kd.V k51 51 w' w.heap.size (fun k_ => k_ ≠ gb364 ∧ k_ ≠ gb371) v424 t423) ∧ (b 6 = true → Kd.N (Kd.slice 51 k51) 23 w' w.heap.size (fun k_ => k_ ≠ gb364 ∧ k_ ≠ gb371) v427 y426) ∧ (b 7 = true → Kd.V k51 51 w' w.heap.size (fun k_ => k_ ≠ gb364 ∧ k_ ≠ gb371) v430 t429) ∧ (b 8 = true → Kd.N (Kd.slice 51 k51) 23 w' w.heap.size (fun k_ => k_ ≠ gb364 ∧ k_ ≠ gb371) v433 y432) ∧ (b 9 = true → Kd.V k51 51 w' w.heap.size (fun k_ => k_ ≠ gb364 ∧ k_ ≠ gb371) v436 t435)) HT_.out HW_.out (by kernel_rfl) (by kernel_rfl) ?_ ?_ ?_
        ·
         exact ⟨.bool false, .bool false, .bool false, .bool false, .bool false, .bool false, .bool false, .bool false, by simp only [putSel, Bool.false_eq_true, if_false], HO_372000.out, HO_372001.out, HO_8.out, HO_9.out, BK364.out, BK371.out, HB.out, fun h_ => absurd h_ (by decide), fun h_ => absurd h_ (by decide), fun h_ => absurd h_ (by decide), fun h_ => absurd h_ (by decide), fun h_ => absurd h_ (by decide), fun h_ => absurd h_ (by decide), fun h_ => absurd h_ (by decide), fun h_ => absurd h_ (by decide)⟩
        ·
         skip
         clear BK364 BK371 HB HO_372000 HO_372001 HO_8 HO_9
         refine steps_cons ?_ ?_
         ·
          rintro b a w' ⟨v415, v418, v421, v424, v427, v430, v433, v436, ha, Q_HO_372000, Q_HO_372001, Q_HO_8, Q_HO_9, Q_BK364, Q_BK371, Q_HB, Q_HO416, Q_HO419, Q_HO422, Q_HO425, Q_HO428, Q_HO431, Q_HO434, Q_HO437⟩ hb_ hon hoff
          refine ⟨_, rfl, fun K hK => ?_⟩
          have e56 : a.tmps[56]? = some (.slice Ao71 t372.length co71) := by rw [ha]; exact (putSel_off rfl).trans rfl
          replace ha := Aside0.mk ha
          have HO_372000 := Aside0.mk Q_HO_372000
          have HO_372001 := Aside0.mk Q_HO_372001
          have HO_8 := Aside0.mk Q_HO_8
          have HO_9 := Aside0.mk Q_HO_9
          have BK364 := Aside0.mk Q_BK364
          have BK371 := Aside0.mk Q_BK371
          have HB := Aside0.mk Q_HB
          refine Kd.N_lit_step (Kd.slice 51 k51) _ 23 ?hg (N' := 57) ?hd (xs := ([t372] : List (List (S51)))) (inner := [.slice Ao71 t372.length co71]) (ok := (fun k_ => k_ ≠ gb364 ∧ k_ ≠ gb371)) (okp := (fun k_ => k_ ≠ gb364 ∧ k_ ≠ gb371)) ?hr ?hp (fun _ hk => hk) ((show ∀ k_, w'.heap.size ≤ k_ → (fun k_ => k_ ≠ gb364 ∧ k_ ≠ gb371) k_ from fun k_ hk => ⟨Kd.freshB (g := gb364) (o := .cells #[.slice A2_0 l2_0.length c2_0, .slice A2_1 l2_1.length c2_1] 40 (0, 0)) (by (with_reducible repeat (first | refine blk_drewN ?_ _ | refine blk_drew ?_ | refine blk_alloc ?_ _)); exact BK364.out) k_ hk, Kd.freshB (g := gb371) (o := .cells #[.slice Ao12 t365.length co12, .slice Ao15 t368.length co15] 43 (0, 0)) (by (with_reducible repeat (first | refine blk_drewN ?_ _ | refine blk_drew ?_ | refine blk_alloc ?_ _)); exact BK371.out) k_ hk⟩) _ (Nat.le_refl _)) (Below.refl _ _) (Nat.le_refl _) (by simp) ?_; (case hd => rfl); (case hg => rfl); (case hr => first | (go_simp; done) | (go_simp; rfl)); (case hp => exact (Reps.one (show Kd.FK (Kd.slice 51 k51) _ _ t372 [.slice Ao71 t372.length co71] from (Kd.FK_slice_mk (Kd.V_reads' (Kd.V_mono (ok' := (fun k_ => k_ ≠ gb364 ∧ k_ ≠ gb371)) (HO_8.out) (fun k_ hk => ⟨hk.1, hk.2⟩))).2.1 (Kd.V_F (Kd.V_mono (ok' := (fun k_ => k_ ≠ gb364 ∧ k_ ≠ gb371)) (HO_8.out) (fun k_ hk => ⟨hk.1, hk.2⟩))))) (Reps.none _ _)))
          intro v415 w74 ho75 hb hg_ hnew_
          clear hg_ hnew_
          (first | rw [← Ny414.out] at ho75 | (simp only [Int.reduceToNat] at ho75; rw [← Ny414.out] at ho75))
          have n0_ := Aside0.mk (Kd.V_elder' (by (with_reducible repeat (first | apply Kd.V_alloc | apply Kd.V_drewN | apply Kd.V_drew)); exact HO_8.out) (by first | exact Kd.N_base ho75 | exact Kd.S_base ho75 | exact Kd.R_base ho75) hb)
          have n1_ := Aside0.mk (Kd.V_elder' (by (with_reducible repeat (first | apply Kd.V_alloc | apply Kd.V_drewN | apply Kd.V_drew)); exact HO_9.out) (by first | exact Kd.N_base ho75 | exact Kd.S_base ho75 | exact Kd.R_base ho75) hb)
          have n2_ := Aside0.mk (Kd.N_elder' (by (with_reducible repeat (first | apply Kd.N_alloc | apply Kd.N_drewN | apply Kd.N_drew)); exact HO_372000.out) (by first | exact Kd.N_base ho75 | exact Kd.S_base ho75 | exact Kd.R_base ho75) hb)
          have n3_ := Aside0.mk (Kd.N_elder' (by (with_reducible repeat (first | apply Kd.N_alloc | apply Kd.N_drewN | apply Kd.N_drew)); exact HO_372001.out) (by first | exact Kd.N_base ho75 | exact Kd.S_base ho75 | exact Kd.R_base ho75) hb)
          have n4_ := Aside0.mk (Kd.N_lower ho75 (below_size (by repeat (first | (with_reducible first | exact HB.out | apply below_alloc | apply pw_below_drewN | apply below_drew1 | refine below_set ?_ GE364.out | refine below_set ?_ GE371.out) | exact HB.out))))
          have n5_ := Aside0.mk (blk_below (g := gb364) (o := .cells #[.slice A2_0 l2_0.length c2_0, .slice A2_1 l2_1.length c2_1] 40 (0, 0)) (by (with_reducible repeat (first | refine blk_drewN ?_ _ | refine blk_drew ?_ | refine blk_alloc ?_ _)); exact BK364.out) hb)
          have n6_ := Aside0.mk (blk_below (g := gb371) (o := .cells #[.slice Ao12 t365.length co12, .slice Ao15 t368.length co15] 43 (0, 0)) (by (with_reducible repeat (first | refine blk_drewN ?_ _ | refine blk_drew ?_ | refine blk_alloc ?_ _)); exact BK371.out) hb)
          have n7_ := Aside0.mk (below_step (by repeat (first | (with_reducible first | exact HB.out | apply below_alloc | apply pw_below_drewN | apply below_drew1 | refine below_set ?_ GE364.out | refine below_set ?_ GE371.out) | exact HB.out)) hb)
          have z_HO422 := fun (h0_ : b 4 = true) => (show Kd.N (Kd.slice 51 k51) 23 w74 w.heap.size (fun k_ => k_ ≠ gb364 ∧ k_ ≠ gb371) v421 y420 from by first | exact (Kd.N_elder' (by (with_reducible repeat (first | apply Kd.N_alloc | apply Kd.N_drewN | apply Kd.N_drew)); exact (Q_HO422 h0_)) (by first | exact Kd.N_base ho75 | exact Kd.S_base ho75 | exact Kd.R_base ho75) hb) | exact Kd.N_mono (Kd.N_elder' (by (with_reducible repeat (first | apply Kd.N_alloc | apply Kd.N_drewN | apply Kd.N_drew)); exact (Q_HO422 h0_)) (by first | exact Kd.N_base ho75 | exact Kd.S_base ho75 | exact Kd.R_base ho75) hb) (fun _ h_ => by first | trivial | exact h_ | exact h_.1))
          clear HO_8
          clear HO_9
          clear HO_372000
          clear HO_372001
          clear BK364
          clear BK371
          clear HB
          have HO_8 := n0_
          have HO_9 := n1_
          have HO_372000 := n2_
          have HO_372001 := n3_
          have HO416 := n4_
          have BK364 := n5_
          have BK371 := n6_
          have HB := n7_
          clear n0_ n1_ n2_ n3_ n4_ n5_ n6_ n7_
          clear hb ho75
          refine hK.out _ _ ⟨v415, v418, v421, v424, v427, v430, v433, v436, (by rw [ha.out]; exact putSel_upk 0 hb_ rfl rfl rfl), (by (with_reducible repeat (first | apply Kd.N_alloc | apply Kd.N_drewN | apply Kd.N_drew)); exact Kd.N_mono HO_372000.out (fun _ hk => by first | exact ⟨hk.2, ⟨hk.1.1, ⟨hk.1.2.1, hk.1.2.2⟩⟩⟩ | exact hk.1 | exact hk)), (by (with_reducible repeat (first | apply Kd.N_alloc | apply Kd.N_drewN | apply Kd.N_drew)); exact Kd.N_mono HO_372001.out (fun _ hk => by first | exact ⟨hk.2, ⟨hk.1.1, ⟨hk.1.2.1, hk.1.2.2⟩⟩⟩ | exact hk.1 | exact hk)), (by (with_reducible repeat (first | apply Kd.V_alloc | apply Kd.V_drewN | apply Kd.V_drew)); exact Kd.V_mono HO_8.out (fun _ hk => by first | exact ⟨hk.2, ⟨hk.1.1, hk.1.2⟩⟩ | exact hk.1 | exact hk)), (by (with_reducible repeat (first | apply Kd.V_alloc | apply Kd.V_drewN | apply Kd.V_drew)); exact Kd.V_mono HO_9.out (fun _ hk => by first | exact ⟨hk.2, ⟨hk.1.1, hk.1.2⟩⟩ | exact hk.1 | exact hk)), (by (with_reducible repeat (first | refine blk_drewN ?_ _ | refine blk_drew ?_ | refine blk_alloc ?_ _)); exact BK364.out), (by (with_reducible repeat (first | refine blk_drewN ?_ _ | refine blk_drew ?_ | refine blk_alloc ?_ _)); exact BK371.out), (by repeat (first | (with_reducible first | exact HB.out | apply below_alloc | apply pw_below_drewN | apply below_drew1 | refine below_set ?_ GE364.out | refine below_set ?_ GE371.out) | exact HB.out)), fun _ => (by (with_reducible repeat (first | apply Kd.N_alloc | apply Kd.N_drewN | apply Kd.N_drew)); exact HO416.out), fun h0_ => absurd ((hoff 2 (by kernel_rfl)).symm.trans h0_) (by decide), z_HO422, fun h0_ => absurd ((hoff 5 (by kernel_rfl)).symm.trans h0_) (by decide), fun h0_ => absurd ((hoff 6 (by kernel_rfl)).symm.trans h0_) (by decide), fun h0_ => absurd ((hoff 7 (by kernel_rfl)).symm.trans h0_) (by decide), fun h0_ => absurd ((hoff 8 (by kernel_rfl)).symm.trans h0_) (by decide), fun h0_ => absurd ((hoff 9 (by kernel_rfl)).symm.trans h0_) (by decide)⟩
         refine steps_cons ?_ ?_
         ·
          rintro b a w' ⟨v415, v418, v421, v424, v427, v430, v433, v436, ha, Q_HO_372000, Q_HO_372001, Q_HO_8, Q_HO_9, Q_BK364, Q_BK371, Q_HB, Q_HO416, Q_HO419, Q_HO422, Q_HO425, Q_HO428, Q_HO431, Q_HO434, Q_HO437⟩ hb_ hon hoff
          refine ⟨_, rfl, fun K hK => ?_⟩
          have e57 : a.tmps[57]? = some (v415) := by rw [ha]; exact putSel_on (e := (1, 57, v415)) 0 rfl rfl (hon 1 (by kernel_rfl)) rfl
          replace ha := Aside0.mk ha
          have HO_372000 := Aside0.mk Q_HO_372000
          have HO_372001 := Aside0.mk Q_HO_372001
          have HO_8 := Aside0.mk Q_HO_8
          have HO_9 := Aside0.mk Q_HO_9
          have BK364 := Aside0.mk Q_BK364
          have BK371 := Aside0.mk Q_BK371
          have HB := Aside0.mk Q_HB
          have HO416 := Aside0.mk (Q_HO416 (hon 1 (by kernel_rfl)))
          obtain ⟨Ao77, co77, eo77⟩ := Kd.N_slice HO416.out
          (first | subst eo77 | (injection eo77 with f1_ f2_ f3_; have f4_ := f1_.symm; have f5_ := f3_.symm; clear f1_ f2_ f3_; subst f4_; subst f5_))
          refine goes_ Tryd.func21 (by kernel_rfl) rfl #[.int .i64 10, .slice Ao77 y414.length co77] (by rfl) rfl rfl (by first | (simp only [List.map_toArray, List.map_cons, List.map_nil, Act.eval, Array.getD_eq_getD_getElem?, Option.getD_some, e57]; done) | (simp only [List.map_toArray, List.map_cons, List.map_nil, Act.eval, Array.getD_eq_getD_getElem?, Option.getD_some, e57]; rfl)) ?_
          with_reducible refine (foretellkeep_joined.calls kj52 10 _ _ y414 t417 _ ?side1 ?side2 A66.out).mono ?_
          (case side1 => repeat (first | exact (Kd.N_reads' HO416.out).2.2 | (with_reducible refine Kd.C_alloc ?_ _) | (with_reducible refine Kd.C_drewN ?_ _) | (with_reducible refine Kd.C_drew ?_)))
          (case side2 => exact (Kd.N_reads' HO416.out).2.1)
          rintro e w78 ⟨v418, rfl, ho0, hb⟩
          refine ⟨_, rfl, ?_⟩
          have n0_ := Aside0.mk (Kd.V_below (by (with_reducible repeat (first | apply Kd.V_alloc | apply Kd.V_drewN | apply Kd.V_drew)); exact HO_8.out) hb)
          have n1_ := Aside0.mk (Kd.V_below (by (with_reducible repeat (first | apply Kd.V_alloc | apply Kd.V_drewN | apply Kd.V_drew)); exact HO_9.out) hb)
          have n2_ := Aside0.mk (Kd.N_below (by (with_reducible repeat (first | apply Kd.N_alloc | apply Kd.N_drewN | apply Kd.N_drew)); exact HO_372000.out) hb)
          have n3_ := Aside0.mk (Kd.N_below (by (with_reducible repeat (first | apply Kd.N_alloc | apply Kd.N_drewN | apply Kd.N_drew)); exact HO_372001.out) hb)
          have n4_ := Aside0.mk (Kd.N_below (by (with_reducible repeat (first | apply Kd.N_alloc | apply Kd.N_drewN | apply Kd.N_drew)); exact HO416.out) hb)
          have n5_ := Aside0.mk (Kd.V_lower (Kd.V_mono (ok' := fun k_ => k_ ≠ gb364 ∧ k_ ≠ gb371) (Kd.R_V (Kd.R_bound ho0)) (fun k_ hk_ => ⟨(Kd.freshB (g := gb364) (o := .cells #[.slice A2_0 l2_0.length c2_0, .slice A2_1 l2_1.length c2_1] 40 (0, 0)) (by (with_reducible repeat (first | refine blk_drewN ?_ _ | refine blk_drew ?_ | refine blk_alloc ?_ _)); exact BK364.out) k_ hk_.2.1), (Kd.freshB (g := gb371) (o := .cells #[.slice Ao12 t365.length co12, .slice Ao15 t368.length co15] 43 (0, 0)) (by (with_reducible repeat (first | refine blk_drewN ?_ _ | refine blk_drew ?_ | refine blk_alloc ?_ _)); exact BK371.out) k_ hk_.2.1)⟩)) (below_size (by repeat (first | (with_reducible first | exact HB.out | apply below_alloc | apply pw_below_drewN | apply below_drew1 | refine below_set ?_ GE364.out | refine below_set ?_ GE371.out) | exact HB.out))))
          have n6_ := Aside0.mk (blk_below (g := gb364) (o := .cells #[.slice A2_0 l2_0.length c2_0, .slice A2_1 l2_1.length c2_1] 40 (0, 0)) (by (with_reducible repeat (first | refine blk_drewN ?_ _ | refine blk_drew ?_ | refine blk_alloc ?_ _)); exact BK364.out) hb)
          have n7_ := Aside0.mk (blk_below (g := gb371) (o := .cells #[.slice Ao12 t365.length co12, .slice Ao15 t368.length co15] 43 (0, 0)) (by (with_reducible repeat (first | refine blk_drewN ?_ _ | refine blk_drew ?_ | refine blk_alloc ?_ _)); exact BK371.out) hb)
          have n8_ := Aside0.mk (below_step (by repeat (first | (with_reducible first | exact HB.out | apply below_alloc | apply pw_below_drewN | apply below_drew1 | refine below_set ?_ GE364.out | refine below_set ?_ GE371.out) | exact HB.out)) hb)
          have z_HO422 := fun (h0_ : b 4 = true) => (show Kd.N (Kd.slice 51 k51) 23 w78 w.heap.size (fun k_ => k_ ≠ gb364 ∧ k_ ≠ gb371) v421 y420 from by first | exact (Kd.N_below (by (with_reducible repeat (first | apply Kd.N_alloc | apply Kd.N_drewN | apply Kd.N_drew)); exact (Q_HO422 h0_)) hb) | exact Kd.N_mono (Kd.N_below (by (with_reducible repeat (first | apply Kd.N_alloc | apply Kd.N_drewN | apply Kd.N_drew)); exact (Q_HO422 h0_)) hb) (fun _ h_ => by first | trivial | exact h_ | exact h_.1))
          clear HO_8
          clear HO_9
          clear HO_372000
          clear HO_372001
          clear HO416
          clear BK364
          clear BK371
          clear HB
          have HO_8 := n0_
          have HO_9 := n1_
          have HO_372000 := n2_
          have HO_372001 := n3_
          have HO416 := n4_
          have HO419 := n5_
          have BK364 := n6_
          have BK371 := n7_
          have HB := n8_
          clear n0_ n1_ n2_ n3_ n4_ n5_ n6_ n7_ n8_
          (try clear hb)
          (try clear hb2)
          (try clear hk)
          (try clear hi)
          (try clear ho0)
          refine hK.out _ _ ⟨.slice Ao77 y414.length co77, v418, v421, v424, v427, v430, v433, v436, (by rw [ha.out]; exact putSel_upk 1 hb_ rfl rfl rfl), (by (with_reducible repeat (first | apply Kd.N_alloc | apply Kd.N_drewN | apply Kd.N_drew)); exact HO_372000.out), (by (with_reducible repeat (first | apply Kd.N_alloc | apply Kd.N_drewN | apply Kd.N_drew)); exact HO_372001.out), (by (with_reducible repeat (first | apply Kd.V_alloc | apply Kd.V_drewN | apply Kd.V_drew)); exact HO_8.out), (by (with_reducible repeat (first | apply Kd.V_alloc | apply Kd.V_drewN | apply Kd.V_drew)); exact HO_9.out), (by (with_reducible repeat (first | refine blk_drewN ?_ _ | refine blk_drew ?_ | refine blk_alloc ?_ _)); exact BK364.out), (by (with_reducible repeat (first | refine blk_drewN ?_ _ | refine blk_drew ?_ | refine blk_alloc ?_ _)); exact BK371.out), (by repeat (first | (with_reducible first | exact HB.out | apply below_alloc | apply pw_below_drewN | apply below_drew1 | refine below_set ?_ GE364.out | refine below_set ?_ GE371.out) | exact HB.out)), fun _ => (by (with_reducible repeat (first | apply Kd.N_alloc | apply Kd.N_drewN | apply Kd.N_drew)); exact HO416.out), fun _ => (by (with_reducible repeat (first | apply Kd.V_alloc | apply Kd.V_drewN | apply Kd.V_drew)); exact HO419.out), z_HO422, fun h0_ => absurd ((hoff 5 (by kernel_rfl)).symm.trans h0_) (by decide), fun h0_ => absurd ((hoff 6 (by kernel_rfl)).symm.trans h0_) (by decide), fun h0_ => absurd ((hoff 7 (by kernel_rfl)).symm.trans h0_) (by decide), fun h0_ => absurd ((hoff 8 (by kernel_rfl)).symm.trans h0_) (by decide), fun h0_ => absurd ((hoff 9 (by kernel_rfl)).symm.trans h0_) (by decide)⟩
         refine steps_cons ?_ ?_
         ·
          rintro b a w' ⟨v415, v418, v421, v424, v427, v430, v433, v436, ha, Q_HO_372000, Q_HO_372001, Q_HO_8, Q_HO_9, Q_BK364, Q_BK371, Q_HB, Q_HO416, Q_HO419, Q_HO422, Q_HO425, Q_HO428, Q_HO431, Q_HO434, Q_HO437⟩ hb_ hon hoff
          refine ⟨_, rfl, fun K hK => ?_⟩
          have e59 : a.tmps[59]? = some (.slice Ao72 t375.length co72) := by rw [ha]; exact (putSel_off rfl).trans rfl
          replace ha := Aside0.mk ha
          have HO_372000 := Aside0.mk Q_HO_372000
          have HO_372001 := Aside0.mk Q_HO_372001
          have HO_8 := Aside0.mk Q_HO_8
          have HO_9 := Aside0.mk Q_HO_9
          have BK364 := Aside0.mk Q_BK364
          have BK371 := Aside0.mk Q_BK371
          have HB := Aside0.mk Q_HB
          refine Kd.N_lit_step (Kd.slice 51 k51) _ 23 ?hg (N' := 60) ?hd (xs := ([t375] : List (List (S51)))) (inner := [.slice Ao72 t375.length co72]) (ok := (fun k_ => k_ ≠ gb364 ∧ k_ ≠ gb371)) (okp := (fun k_ => k_ ≠ gb364 ∧ k_ ≠ gb371)) ?hr ?hp (fun _ hk => hk) ((show ∀ k_, w'.heap.size ≤ k_ → (fun k_ => k_ ≠ gb364 ∧ k_ ≠ gb371) k_ from fun k_ hk => ⟨Kd.freshB (g := gb364) (o := .cells #[.slice A2_0 l2_0.length c2_0, .slice A2_1 l2_1.length c2_1] 40 (0, 0)) (by (with_reducible repeat (first | refine blk_drewN ?_ _ | refine blk_drew ?_ | refine blk_alloc ?_ _)); exact BK364.out) k_ hk, Kd.freshB (g := gb371) (o := .cells #[.slice Ao12 t365.length co12, .slice Ao15 t368.length co15] 43 (0, 0)) (by (with_reducible repeat (first | refine blk_drewN ?_ _ | refine blk_drew ?_ | refine blk_alloc ?_ _)); exact BK371.out) k_ hk⟩) _ (Nat.le_refl _)) (Below.refl _ _) (Nat.le_refl _) (by simp) ?_; (case hd => rfl); (case hg => rfl); (case hr => first | (go_simp; done) | (go_simp; rfl)); (case hp => exact (Reps.one (show Kd.FK (Kd.slice 51 k51) _ _ t375 [.slice Ao72 t375.length co72] from (Kd.FK_slice_mk (Kd.V_reads' (Kd.V_mono (ok' := (fun k_ => k_ ≠ gb364 ∧ k_ ≠ gb371)) (HO_9.out) (fun k_ hk => ⟨hk.1, hk.2⟩))).2.1 (Kd.V_F (Kd.V_mono (ok' := (fun k_ => k_ ≠ gb364 ∧ k_ ≠ gb371)) (HO_9.out) (fun k_ hk => ⟨hk.1, hk.2⟩))))) (Reps.none _ _)))
          intro v421 w74 ho75 hb hg_ hnew_
          clear hg_ hnew_
          (first | rw [← Ny420.out] at ho75 | (simp only [Int.reduceToNat] at ho75; rw [← Ny420.out] at ho75))
          have n0_ := Aside0.mk (Kd.V_elder' (by (with_reducible repeat (first | apply Kd.V_alloc | apply Kd.V_drewN | apply Kd.V_drew)); exact HO_8.out) (by first | exact Kd.N_base ho75 | exact Kd.S_base ho75 | exact Kd.R_base ho75) hb)
          have n1_ := Aside0.mk (Kd.V_elder' (by (with_reducible repeat (first | apply Kd.V_alloc | apply Kd.V_drewN | apply Kd.V_drew)); exact HO_9.out) (by first | exact Kd.N_base ho75 | exact Kd.S_base ho75 | exact Kd.R_base ho75) hb)
          have n2_ := Aside0.mk (Kd.N_elder' (by (with_reducible repeat (first | apply Kd.N_alloc | apply Kd.N_drewN | apply Kd.N_drew)); exact HO_372000.out) (by first | exact Kd.N_base ho75 | exact Kd.S_base ho75 | exact Kd.R_base ho75) hb)
          have n3_ := Aside0.mk (Kd.N_elder' (by (with_reducible repeat (first | apply Kd.N_alloc | apply Kd.N_drewN | apply Kd.N_drew)); exact HO_372001.out) (by first | exact Kd.N_base ho75 | exact Kd.S_base ho75 | exact Kd.R_base ho75) hb)
          have n4_ := Aside0.mk (Kd.N_lower ho75 (below_size (by repeat (first | (with_reducible first | exact HB.out | apply below_alloc | apply pw_below_drewN | apply below_drew1 | refine below_set ?_ GE364.out | refine below_set ?_ GE371.out) | exact HB.out))))
          have n5_ := Aside0.mk (blk_below (g := gb364) (o := .cells #[.slice A2_0 l2_0.length c2_0, .slice A2_1 l2_1.length c2_1] 40 (0, 0)) (by (with_reducible repeat (first | refine blk_drewN ?_ _ | refine blk_drew ?_ | refine blk_alloc ?_ _)); exact BK364.out) hb)
          have n6_ := Aside0.mk (blk_below (g := gb371) (o := .cells #[.slice Ao12 t365.length co12, .slice Ao15 t368.length co15] 43 (0, 0)) (by (with_reducible repeat (first | refine blk_drewN ?_ _ | refine blk_drew ?_ | refine blk_alloc ?_ _)); exact BK371.out) hb)
          have n7_ := Aside0.mk (below_step (by repeat (first | (with_reducible first | exact HB.out | apply below_alloc | apply pw_below_drewN | apply below_drew1 | refine below_set ?_ GE364.out | refine below_set ?_ GE371.out) | exact HB.out)) hb)
          have z_HO416 := fun (h0_ : b 1 = true) => (show Kd.N (Kd.slice 51 k51) 23 w74 w.heap.size (fun k_ => k_ ≠ gb364 ∧ k_ ≠ gb371) v415 y414 from by first | exact (Kd.N_elder' (by (with_reducible repeat (first | apply Kd.N_alloc | apply Kd.N_drewN | apply Kd.N_drew)); exact (Q_HO416 h0_)) (by first | exact Kd.N_base ho75 | exact Kd.S_base ho75 | exact Kd.R_base ho75) hb) | exact Kd.N_mono (Kd.N_elder' (by (with_reducible repeat (first | apply Kd.N_alloc | apply Kd.N_drewN | apply Kd.N_drew)); exact (Q_HO416 h0_)) (by first | exact Kd.N_base ho75 | exact Kd.S_base ho75 | exact Kd.R_base ho75) hb) (fun _ h_ => by first | trivial | exact h_ | exact h_.1))
          have z_HO419 := fun (h0_ : b 2 = true) => (show Kd.V k51 51 w74 w.heap.size (fun k_ => k_ ≠ gb364 ∧ k_ ≠ gb371) v418 t417 from by first | exact (Kd.V_elder' (by (with_reducible repeat (first | apply Kd.V_alloc | apply Kd.V_drewN | apply Kd.V_drew)); exact (Q_HO419 h0_)) (by first | exact Kd.N_base ho75 | exact Kd.S_base ho75 | exact Kd.R_base ho75) hb) | exact Kd.V_mono (Kd.V_elder' (by (with_reducible repeat (first | apply Kd.V_alloc | apply Kd.V_drewN | apply Kd.V_drew)); exact (Q_HO419 h0_)) (by first | exact Kd.N_base ho75 | exact Kd.S_base ho75 | exact Kd.R_base ho75) hb) (fun _ h_ => by first | trivial | exact h_ | exact h_.1))
          clear HO_8
          clear HO_9
          clear HO_372000
          clear HO_372001
          clear BK364
          clear BK371
          clear HB
          have HO_8 := n0_
          have HO_9 := n1_
          have HO_372000 := n2_
          have HO_372001 := n3_
          have HO422 := n4_
          have BK364 := n5_
          have BK371 := n6_
          have HB := n7_
          clear n0_ n1_ n2_ n3_ n4_ n5_ n6_ n7_
          clear hb ho75
          refine hK.out _ _ ⟨v415, v418, v421, v424, v427, v430, v433, v436, (by rw [ha.out]; exact putSel_upk 2 hb_ rfl rfl rfl), (by (with_reducible repeat (first | apply Kd.N_alloc | apply Kd.N_drewN | apply Kd.N_drew)); exact Kd.N_mono HO_372000.out (fun _ hk => by first | exact ⟨hk.2, ⟨hk.1.1, ⟨hk.1.2.1, hk.1.2.2⟩⟩⟩ | exact hk.1 | exact hk)), (by (with_reducible repeat (first | apply Kd.N_alloc | apply Kd.N_drewN | apply Kd.N_drew)); exact Kd.N_mono HO_372001.out (fun _ hk => by first | exact ⟨hk.2, ⟨hk.1.1, ⟨hk.1.2.1, hk.1.2.2⟩⟩⟩ | exact hk.1 | exact hk)), (by (with_reducible repeat (first | apply Kd.V_alloc | apply Kd.V_drewN | apply Kd.V_drew)); exact Kd.V_mono HO_8.out (fun _ hk => by first | exact ⟨hk.2, ⟨hk.1.1, hk.1.2⟩⟩ | exact hk.1 | exact hk)), (by (with_reducible repeat (first | apply Kd.V_alloc | apply Kd.V_drewN | apply Kd.V_drew)); exact Kd.V_mono HO_9.out (fun _ hk => by first | exact ⟨hk.2, ⟨hk.1.1, hk.1.2⟩⟩ | exact hk.1 | exact hk)), (by (with_reducible repeat (first | refine blk_drewN ?_ _ | refine blk_drew ?_ | refine blk_alloc ?_ _)); exact BK364.out), (by (with_reducible repeat (first | refine blk_drewN ?_ _ | refine blk_drew ?_ | refine blk_alloc ?_ _)); exact BK371.out), (by repeat (first | (with_reducible first | exact HB.out | apply below_alloc | apply pw_below_drewN | apply below_drew1 | refine below_set ?_ GE364.out | refine below_set ?_ GE371.out) | exact HB.out)), z_HO416, z_HO419, fun _ => (by (with_reducible repeat (first | apply Kd.N_alloc | apply Kd.N_drewN | apply Kd.N_drew)); exact HO422.out), fun h0_ => absurd ((hoff 5 (by kernel_rfl)).symm.trans h0_) (by decide), fun h0_ => absurd ((hoff 6 (by kernel_rfl)).symm.trans h0_) (by decide), fun h0_ => absurd ((hoff 7 (by kernel_rfl)).symm.trans h0_) (by decide), fun h0_ => absurd ((hoff 8 (by kernel_rfl)).symm.trans h0_) (by decide), fun h0_ => absurd ((hoff 9 (by kernel_rfl)).symm.trans h0_) (by decide)⟩
         refine steps_cons ?_ ?_
         ·
          rintro b a w' ⟨v415, v418, v421, v424, v427, v430, v433, v436, ha, Q_HO_372000, Q_HO_372001, Q_HO_8, Q_HO_9, Q_BK364, Q_BK371, Q_HB, Q_HO416, Q_HO419, Q_HO422, Q_HO425, Q_HO428, Q_HO431, Q_HO434, Q_HO437⟩ hb_ hon hoff
          refine ⟨_, rfl, fun K hK => ?_⟩
          have e60 : a.tmps[60]? = some (v421) := by rw [ha]; exact putSel_on (e := (4, 60, v421)) 2 rfl rfl (hon 4 (by kernel_rfl)) rfl
          replace ha := Aside0.mk ha
          have HO_372000 := Aside0.mk Q_HO_372000
          have HO_372001 := Aside0.mk Q_HO_372001
          have HO_8 := Aside0.mk Q_HO_8
          have HO_9 := Aside0.mk Q_HO_9
          have BK364 := Aside0.mk Q_BK364
          have BK371 := Aside0.mk Q_BK371
          have HB := Aside0.mk Q_HB
          have HO416 := Aside0.mk (Q_HO416 (hon 1 (by kernel_rfl)))
          have HO419 := Aside0.mk (Q_HO419 (hon 2 (by kernel_rfl)))
          have HO422 := Aside0.mk (Q_HO422 (hon 4 (by kernel_rfl)))
          obtain ⟨Ao81, co81, eo81⟩ := Kd.N_slice HO422.out
          (first | subst eo81 | (injection eo81 with f1_ f2_ f3_; have f4_ := f1_.symm; have f5_ := f3_.symm; clear f1_ f2_ f3_; subst f4_; subst f5_))
          refine goes_ Tryd.func21 (by kernel_rfl) rfl #[.int .i64 10, .slice Ao81 y420.length co81] (by rfl) rfl rfl (by first | (simp only [List.map_toArray, List.map_cons, List.map_nil, Act.eval, Array.getD_eq_getD_getElem?, Option.getD_some, e60]; done) | (simp only [List.map_toArray, List.map_cons, List.map_nil, Act.eval, Array.getD_eq_getD_getElem?, Option.getD_some, e60]; rfl)) ?_
          with_reducible refine (foretellkeep_joined.calls kj52 10 _ _ y420 t423 _ ?side1 ?side2 A67.out).mono ?_
          (case side1 => repeat (first | exact (Kd.N_reads' HO422.out).2.2 | (with_reducible refine Kd.C_alloc ?_ _) | (with_reducible refine Kd.C_drewN ?_ _) | (with_reducible refine Kd.C_drew ?_)))
          (case side2 => exact (Kd.N_reads' HO422.out).2.1)
          rintro e w82 ⟨v424, rfl, ho0, hb⟩
          refine ⟨_, rfl, ?_⟩
          have n0_ := Aside0.mk (Kd.V_below (by (with_reducible repeat (first | apply Kd.V_alloc | apply Kd.V_drewN | apply Kd.V_drew)); exact HO_8.out) hb)
          have n1_ := Aside0.mk (Kd.V_below (by (with_reducible repeat (first | apply Kd.V_alloc | apply Kd.V_drewN | apply Kd.V_drew)); exact HO_9.out) hb)
          have n2_ := Aside0.mk (Kd.N_below (by (with_reducible repeat (first | apply Kd.N_alloc | apply Kd.N_drewN | apply Kd.N_drew)); exact HO_372000.out) hb)
          have n3_ := Aside0.mk (Kd.N_below (by (with_reducible repeat (first | apply Kd.N_alloc | apply Kd.N_drewN | apply Kd.N_drew)); exact HO_372001.out) hb)
          have n4_ := Aside0.mk (Kd.N_below (by (with_reducible repeat (first | apply Kd.N_alloc | apply Kd.N_drewN | apply Kd.N_drew)); exact HO416.out) hb)
          have n5_ := Aside0.mk (Kd.V_below (by (with_reducible repeat (first | apply Kd.V_alloc | apply Kd.V_drewN | apply Kd.V_drew)); exact HO419.out) hb)
          have n6_ := Aside0.mk (Kd.N_below (by (with_reducible repeat (first | apply Kd.N_alloc | apply Kd.N_drewN | apply Kd.N_drew)); exact HO422.out) hb)
          have n7_ := Aside0.mk (Kd.V_lower (Kd.V_mono (ok' := fun k_ => k_ ≠ gb364 ∧ k_ ≠ gb371) (Kd.R_V (Kd.R_bound ho0)) (fun k_ hk_ => ⟨(Kd.freshB (g := gb364) (o := .cells #[.slice A2_0 l2_0.length c2_0, .slice A2_1 l2_1.length c2_1] 40 (0, 0)) (by (with_reducible repeat (first | refine blk_drewN ?_ _ | refine blk_drew ?_ | refine blk_alloc ?_ _)); exact BK364.out) k_ hk_.2.1), (Kd.freshB (g := gb371) (o := .cells #[.slice Ao12 t365.length co12, .slice Ao15 t368.length co15] 43 (0, 0)) (by (with_reducible repeat (first | refine blk_drewN ?_ _ | refine blk_drew ?_ | refine blk_alloc ?_ _)); exact BK371.out) k_ hk_.2.1)⟩)) (below_size (by repeat (first | (with_reducible first | exact HB.out | apply below_alloc | apply pw_below_drewN | apply below_drew1 | refine below_set ?_ GE364.out | refine below_set ?_ GE371.out) | exact HB.out))))
          have n8_ := Aside0.mk (blk_below (g := gb364) (o := .cells #[.slice A2_0 l2_0.length c2_0, .slice A2_1 l2_1.length c2_1] 40 (0, 0)) (by (with_reducible repeat (first | refine blk_drewN ?_ _ | refine blk_drew ?_ | refine blk_alloc ?_ _)); exact BK364.out) hb)
          have n9_ := Aside0.mk (blk_below (g := gb371) (o := .cells #[.slice Ao12 t365.length co12, .slice Ao15 t368.length co15] 43 (0, 0)) (by (with_reducible repeat (first | refine blk_drewN ?_ _ | refine blk_drew ?_ | refine blk_alloc ?_ _)); exact BK371.out) hb)
          have n10_ := Aside0.mk (below_step (by repeat (first | (with_reducible first | exact HB.out | apply below_alloc | apply pw_below_drewN | apply below_drew1 | refine below_set ?_ GE364.out | refine below_set ?_ GE371.out) | exact HB.out)) hb)
          clear HO_8
          clear HO_9
          clear HO_372000
          clear HO_372001
          clear HO416
          clear HO419
          clear HO422
          clear BK364
          clear BK371
          clear HB
          have HO_8 := n0_
          have HO_9 := n1_
          have HO_372000 := n2_
          have HO_372001 := n3_
          have HO416 := n4_
          have HO419 := n5_
          have HO422 := n6_
          have HO425 := n7_
          have BK364 := n8_
          have BK371 := n9_
          have HB := n10_
          clear n0_ n1_ n2_ n3_ n4_ n5_ n6_ n7_ n8_ n9_ n10_
          (try clear hb)
          (try clear hb2)
          (try clear hk)
          (try clear hi)
          (try clear ho0)
          refine hK.out _ _ ⟨v415, v418, .slice Ao81 y420.length co81, v424, v427, v430, v433, v436, (by rw [ha.out]; exact putSel_upk 3 hb_ rfl rfl rfl), (by (with_reducible repeat (first | apply Kd.N_alloc | apply Kd.N_drewN | apply Kd.N_drew)); exact HO_372000.out), (by (with_reducible repeat (first | apply Kd.N_alloc | apply Kd.N_drewN | apply Kd.N_drew)); exact HO_372001.out), (by (with_reducible repeat (first | apply Kd.V_alloc | apply Kd.V_drewN | apply Kd.V_drew)); exact HO_8.out), (by (with_reducible repeat (first | apply Kd.V_alloc | apply Kd.V_drewN | apply Kd.V_drew)); exact HO_9.out), (by (with_reducible repeat (first | refine blk_drewN ?_ _ | refine blk_drew ?_ | refine blk_alloc ?_ _)); exact BK364.out), (by (with_reducible repeat (first | refine blk_drewN ?_ _ | refine blk_drew ?_ | refine blk_alloc ?_ _)); exact BK371.out), (by repeat (first | (with_reducible first | exact HB.out | apply below_alloc | apply pw_below_drewN | apply below_drew1 | refine below_set ?_ GE364.out | refine below_set ?_ GE371.out) | exact HB.out)), fun _ => (by (with_reducible repeat (first | apply Kd.N_alloc | apply Kd.N_drewN | apply Kd.N_drew)); exact HO416.out), fun _ => (by (with_reducible repeat (first | apply Kd.V_alloc | apply Kd.V_drewN | apply Kd.V_drew)); exact HO419.out), fun _ => (by (with_reducible repeat (first | apply Kd.N_alloc | apply Kd.N_drewN | apply Kd.N_drew)); exact HO422.out), fun _ => (by (with_reducible repeat (first | apply Kd.V_alloc | apply Kd.V_drewN | apply Kd.V_drew)); exact HO425.out), fun h0_ => absurd ((hoff 6 (by kernel_rfl)).symm.trans h0_) (by decide), fun h0_ => absurd ((hoff 7 (by kernel_rfl)).symm.trans h0_) (by decide), fun h0_ => absurd ((hoff 8 (by kernel_rfl)).symm.trans h0_) (by decide), fun h0_ => absurd ((hoff 9 (by kernel_rfl)).symm.trans h0_) (by decide)⟩
         refine steps_cons ?_ ?_
         ·
          rintro b a w' ⟨v415, v418, v421, v424, v427, v430, v433, v436, ha, Q_HO_372000, Q_HO_372001, Q_HO_8, Q_HO_9, Q_BK364, Q_BK371, Q_HB, Q_HO416, Q_HO419, Q_HO422, Q_HO425, Q_HO428, Q_HO431, Q_HO434, Q_HO437⟩ hb_ hon hoff
          refine ⟨_, rfl, fun K hK => ?_⟩
          have e58 : a.tmps[58]? = some (v418) := by rw [ha]; exact putSel_on (e := (2, 58, v418)) 1 rfl rfl (hon 2 (by kernel_rfl)) rfl
          have e61 : a.tmps[61]? = some (v424) := by rw [ha]; exact putSel_on (e := (5, 61, v424)) 3 rfl rfl (hon 5 (by kernel_rfl)) rfl
          replace ha := Aside0.mk ha
          have HO_372000 := Aside0.mk Q_HO_372000
          have HO_372001 := Aside0.mk Q_HO_372001
          have HO_8 := Aside0.mk Q_HO_8
          have HO_9 := Aside0.mk Q_HO_9
          have BK364 := Aside0.mk Q_BK364
          have BK371 := Aside0.mk Q_BK371
          have HB := Aside0.mk Q_HB
          have HO416 := Aside0.mk (Q_HO416 (hon 1 (by kernel_rfl)))
          have HO419 := Aside0.mk (Q_HO419 (hon 2 (by kernel_rfl)))
          have HO422 := Aside0.mk (Q_HO422 (hon 4 (by kernel_rfl)))
          have HO425 := Aside0.mk (Q_HO425 (hon 5 (by kernel_rfl)))
          obtain ⟨Ao83, co83, eo83⟩ := Kd.V_slice HO419.out
          (first | subst eo83 | (injection eo83 with f1_ f2_ f3_; have f4_ := f1_.symm; have f5_ := f3_.symm; clear f1_ f2_ f3_; subst f4_; subst f5_))
          obtain ⟨Ao84, co84, eo84⟩ := Kd.V_slice HO425.out
          (first | subst eo84 | (injection eo84 with f1_ f2_ f3_; have f4_ := f1_.symm; have f5_ := f3_.symm; clear f1_ f2_ f3_; subst f4_; subst f5_))
          refine Kd.N_lit_step (Kd.slice 51 k51) _ 23 ?hg (N' := 62) ?hd (xs := ([t417, t423] : List (List (S51)))) (inner := [.slice Ao83 t417.length co83, .slice Ao84 t423.length co84]) (ok := (fun k_ => k_ ≠ gb364 ∧ k_ ≠ gb371)) (okp := (fun k_ => k_ ≠ gb364 ∧ k_ ≠ gb371)) ?hr ?hp (fun _ hk => hk) ((show ∀ k_, w'.heap.size ≤ k_ → (fun k_ => k_ ≠ gb364 ∧ k_ ≠ gb371) k_ from fun k_ hk => ⟨Kd.freshB (g := gb364) (o := .cells #[.slice A2_0 l2_0.length c2_0, .slice A2_1 l2_1.length c2_1] 40 (0, 0)) (by (with_reducible repeat (first | refine blk_drewN ?_ _ | refine blk_drew ?_ | refine blk_alloc ?_ _)); exact BK364.out) k_ hk, Kd.freshB (g := gb371) (o := .cells #[.slice Ao12 t365.length co12, .slice Ao15 t368.length co15] 43 (0, 0)) (by (with_reducible repeat (first | refine blk_drewN ?_ _ | refine blk_drew ?_ | refine blk_alloc ?_ _)); exact BK371.out) k_ hk⟩) _ (Nat.le_refl _)) (Below.refl _ _) (Nat.le_refl _) (by simp) ?_; (case hd => rfl); (case hg => rfl); (case hr => first | (go_simp; done) | (go_simp; rfl)); (case hp => exact (Reps.one (show Kd.FK (Kd.slice 51 k51) _ _ t417 [.slice Ao83 t417.length co83] from (Kd.FK_slice_mk (Kd.V_reads' (Kd.V_mono (ok' := (fun k_ => k_ ≠ gb364 ∧ k_ ≠ gb371)) (HO419.out) (fun k_ hk => by first | exact ⟨hk.2.1, hk.2.2⟩ | exact hk))).2.1 (Kd.V_F (Kd.V_mono (ok' := (fun k_ => k_ ≠ gb364 ∧ k_ ≠ gb371)) (HO419.out) (fun k_ hk => by first | exact ⟨hk.2.1, hk.2.2⟩ | exact hk))))) (Reps.one (show Kd.FK (Kd.slice 51 k51) _ _ t423 [.slice Ao84 t423.length co84] from (Kd.FK_slice_mk (Kd.V_reads' (Kd.V_mono (ok' := (fun k_ => k_ ≠ gb364 ∧ k_ ≠ gb371)) (HO425.out) (fun k_ hk => by first | exact ⟨hk.1, hk.2⟩ | exact hk))).2.1 (Kd.V_F (Kd.V_mono (ok' := (fun k_ => k_ ≠ gb364 ∧ k_ ≠ gb371)) (HO425.out) (fun k_ hk => by first | exact ⟨hk.1, hk.2⟩ | exact hk))))) (Reps.none _ _))))
          intro v427 w85 ho86 hb hg_ hnew_
          clear hg_ hnew_
          (first | rw [← Ny426.out] at ho86 | (simp only [Int.reduceToNat] at ho86; rw [← Ny426.out] at ho86))
          have n0_ := Aside0.mk (Kd.V_elder' (by (with_reducible repeat (first | apply Kd.V_alloc | apply Kd.V_drewN | apply Kd.V_drew)); exact HO_8.out) (by first | exact Kd.N_base ho86 | exact Kd.S_base ho86 | exact Kd.R_base ho86) hb)
          have n1_ := Aside0.mk (Kd.V_elder' (by (with_reducible repeat (first | apply Kd.V_alloc | apply Kd.V_drewN | apply Kd.V_drew)); exact HO_9.out) (by first | exact Kd.N_base ho86 | exact Kd.S_base ho86 | exact Kd.R_base ho86) hb)
          have n2_ := Aside0.mk (Kd.N_elder' (by (with_reducible repeat (first | apply Kd.N_alloc | apply Kd.N_drewN | apply Kd.N_drew)); exact HO_372000.out) (by first | exact Kd.N_base ho86 | exact Kd.S_base ho86 | exact Kd.R_base ho86) hb)
          have n3_ := Aside0.mk (Kd.N_elder' (by (with_reducible repeat (first | apply Kd.N_alloc | apply Kd.N_drewN | apply Kd.N_drew)); exact HO_372001.out) (by first | exact Kd.N_base ho86 | exact Kd.S_base ho86 | exact Kd.R_base ho86) hb)
          have n4_ := Aside0.mk (Kd.N_elder' (by (with_reducible repeat (first | apply Kd.N_alloc | apply Kd.N_drewN | apply Kd.N_drew)); exact HO416.out) (by first | exact Kd.N_base ho86 | exact Kd.S_base ho86 | exact Kd.R_base ho86) hb)
          have n5_ := Aside0.mk (Kd.V_elder' (by (with_reducible repeat (first | apply Kd.V_alloc | apply Kd.V_drewN | apply Kd.V_drew)); exact HO419.out) (by first | exact Kd.N_base ho86 | exact Kd.S_base ho86 | exact Kd.R_base ho86) hb)
          have n6_ := Aside0.mk (Kd.N_elder' (by (with_reducible repeat (first | apply Kd.N_alloc | apply Kd.N_drewN | apply Kd.N_drew)); exact HO422.out) (by first | exact Kd.N_base ho86 | exact Kd.S_base ho86 | exact Kd.R_base ho86) hb)
          have n7_ := Aside0.mk (Kd.V_elder' (by (with_reducible repeat (first | apply Kd.V_alloc | apply Kd.V_drewN | apply Kd.V_drew)); exact HO425.out) (by first | exact Kd.N_base ho86 | exact Kd.S_base ho86 | exact Kd.R_base ho86) hb)
          have n8_ := Aside0.mk (Kd.N_lower ho86 (below_size (by repeat (first | (with_reducible first | exact HB.out | apply below_alloc | apply pw_below_drewN | apply below_drew1 | refine below_set ?_ GE364.out | refine below_set ?_ GE371.out) | exact HB.out))))
          have n9_ := Aside0.mk (blk_below (g := gb364) (o := .cells #[.slice A2_0 l2_0.length c2_0, .slice A2_1 l2_1.length c2_1] 40 (0, 0)) (by (with_reducible repeat (first | refine blk_drewN ?_ _ | refine blk_drew ?_ | refine blk_alloc ?_ _)); exact BK364.out) hb)
          have n10_ := Aside0.mk (blk_below (g := gb371) (o := .cells #[.slice Ao12 t365.length co12, .slice Ao15 t368.length co15] 43 (0, 0)) (by (with_reducible repeat (first | refine blk_drewN ?_ _ | refine blk_drew ?_ | refine blk_alloc ?_ _)); exact BK371.out) hb)
          have n11_ := Aside0.mk (below_step (by repeat (first | (with_reducible first | exact HB.out | apply below_alloc | apply pw_below_drewN | apply below_drew1 | refine below_set ?_ GE364.out | refine below_set ?_ GE371.out) | exact HB.out)) hb)
          clear HO_8
          clear HO_9
          clear HO_372000
          clear HO_372001
          clear HO416
          clear HO419
          clear HO422
          clear HO425
          clear BK364
          clear BK371
          clear HB
          have HO_8 := n0_
          have HO_9 := n1_
          have HO_372000 := n2_
          have HO_372001 := n3_
          have HO416 := n4_
          have HO419 := n5_
          have HO422 := n6_
          have HO425 := n7_
          have HO428 := n8_
          have BK364 := n9_
          have BK371 := n10_
          have HB := n11_
          clear n0_ n1_ n2_ n3_ n4_ n5_ n6_ n7_ n8_ n9_ n10_ n11_
          clear hb ho86
          refine hK.out _ _ ⟨v415, .slice Ao83 t417.length co83, v421, .slice Ao84 t423.length co84, v427, v430, v433, v436, (by rw [ha.out]; exact putSel_upk 4 hb_ rfl rfl rfl), (by (with_reducible repeat (first | apply Kd.N_alloc | apply Kd.N_drewN | apply Kd.N_drew)); exact Kd.N_mono HO_372000.out (fun _ hk => by first | exact ⟨hk.1.1, ⟨hk.1.2.1, ⟨hk.2, ⟨hk.1.2.2.1, ⟨hk.1.2.2.2.1, hk.1.2.2.2.2⟩⟩⟩⟩⟩ | exact hk.1 | exact hk)), (by (with_reducible repeat (first | apply Kd.N_alloc | apply Kd.N_drewN | apply Kd.N_drew)); exact Kd.N_mono HO_372001.out (fun _ hk => by first | exact ⟨hk.1.1, ⟨hk.1.2.1, ⟨hk.2, ⟨hk.1.2.2.1, ⟨hk.1.2.2.2.1, hk.1.2.2.2.2⟩⟩⟩⟩⟩ | exact hk.1 | exact hk)), (by (with_reducible repeat (first | apply Kd.V_alloc | apply Kd.V_drewN | apply Kd.V_drew)); exact Kd.V_mono HO_8.out (fun _ hk => by first | exact ⟨hk.1.1, ⟨hk.1.2.1, ⟨hk.2, ⟨hk.1.2.2.1, hk.1.2.2.2⟩⟩⟩⟩ | exact hk.1 | exact hk)), (by (with_reducible repeat (first | apply Kd.V_alloc | apply Kd.V_drewN | apply Kd.V_drew)); exact Kd.V_mono HO_9.out (fun _ hk => by first | exact ⟨hk.1.1, ⟨hk.1.2.1, ⟨hk.2, ⟨hk.1.2.2.1, hk.1.2.2.2⟩⟩⟩⟩ | exact hk.1 | exact hk)), (by (with_reducible repeat (first | refine blk_drewN ?_ _ | refine blk_drew ?_ | refine blk_alloc ?_ _)); exact BK364.out), (by (with_reducible repeat (first | refine blk_drewN ?_ _ | refine blk_drew ?_ | refine blk_alloc ?_ _)); exact BK371.out), (by repeat (first | (with_reducible first | exact HB.out | apply below_alloc | apply pw_below_drewN | apply below_drew1 | refine below_set ?_ GE364.out | refine below_set ?_ GE371.out) | exact HB.out)), fun _ => (by (with_reducible repeat (first | apply Kd.N_alloc | apply Kd.N_drewN | apply Kd.N_drew)); exact Kd.N_mono HO416.out (fun _ hk => by first | exact ⟨hk.1.1, ⟨hk.2, ⟨hk.1.2.1, hk.1.2.2⟩⟩⟩ | exact hk.1 | exact hk)), fun _ => (by (with_reducible repeat (first | apply Kd.V_alloc | apply Kd.V_drewN | apply Kd.V_drew)); exact Kd.V_mono HO419.out (fun _ hk => by first | exact ⟨hk.1.1, ⟨hk.2, ⟨hk.1.2.1, hk.1.2.2⟩⟩⟩ | exact hk.1 | exact hk)), fun _ => (by (with_reducible repeat (first | apply Kd.N_alloc | apply Kd.N_drewN | apply Kd.N_drew)); exact Kd.N_mono HO422.out (fun _ hk => by first | exact ⟨hk.1.1, ⟨hk.2, ⟨hk.1.2.1, hk.1.2.2⟩⟩⟩ | exact hk.1 | exact hk)), fun _ => (by (with_reducible repeat (first | apply Kd.V_alloc | apply Kd.V_drewN | apply Kd.V_drew)); exact Kd.V_mono HO425.out (fun _ hk => by first | exact ⟨hk.2, ⟨hk.1.1, hk.1.2⟩⟩ | exact hk.1 | exact hk)), fun _ => (by (with_reducible repeat (first | apply Kd.N_alloc | apply Kd.N_drewN | apply Kd.N_drew)); exact HO428.out), fun h0_ => absurd ((hoff 7 (by kernel_rfl)).symm.trans h0_) (by decide), fun h0_ => absurd ((hoff 8 (by kernel_rfl)).symm.trans h0_) (by decide), fun h0_ => absurd ((hoff 9 (by kernel_rfl)).symm.trans h0_) (by decide)⟩
         refine steps_cons ?_ ?_
         ·
          rintro b a w' ⟨v415, v418, v421, v424, v427, v430, v433, v436, ha, Q_HO_372000, Q_HO_372001, Q_HO_8, Q_HO_9, Q_BK364, Q_BK371, Q_HB, Q_HO416, Q_HO419, Q_HO422, Q_HO425, Q_HO428, Q_HO431, Q_HO434, Q_HO437⟩ hb_ hon hoff
          refine ⟨_, rfl, fun K hK => ?_⟩
          have e62 : a.tmps[62]? = some (v427) := by rw [ha]; exact putSel_on (e := (6, 62, v427)) 4 rfl rfl (hon 6 (by kernel_rfl)) rfl
          replace ha := Aside0.mk ha
          have HO_372000 := Aside0.mk Q_HO_372000
          have HO_372001 := Aside0.mk Q_HO_372001
          have HO_8 := Aside0.mk Q_HO_8
          have HO_9 := Aside0.mk Q_HO_9
          have BK364 := Aside0.mk Q_BK364
          have BK371 := Aside0.mk Q_BK371
          have HB := Aside0.mk Q_HB
          have HO416 := Aside0.mk (Q_HO416 (hon 1 (by kernel_rfl)))
          have HO419 := Aside0.mk (Q_HO419 (hon 2 (by kernel_rfl)))
          have HO422 := Aside0.mk (Q_HO422 (hon 4 (by kernel_rfl)))
          have HO425 := Aside0.mk (Q_HO425 (hon 5 (by kernel_rfl)))
          have HO428 := Aside0.mk (Q_HO428 (hon 6 (by kernel_rfl)))
          obtain ⟨Ao87, co87, eo87⟩ := Kd.N_slice HO428.out
          (first | subst eo87 | (injection eo87 with f1_ f2_ f3_; have f4_ := f1_.symm; have f5_ := f3_.symm; clear f1_ f2_ f3_; subst f4_; subst f5_))
          refine goes_ Tryd.func21 (by kernel_rfl) rfl #[.int .i64 15, .slice Ao87 y426.length co87] (by rfl) rfl rfl (by first | (simp only [List.map_toArray, List.map_cons, List.map_nil, Act.eval, Array.getD_eq_getD_getElem?, Option.getD_some, e62]; done) | (simp only [List.map_toArray, List.map_cons, List.map_nil, Act.eval, Array.getD_eq_getD_getElem?, Option.getD_some, e62]; rfl)) ?_
          with_reducible refine (foretellkeep_joined.calls kj52 15 _ _ y426 t429 _ ?side1 ?side2 A68.out).mono ?_
          (case side1 => repeat (first | exact (Kd.N_reads' HO428.out).2.2 | (with_reducible refine Kd.C_alloc ?_ _) | (with_reducible refine Kd.C_drewN ?_ _) | (with_reducible refine Kd.C_drew ?_)))
          (case side2 => exact (Kd.N_reads' HO428.out).2.1)
          rintro e w88 ⟨v430, rfl, ho0, hb⟩
          refine ⟨_, rfl, ?_⟩
          have n0_ := Aside0.mk (Kd.V_below (by (with_reducible repeat (first | apply Kd.V_alloc | apply Kd.V_drewN | apply Kd.V_drew)); exact HO_8.out) hb)
          have n1_ := Aside0.mk (Kd.V_below (by (with_reducible repeat (first | apply Kd.V_alloc | apply Kd.V_drewN | apply Kd.V_drew)); exact HO_9.out) hb)
          have n2_ := Aside0.mk (Kd.N_below (by (with_reducible repeat (first | apply Kd.N_alloc | apply Kd.N_drewN | apply Kd.N_drew)); exact HO_372000.out) hb)
          have n3_ := Aside0.mk (Kd.N_below (by (with_reducible repeat (first | apply Kd.N_alloc | apply Kd.N_drewN | apply Kd.N_drew)); exact HO_372001.out) hb)
          have n4_ := Aside0.mk (Kd.N_below (by (with_reducible repeat (first | apply Kd.N_alloc | apply Kd.N_drewN | apply Kd.N_drew)); exact HO416.out) hb)
          have n5_ := Aside0.mk (Kd.V_below (by (with_reducible repeat (first | apply Kd.V_alloc | apply Kd.V_drewN | apply Kd.V_drew)); exact HO419.out) hb)
          have n6_ := Aside0.mk (Kd.N_below (by (with_reducible repeat (first | apply Kd.N_alloc | apply Kd.N_drewN | apply Kd.N_drew)); exact HO422.out) hb)
          have n7_ := Aside0.mk (Kd.V_below (by (with_reducible repeat (first | apply Kd.V_alloc | apply Kd.V_drewN | apply Kd.V_drew)); exact HO425.out) hb)
          have n8_ := Aside0.mk (Kd.N_below (by (with_reducible repeat (first | apply Kd.N_alloc | apply Kd.N_drewN | apply Kd.N_drew)); exact HO428.out) hb)
          have n9_ := Aside0.mk (Kd.V_lower (Kd.V_mono (ok' := fun k_ => k_ ≠ gb364 ∧ k_ ≠ gb371) (Kd.R_V (Kd.R_bound ho0)) (fun k_ hk_ => ⟨(Kd.freshB (g := gb364) (o := .cells #[.slice A2_0 l2_0.length c2_0, .slice A2_1 l2_1.length c2_1] 40 (0, 0)) (by (with_reducible repeat (first | refine blk_drewN ?_ _ | refine blk_drew ?_ | refine blk_alloc ?_ _)); exact BK364.out) k_ hk_.2.1), (Kd.freshB (g := gb371) (o := .cells #[.slice Ao12 t365.length co12, .slice Ao15 t368.length co15] 43 (0, 0)) (by (with_reducible repeat (first | refine blk_drewN ?_ _ | refine blk_drew ?_ | refine blk_alloc ?_ _)); exact BK371.out) k_ hk_.2.1)⟩)) (below_size (by repeat (first | (with_reducible first | exact HB.out | apply below_alloc | apply pw_below_drewN | apply below_drew1 | refine below_set ?_ GE364.out | refine below_set ?_ GE371.out) | exact HB.out))))
          have n10_ := Aside0.mk (blk_below (g := gb364) (o := .cells #[.slice A2_0 l2_0.length c2_0, .slice A2_1 l2_1.length c2_1] 40 (0, 0)) (by (with_reducible repeat (first | refine blk_drewN ?_ _ | refine blk_drew ?_ | refine blk_alloc ?_ _)); exact BK364.out) hb)
          have n11_ := Aside0.mk (blk_below (g := gb371) (o := .cells #[.slice Ao12 t365.length co12, .slice Ao15 t368.length co15] 43 (0, 0)) (by (with_reducible repeat (first | refine blk_drewN ?_ _ | refine blk_drew ?_ | refine blk_alloc ?_ _)); exact BK371.out) hb)
          have n12_ := Aside0.mk (below_step (by repeat (first | (with_reducible first | exact HB.out | apply below_alloc | apply pw_below_drewN | apply below_drew1 | refine below_set ?_ GE364.out | refine below_set ?_ GE371.out) | exact HB.out)) hb)
          clear HO_8
          clear HO_9
          clear HO_372000
          clear HO_372001
          clear HO416
          clear HO419
          clear HO422
          clear HO425
          clear HO428
          clear BK364
          clear BK371
          clear HB
          have HO_8 := n0_
          have HO_9 := n1_
          have HO_372000 := n2_
          have HO_372001 := n3_
          have HO416 := n4_
          have HO419 := n5_
          have HO422 := n6_
          have HO425 := n7_
          have HO428 := n8_
          have HO431 := n9_
          have BK364 := n10_
          have BK371 := n11_
          have HB := n12_
          clear n0_ n1_ n2_ n3_ n4_ n5_ n6_ n7_ n8_ n9_ n10_ n11_ n12_
          (try clear hb)
          (try clear hb2)
          (try clear hk)
          (try clear hi)
          (try clear ho0)
          refine hK.out _ _ ⟨v415, v418, v421, v424, .slice Ao87 y426.length co87, v430, v433, v436, (by rw [ha.out]; exact putSel_upk 5 hb_ rfl rfl rfl), (by (with_reducible repeat (first | apply Kd.N_alloc | apply Kd.N_drewN | apply Kd.N_drew)); exact HO_372000.out), (by (with_reducible repeat (first | apply Kd.N_alloc | apply Kd.N_drewN | apply Kd.N_drew)); exact HO_372001.out), (by (with_reducible repeat (first | apply Kd.V_alloc | apply Kd.V_drewN | apply Kd.V_drew)); exact HO_8.out), (by (with_reducible repeat (first | apply Kd.V_alloc | apply Kd.V_drewN | apply Kd.V_drew)); exact HO_9.out), (by (with_reducible repeat (first | refine blk_drewN ?_ _ | refine blk_drew ?_ | refine blk_alloc ?_ _)); exact BK364.out), (by (with_reducible repeat (first | refine blk_drewN ?_ _ | refine blk_drew ?_ | refine blk_alloc ?_ _)); exact BK371.out), (by repeat (first | (with_reducible first | exact HB.out | apply below_alloc | apply pw_below_drewN | apply below_drew1 | refine below_set ?_ GE364.out | refine below_set ?_ GE371.out) | exact HB.out)), fun _ => (by (with_reducible repeat (first | apply Kd.N_alloc | apply Kd.N_drewN | apply Kd.N_drew)); exact HO416.out), fun _ => (by (with_reducible repeat (first | apply Kd.V_alloc | apply Kd.V_drewN | apply Kd.V_drew)); exact HO419.out), fun _ => (by (with_reducible repeat (first | apply Kd.N_alloc | apply Kd.N_drewN | apply Kd.N_drew)); exact HO422.out), fun _ => (by (with_reducible repeat (first | apply Kd.V_alloc | apply Kd.V_drewN | apply Kd.V_drew)); exact HO425.out), fun _ => (by (with_reducible repeat (first | apply Kd.N_alloc | apply Kd.N_drewN | apply Kd.N_drew)); exact HO428.out), fun _ => (by (with_reducible repeat (first | apply Kd.V_alloc | apply Kd.V_drewN | apply Kd.V_drew)); exact HO431.out), fun h0_ => absurd ((hoff 8 (by kernel_rfl)).symm.trans h0_) (by decide), fun h0_ => absurd ((hoff 9 (by kernel_rfl)).symm.trans h0_) (by decide)⟩
         refine steps_cons ?_ ?_
         ·
          rintro b a w' ⟨v415, v418, v421, v424, v427, v430, v433, v436, ha, Q_HO_372000, Q_HO_372001, Q_HO_8, Q_HO_9, Q_BK364, Q_BK371, Q_HB, Q_HO416, Q_HO419, Q_HO422, Q_HO425, Q_HO428, Q_HO431, Q_HO434, Q_HO437⟩ hb_ hon hoff
          refine ⟨_, rfl, fun K hK => ?_⟩
          have e63 : a.tmps[63]? = some (v430) := by rw [ha]; exact putSel_on (e := (7, 63, v430)) 5 rfl rfl (hon 7 (by kernel_rfl)) rfl
          replace ha := Aside0.mk ha
          have HO_372000 := Aside0.mk Q_HO_372000
          have HO_372001 := Aside0.mk Q_HO_372001
          have HO_8 := Aside0.mk Q_HO_8
          have HO_9 := Aside0.mk Q_HO_9
          have BK364 := Aside0.mk Q_BK364
          have BK371 := Aside0.mk Q_BK371
          have HB := Aside0.mk Q_HB
          have HO416 := Aside0.mk (Q_HO416 (hon 1 (by kernel_rfl)))
          have HO419 := Aside0.mk (Q_HO419 (hon 2 (by kernel_rfl)))
          have HO422 := Aside0.mk (Q_HO422 (hon 4 (by kernel_rfl)))
          have HO425 := Aside0.mk (Q_HO425 (hon 5 (by kernel_rfl)))
          have HO428 := Aside0.mk (Q_HO428 (hon 6 (by kernel_rfl)))
          have HO431 := Aside0.mk (Q_HO431 (hon 7 (by kernel_rfl)))
          obtain ⟨Ao89, co89, eo89⟩ := Kd.V_slice HO431.out
          (first | subst eo89 | (injection eo89 with f1_ f2_ f3_; have f4_ := f1_.symm; have f5_ := f3_.symm; clear f1_ f2_ f3_; subst f4_; subst f5_))
          refine Kd.N_lit_step (Kd.slice 51 k51) _ 23 ?hg (N' := 64) ?hd (xs := ([t429] : List (List (S51)))) (inner := [.slice Ao89 t429.length co89]) (ok := (fun k_ => k_ ≠ gb364 ∧ k_ ≠ gb371)) (okp := (fun k_ => k_ ≠ gb364 ∧ k_ ≠ gb371)) ?hr ?hp (fun _ hk => hk) ((show ∀ k_, w'.heap.size ≤ k_ → (fun k_ => k_ ≠ gb364 ∧ k_ ≠ gb371) k_ from fun k_ hk => ⟨Kd.freshB (g := gb364) (o := .cells #[.slice A2_0 l2_0.length c2_0, .slice A2_1 l2_1.length c2_1] 40 (0, 0)) (by (with_reducible repeat (first | refine blk_drewN ?_ _ | refine blk_drew ?_ | refine blk_alloc ?_ _)); exact BK364.out) k_ hk, Kd.freshB (g := gb371) (o := .cells #[.slice Ao12 t365.length co12, .slice Ao15 t368.length co15] 43 (0, 0)) (by (with_reducible repeat (first | refine blk_drewN ?_ _ | refine blk_drew ?_ | refine blk_alloc ?_ _)); exact BK371.out) k_ hk⟩) _ (Nat.le_refl _)) (Below.refl _ _) (Nat.le_refl _) (by simp) ?_; (case hd => rfl); (case hg => rfl); (case hr => first | (go_simp; done) | (go_simp; rfl)); (case hp => exact (Reps.one (show Kd.FK (Kd.slice 51 k51) _ _ t429 [.slice Ao89 t429.length co89] from (Kd.FK_slice_mk (Kd.V_reads' (Kd.V_mono (ok' := (fun k_ => k_ ≠ gb364 ∧ k_ ≠ gb371)) (HO431.out) (fun k_ hk => by first | exact ⟨hk.1, hk.2⟩ | exact hk))).2.1 (Kd.V_F (Kd.V_mono (ok' := (fun k_ => k_ ≠ gb364 ∧ k_ ≠ gb371)) (HO431.out) (fun k_ hk => by first | exact ⟨hk.1, hk.2⟩ | exact hk))))) (Reps.none _ _)))
          intro v433 w90 ho91 hb hg_ hnew_
          clear hg_ hnew_
          (first | rw [← Ny432.out] at ho91 | (simp only [Int.reduceToNat] at ho91; rw [← Ny432.out] at ho91))
          have n0_ := Aside0.mk (Kd.V_elder' (by (with_reducible repeat (first | apply Kd.V_alloc | apply Kd.V_drewN | apply Kd.V_drew)); exact HO_8.out) (by first | exact Kd.N_base ho91 | exact Kd.S_base ho91 | exact Kd.R_base ho91) hb)
          have n1_ := Aside0.mk (Kd.V_elder' (by (with_reducible repeat (first | apply Kd.V_alloc | apply Kd.V_drewN | apply Kd.V_drew)); exact HO_9.out) (by first | exact Kd.N_base ho91 | exact Kd.S_base ho91 | exact Kd.R_base ho91) hb)
          have n2_ := Aside0.mk (Kd.N_elder' (by (with_reducible repeat (first | apply Kd.N_alloc | apply Kd.N_drewN | apply Kd.N_drew)); exact HO_372000.out) (by first | exact Kd.N_base ho91 | exact Kd.S_base ho91 | exact Kd.R_base ho91) hb)
          have n3_ := Aside0.mk (Kd.N_elder' (by (with_reducible repeat (first | apply Kd.N_alloc | apply Kd.N_drewN | apply Kd.N_drew)); exact HO_372001.out) (by first | exact Kd.N_base ho91 | exact Kd.S_base ho91 | exact Kd.R_base ho91) hb)
          have n4_ := Aside0.mk (Kd.N_elder' (by (with_reducible repeat (first | apply Kd.N_alloc | apply Kd.N_drewN | apply Kd.N_drew)); exact HO416.out) (by first | exact Kd.N_base ho91 | exact Kd.S_base ho91 | exact Kd.R_base ho91) hb)
          have n5_ := Aside0.mk (Kd.V_elder' (by (with_reducible repeat (first | apply Kd.V_alloc | apply Kd.V_drewN | apply Kd.V_drew)); exact HO419.out) (by first | exact Kd.N_base ho91 | exact Kd.S_base ho91 | exact Kd.R_base ho91) hb)
          have n6_ := Aside0.mk (Kd.N_elder' (by (with_reducible repeat (first | apply Kd.N_alloc | apply Kd.N_drewN | apply Kd.N_drew)); exact HO422.out) (by first | exact Kd.N_base ho91 | exact Kd.S_base ho91 | exact Kd.R_base ho91) hb)
          have n7_ := Aside0.mk (Kd.V_elder' (by (with_reducible repeat (first | apply Kd.V_alloc | apply Kd.V_drewN | apply Kd.V_drew)); exact HO425.out) (by first | exact Kd.N_base ho91 | exact Kd.S_base ho91 | exact Kd.R_base ho91) hb)
          have n8_ := Aside0.mk (Kd.N_elder' (by (with_reducible repeat (first | apply Kd.N_alloc | apply Kd.N_drewN | apply Kd.N_drew)); exact HO428.out) (by first | exact Kd.N_base ho91 | exact Kd.S_base ho91 | exact Kd.R_base ho91) hb)
          have n9_ := Aside0.mk (Kd.V_elder' (by (with_reducible repeat (first | apply Kd.V_alloc | apply Kd.V_drewN | apply Kd.V_drew)); exact HO431.out) (by first | exact Kd.N_base ho91 | exact Kd.S_base ho91 | exact Kd.R_base ho91) hb)
          have n10_ := Aside0.mk (Kd.N_lower ho91 (below_size (by repeat (first | (with_reducible first | exact HB.out | apply below_alloc | apply pw_below_drewN | apply below_drew1 | refine below_set ?_ GE364.out | refine below_set ?_ GE371.out) | exact HB.out))))
          have n11_ := Aside0.mk (blk_below (g := gb364) (o := .cells #[.slice A2_0 l2_0.length c2_0, .slice A2_1 l2_1.length c2_1] 40 (0, 0)) (by (with_reducible repeat (first | refine blk_drewN ?_ _ | refine blk_drew ?_ | refine blk_alloc ?_ _)); exact BK364.out) hb)
          have n12_ := Aside0.mk (blk_below (g := gb371) (o := .cells #[.slice Ao12 t365.length co12, .slice Ao15 t368.length co15] 43 (0, 0)) (by (with_reducible repeat (first | refine blk_drewN ?_ _ | refine blk_drew ?_ | refine blk_alloc ?_ _)); exact BK371.out) hb)
          have n13_ := Aside0.mk (below_step (by repeat (first | (with_reducible first | exact HB.out | apply below_alloc | apply pw_below_drewN | apply below_drew1 | refine below_set ?_ GE364.out | refine below_set ?_ GE371.out) | exact HB.out)) hb)
          clear HO_8
          clear HO_9
          clear HO_372000
          clear HO_372001
          clear HO416
          clear HO419
          clear HO422
          clear HO425
          clear HO428
          clear HO431
          clear BK364
          clear BK371
          clear HB
          have HO_8 := n0_
          have HO_9 := n1_
          have HO_372000 := n2_
          have HO_372001 := n3_
          have HO416 := n4_
          have HO419 := n5_
          have HO422 := n6_
          have HO425 := n7_
          have HO428 := n8_
          have HO431 := n9_
          have HO434 := n10_
          have BK364 := n11_
          have BK371 := n12_
          have HB := n13_
          clear n0_ n1_ n2_ n3_ n4_ n5_ n6_ n7_ n8_ n9_ n10_ n11_ n12_ n13_
          clear hb ho91
          refine hK.out _ _ ⟨v415, v418, v421, v424, v427, .slice Ao89 t429.length co89, v433, v436, (by rw [ha.out]; exact putSel_upk 6 hb_ rfl rfl rfl), (by (with_reducible repeat (first | apply Kd.N_alloc | apply Kd.N_drewN | apply Kd.N_drew)); exact Kd.N_mono HO_372000.out (fun _ hk => by first | exact ⟨hk.1.1, ⟨hk.1.2.1, ⟨hk.1.2.2.1, ⟨hk.2, ⟨hk.1.2.2.2.1, ⟨hk.1.2.2.2.2.1, hk.1.2.2.2.2.2⟩⟩⟩⟩⟩⟩ | exact hk.1 | exact hk)), (by (with_reducible repeat (first | apply Kd.N_alloc | apply Kd.N_drewN | apply Kd.N_drew)); exact Kd.N_mono HO_372001.out (fun _ hk => by first | exact ⟨hk.1.1, ⟨hk.1.2.1, ⟨hk.1.2.2.1, ⟨hk.2, ⟨hk.1.2.2.2.1, ⟨hk.1.2.2.2.2.1, hk.1.2.2.2.2.2⟩⟩⟩⟩⟩⟩ | exact hk.1 | exact hk)), (by (with_reducible repeat (first | apply Kd.V_alloc | apply Kd.V_drewN | apply Kd.V_drew)); exact Kd.V_mono HO_8.out (fun _ hk => by first | exact ⟨hk.1.1, ⟨hk.1.2.1, ⟨hk.1.2.2.1, ⟨hk.2, ⟨hk.1.2.2.2.1, hk.1.2.2.2.2⟩⟩⟩⟩⟩ | exact hk.1 | exact hk)), (by (with_reducible repeat (first | apply Kd.V_alloc | apply Kd.V_drewN | apply Kd.V_drew)); exact Kd.V_mono HO_9.out (fun _ hk => by first | exact ⟨hk.1.1, ⟨hk.1.2.1, ⟨hk.1.2.2.1, ⟨hk.2, ⟨hk.1.2.2.2.1, hk.1.2.2.2.2⟩⟩⟩⟩⟩ | exact hk.1 | exact hk)), (by (with_reducible repeat (first | refine blk_drewN ?_ _ | refine blk_drew ?_ | refine blk_alloc ?_ _)); exact BK364.out), (by (with_reducible repeat (first | refine blk_drewN ?_ _ | refine blk_drew ?_ | refine blk_alloc ?_ _)); exact BK371.out), (by repeat (first | (with_reducible first | exact HB.out | apply below_alloc | apply pw_below_drewN | apply below_drew1 | refine below_set ?_ GE364.out | refine below_set ?_ GE371.out) | exact HB.out)), fun _ => (by (with_reducible repeat (first | apply Kd.N_alloc | apply Kd.N_drewN | apply Kd.N_drew)); exact Kd.N_mono HO416.out (fun _ hk => by first | exact ⟨hk.1.1, ⟨hk.1.2.1, ⟨hk.2, ⟨hk.1.2.2.1, hk.1.2.2.2⟩⟩⟩⟩ | exact hk.1 | exact hk)), fun _ => (by (with_reducible repeat (first | apply Kd.V_alloc | apply Kd.V_drewN | apply Kd.V_drew)); exact Kd.V_mono HO419.out (fun _ hk => by first | exact ⟨hk.1.1, ⟨hk.1.2.1, ⟨hk.2, ⟨hk.1.2.2.1, hk.1.2.2.2⟩⟩⟩⟩ | exact hk.1 | exact hk)), fun _ => (by (with_reducible repeat (first | apply Kd.N_alloc | apply Kd.N_drewN | apply Kd.N_drew)); exact Kd.N_mono HO422.out (fun _ hk => by first | exact ⟨hk.1.1, ⟨hk.1.2.1, ⟨hk.2, ⟨hk.1.2.2.1, hk.1.2.2.2⟩⟩⟩⟩ | exact hk.1 | exact hk)), fun _ => (by (with_reducible repeat (first | apply Kd.V_alloc | apply Kd.V_drewN | apply Kd.V_drew)); exact Kd.V_mono HO425.out (fun _ hk => by first | exact ⟨hk.1.1, ⟨hk.2, ⟨hk.1.2.1, hk.1.2.2⟩⟩⟩ | exact hk.1 | exact hk)), fun _ => (by (with_reducible repeat (first | apply Kd.N_alloc | apply Kd.N_drewN | apply Kd.N_drew)); exact Kd.N_mono HO428.out (fun _ hk => by first | exact ⟨hk.2, ⟨hk.1.1, hk.1.2⟩⟩ | exact hk.1 | exact hk)), fun _ => (by (with_reducible repeat (first | apply Kd.V_alloc | apply Kd.V_drewN | apply Kd.V_drew)); exact Kd.V_mono HO431.out (fun _ hk => by first | exact ⟨hk.2, ⟨hk.1.1, hk.1.2⟩⟩ | exact hk.1 | exact hk)), fun _ => (by (with_reducible repeat (first | apply Kd.N_alloc | apply Kd.N_drewN | apply Kd.N_drew)); exact HO434.out), fun h0_ => absurd ((hoff 9 (by kernel_rfl)).symm.trans h0_) (by decide)⟩
         refine steps_cons ?_ ?_
         ·
          rintro b a w' ⟨v415, v418, v421, v424, v427, v430, v433, v436, ha, Q_HO_372000, Q_HO_372001, Q_HO_8, Q_HO_9, Q_BK364, Q_BK371, Q_HB, Q_HO416, Q_HO419, Q_HO422, Q_HO425, Q_HO428, Q_HO431, Q_HO434, Q_HO437⟩ hb_ hon hoff
          refine ⟨_, rfl, fun K hK => ?_⟩
          have e64 : a.tmps[64]? = some (v433) := by rw [ha]; exact putSel_on (e := (8, 64, v433)) 6 rfl rfl (hon 8 (by kernel_rfl)) rfl
          replace ha := Aside0.mk ha
          have HO_372000 := Aside0.mk Q_HO_372000
          have HO_372001 := Aside0.mk Q_HO_372001
          have HO_8 := Aside0.mk Q_HO_8
          have HO_9 := Aside0.mk Q_HO_9
          have BK364 := Aside0.mk Q_BK364
          have BK371 := Aside0.mk Q_BK371
          have HB := Aside0.mk Q_HB
          have HO416 := Aside0.mk (Q_HO416 (hon 1 (by kernel_rfl)))
          have HO419 := Aside0.mk (Q_HO419 (hon 2 (by kernel_rfl)))
          have HO422 := Aside0.mk (Q_HO422 (hon 4 (by kernel_rfl)))
          have HO425 := Aside0.mk (Q_HO425 (hon 5 (by kernel_rfl)))
          have HO428 := Aside0.mk (Q_HO428 (hon 6 (by kernel_rfl)))
          have HO431 := Aside0.mk (Q_HO431 (hon 7 (by kernel_rfl)))
          have HO434 := Aside0.mk (Q_HO434 (hon 8 (by kernel_rfl)))
          obtain ⟨Ao92, co92, eo92⟩ := Kd.N_slice HO434.out
          (first | subst eo92 | (injection eo92 with f1_ f2_ f3_; have f4_ := f1_.symm; have f5_ := f3_.symm; clear f1_ f2_ f3_; subst f4_; subst f5_))
          refine goes_ Tryd.func21 (by kernel_rfl) rfl #[.int .i64 10, .slice Ao92 y432.length co92] (by rfl) rfl rfl (by first | (simp only [List.map_toArray, List.map_cons, List.map_nil, Act.eval, Array.getD_eq_getD_getElem?, Option.getD_some, e64]; done) | (simp only [List.map_toArray, List.map_cons, List.map_nil, Act.eval, Array.getD_eq_getD_getElem?, Option.getD_some, e64]; rfl)) ?_
          with_reducible refine (foretellkeep_joined.calls kj52 10 _ _ y432 t435 _ ?side1 ?side2 A69.out).mono ?_
          (case side1 => repeat (first | exact (Kd.N_reads' HO434.out).2.2 | (with_reducible refine Kd.C_alloc ?_ _) | (with_reducible refine Kd.C_drewN ?_ _) | (with_reducible refine Kd.C_drew ?_)))
          (case side2 => exact (Kd.N_reads' HO434.out).2.1)
          rintro e w93 ⟨v436, rfl, ho0, hb⟩
          refine ⟨_, rfl, ?_⟩
          have n0_ := Aside0.mk (Kd.V_below (by (with_reducible repeat (first | apply Kd.V_alloc | apply Kd.V_drewN | apply Kd.V_drew)); exact HO_8.out) hb)
          have n1_ := Aside0.mk (Kd.V_below (by (with_reducible repeat (first | apply Kd.V_alloc | apply Kd.V_drewN | apply Kd.V_drew)); exact HO_9.out) hb)
          have n2_ := Aside0.mk (Kd.N_below (by (with_reducible repeat (first | apply Kd.N_alloc | apply Kd.N_drewN | apply Kd.N_drew)); exact HO_372000.out) hb)
          have n3_ := Aside0.mk (Kd.N_below (by (with_reducible repeat (first | apply Kd.N_alloc | apply Kd.N_drewN | apply Kd.N_drew)); exact HO_372001.out) hb)
          have n4_ := Aside0.mk (Kd.N_below (by (with_reducible repeat (first | apply Kd.N_alloc | apply Kd.N_drewN | apply Kd.N_drew)); exact HO416.out) hb)
          have n5_ := Aside0.mk (Kd.V_below (by (with_reducible repeat (first | apply Kd.V_alloc | apply Kd.V_drewN | apply Kd.V_drew)); exact HO419.out) hb)
          have n6_ := Aside0.mk (Kd.N_below (by (with_reducible repeat (first | apply Kd.N_alloc | apply Kd.N_drewN | apply Kd.N_drew)); exact HO422.out) hb)
          have n7_ := Aside0.mk (Kd.V_below (by (with_reducible repeat (first | apply Kd.V_alloc | apply Kd.V_drewN | apply Kd.V_drew)); exact HO425.out) hb)
          have n8_ := Aside0.mk (Kd.N_below (by (with_reducible repeat (first | apply Kd.N_alloc | apply Kd.N_drewN | apply Kd.N_drew)); exact HO428.out) hb)
          have n9_ := Aside0.mk (Kd.V_below (by (with_reducible repeat (first | apply Kd.V_alloc | apply Kd.V_drewN | apply Kd.V_drew)); exact HO431.out) hb)
          have n10_ := Aside0.mk (Kd.N_below (by (with_reducible repeat (first | apply Kd.N_alloc | apply Kd.N_drewN | apply Kd.N_drew)); exact HO434.out) hb)
          have n11_ := Aside0.mk (Kd.V_lower (Kd.V_mono (ok' := fun k_ => k_ ≠ gb364 ∧ k_ ≠ gb371) (Kd.R_V (Kd.R_bound ho0)) (fun k_ hk_ => ⟨(Kd.freshB (g := gb364) (o := .cells #[.slice A2_0 l2_0.length c2_0, .slice A2_1 l2_1.length c2_1] 40 (0, 0)) (by (with_reducible repeat (first | refine blk_drewN ?_ _ | refine blk_drew ?_ | refine blk_alloc ?_ _)); exact BK364.out) k_ hk_.2.1), (Kd.freshB (g := gb371) (o := .cells #[.slice Ao12 t365.length co12, .slice Ao15 t368.length co15] 43 (0, 0)) (by (with_reducible repeat (first | refine blk_drewN ?_ _ | refine blk_drew ?_ | refine blk_alloc ?_ _)); exact BK371.out) k_ hk_.2.1)⟩)) (below_size (by repeat (first | (with_reducible first | exact HB.out | apply below_alloc | apply pw_below_drewN | apply below_drew1 | refine below_set ?_ GE364.out | refine below_set ?_ GE371.out) | exact HB.out))))
          have n12_ := Aside0.mk (blk_below (g := gb364) (o := .cells #[.slice A2_0 l2_0.length c2_0, .slice A2_1 l2_1.length c2_1] 40 (0, 0)) (by (with_reducible repeat (first | refine blk_drewN ?_ _ | refine blk_drew ?_ | refine blk_alloc ?_ _)); exact BK364.out) hb)
          have n13_ := Aside0.mk (blk_below (g := gb371) (o := .cells #[.slice Ao12 t365.length co12, .slice Ao15 t368.length co15] 43 (0, 0)) (by (with_reducible repeat (first | refine blk_drewN ?_ _ | refine blk_drew ?_ | refine blk_alloc ?_ _)); exact BK371.out) hb)
          have n14_ := Aside0.mk (below_step (by repeat (first | (with_reducible first | exact HB.out | apply below_alloc | apply pw_below_drewN | apply below_drew1 | refine below_set ?_ GE364.out | refine below_set ?_ GE371.out) | exact HB.out)) hb)
          clear HO_8
          clear HO_9
          clear HO_372000
          clear HO_372001
          clear HO416
          clear HO419
          clear HO422
          clear HO425
          clear HO428
          clear HO431
          clear HO434
          clear BK364
          clear BK371
          clear HB
          have HO_8 := n0_
          have HO_9 := n1_
          have HO_372000 := n2_
          have HO_372001 := n3_
          have HO416 := n4_
          have HO419 := n5_
          have HO422 := n6_
          have HO425 := n7_
          have HO428 := n8_
          have HO431 := n9_
          have HO434 := n10_
          have HO437 := n11_
          have BK364 := n12_
          have BK371 := n13_
          have HB := n14_
          clear n0_ n1_ n2_ n3_ n4_ n5_ n6_ n7_ n8_ n9_ n10_ n11_ n12_ n13_ n14_
          (try clear hb)
          (try clear hb2)
          (try clear hk)
          (try clear hi)
          (try clear ho0)
          refine hK.out _ _ ⟨v415, v418, v421, v424, v427, v430, .slice Ao92 y432.length co92, v436, (by rw [ha.out]; exact putSel_upk 7 hb_ rfl rfl rfl), (by (with_reducible repeat (first | apply Kd.N_alloc | apply Kd.N_drewN | apply Kd.N_drew)); exact HO_372000.out), (by (with_reducible repeat (first | apply Kd.N_alloc | apply Kd.N_drewN | apply Kd.N_drew)); exact HO_372001.out), (by (with_reducible repeat (first | apply Kd.V_alloc | apply Kd.V_drewN | apply Kd.V_drew)); exact HO_8.out), (by (with_reducible repeat (first | apply Kd.V_alloc | apply Kd.V_drewN | apply Kd.V_drew)); exact HO_9.out), (by (with_reducible repeat (first | refine blk_drewN ?_ _ | refine blk_drew ?_ | refine blk_alloc ?_ _)); exact BK364.out), (by (with_reducible repeat (first | refine blk_drewN ?_ _ | refine blk_drew ?_ | refine blk_alloc ?_ _)); exact BK371.out), (by repeat (first | (with_reducible first | exact HB.out | apply below_alloc | apply pw_below_drewN | apply below_drew1 | refine below_set ?_ GE364.out | refine below_set ?_ GE371.out) | exact HB.out)), fun _ => (by (with_reducible repeat (first | apply Kd.N_alloc | apply Kd.N_drewN | apply Kd.N_drew)); exact HO416.out), fun _ => (by (with_reducible repeat (first | apply Kd.V_alloc | apply Kd.V_drewN | apply Kd.V_drew)); exact HO419.out), fun _ => (by (with_reducible repeat (first | apply Kd.N_alloc | apply Kd.N_drewN | apply Kd.N_drew)); exact HO422.out), fun _ => (by (with_reducible repeat (first | apply Kd.V_alloc | apply Kd.V_drewN | apply Kd.V_drew)); exact HO425.out), fun _ => (by (with_reducible repeat (first | apply Kd.N_alloc | apply Kd.N_drewN | apply Kd.N_drew)); exact HO428.out), fun _ => (by (with_reducible repeat (first | apply Kd.V_alloc | apply Kd.V_drewN | apply Kd.V_drew)); exact HO431.out), fun _ => (by (with_reducible repeat (first | apply Kd.N_alloc | apply Kd.N_drewN | apply Kd.N_drew)); exact HO434.out), fun _ => (by (with_reducible repeat (first | apply Kd.V_alloc | apply Kd.V_drewN | apply Kd.V_drew)); exact HO437.out)⟩
         refine steps_cons ?_ ?_
         ·
          rintro b a w' ⟨v415, v418, v421, v424, v427, v430, v433, v436, ha, Q_HO_372000, Q_HO_372001, Q_HO_8, Q_HO_9, Q_BK364, Q_BK371, Q_HB, Q_HO416, Q_HO419, Q_HO422, Q_HO425, Q_HO428, Q_HO431, Q_HO434, Q_HO437⟩ hb_ hon hoff
          refine ⟨_, rfl, fun K hK => ?_⟩
          have e7 : a.tmps[7]? = some (.pointer (some ⟨gb371, 0, none⟩)) := by rw [ha]; exact (putSel_off rfl).trans rfl
          replace ha := Aside0.mk ha
          have HO_372000 := Aside0.mk Q_HO_372000
          have HO_372001 := Aside0.mk Q_HO_372001
          have HO_8 := Aside0.mk Q_HO_8
          have HO_9 := Aside0.mk Q_HO_9
          have BK364 := Aside0.mk Q_BK364
          have BK371 := Aside0.mk Q_BK371
          have HB := Aside0.mk Q_HB
          have hc0_ : w'.cell? ⟨gb371, 0, none⟩ = some (.slice Ao12 t365.length co12) := (blk_cell BK371.out 0).trans rfl
          have hc1_ : w'.cell? ⟨gb371, 1, none⟩ = some (.slice Ao15 t368.length co15) := (blk_cell BK371.out 1).trans rfl
          refine value_ (w1 := w') (v := .agg #[.slice Ao12 t365.length co12, .slice Ao15 t368.length co15]) (by rfl) rfl ?_ ?_
          ·
           go_simp
           (try simp only [i64_w])
           try rfl
          refine hK.out _ _ ⟨v415, v418, v421, v424, v427, v430, v433, v436, (by rw [ha.out]; exact putSel_upk 8 hb_ rfl rfl rfl), Q_HO_372000, Q_HO_372001, Q_HO_8, Q_HO_9, Q_BK364, Q_BK371, Q_HB, Q_HO416, Q_HO419, Q_HO422, Q_HO425, Q_HO428, Q_HO431, Q_HO434, Q_HO437⟩
         refine steps_cons ?_ ?_
         ·
          rintro b a w' ⟨v415, v418, v421, v424, v427, v430, v433, v436, ha, Q_HO_372000, Q_HO_372001, Q_HO_8, Q_HO_9, Q_BK364, Q_BK371, Q_HB, Q_HO416, Q_HO419, Q_HO422, Q_HO425, Q_HO428, Q_HO431, Q_HO434, Q_HO437⟩ hb_ hon hoff
          refine ⟨_, rfl, fun K hK => ?_⟩
          have e65 : a.tmps[65]? = some (v436) := by rw [ha]; exact putSel_on (e := (9, 65, v436)) 7 rfl rfl (hon 9 (by kernel_rfl)) rfl
          have e66 : a.tmps[66]? = some (.agg #[.slice Ao12 t365.length co12, .slice Ao15 t368.length co15]) := by rw [ha]; exact putSel_on (e := (10, 66, .agg #[.slice Ao12 t365.length co12, .slice Ao15 t368.length co15])) 8 rfl rfl (hon 10 (by kernel_rfl)) rfl
          replace ha := Aside0.mk ha
          have HO_372000 := Aside0.mk Q_HO_372000
          have HO_372001 := Aside0.mk Q_HO_372001
          have HO_8 := Aside0.mk Q_HO_8
          have HO_9 := Aside0.mk Q_HO_9
          have BK364 := Aside0.mk Q_BK364
          have BK371 := Aside0.mk Q_BK371
          have HB := Aside0.mk Q_HB
          have HO416 := Aside0.mk (Q_HO416 (hon 1 (by kernel_rfl)))
          have HO419 := Aside0.mk (Q_HO419 (hon 2 (by kernel_rfl)))
          have HO422 := Aside0.mk (Q_HO422 (hon 4 (by kernel_rfl)))
          have HO425 := Aside0.mk (Q_HO425 (hon 5 (by kernel_rfl)))
          have HO428 := Aside0.mk (Q_HO428 (hon 6 (by kernel_rfl)))
          have HO431 := Aside0.mk (Q_HO431 (hon 7 (by kernel_rfl)))
          have HO434 := Aside0.mk (Q_HO434 (hon 8 (by kernel_rfl)))
          have HO437 := Aside0.mk (Q_HO437 (hon 9 (by kernel_rfl)))
          obtain ⟨Ao94, co94, eo94⟩ := Kd.V_slice HO437.out
          (first | subst eo94 | (injection eo94 with f1_ f2_ f3_; have f4_ := f1_.symm; have f5_ := f3_.symm; clear f1_ f2_ f3_; subst f4_; subst f5_))
          refine goes_ Tryd.func25 (by kernel_rfl) rfl #[.slice Ao94 t435.length co94, .agg #[.slice Ao12 t365.length co12, .slice Ao15 t368.length co15]] (by rfl) rfl rfl (by first | (simp only [List.map_toArray, List.map_cons, List.map_nil, Act.eval, Array.getD_eq_getD_getElem?, Option.getD_some, e65, e66]; done) | (simp only [List.map_toArray, List.map_cons, List.map_nil, Act.eval, Array.getD_eq_getD_getElem?, Option.getD_some, e65, e66]; rfl)) ?_
          with_reducible refine (foretellkeep_holds.calls kj52 _ _ t435 _ _ t365 _ _ t368 t438 t439 _ ?side1 ?side2 ?side3 ?side4 ?side5 ?side6 ?side7 A70.out).mono ?_
          (case side1 => repeat (first | exact (Kd.V_reads' HO437.out).2.2 | (with_reducible refine Kd.C_alloc ?_ _) | (with_reducible refine Kd.C_drewN ?_ _) | (with_reducible refine Kd.C_drew ?_)))
          (case side2 => exact (Kd.V_reads' HO437.out).2.1)
          (case side3 => repeat (first | exact (Kd.N_reads' HO_372000.out).2.2 | (with_reducible refine Kd.C_alloc ?_ _) | (with_reducible refine Kd.C_drewN ?_ _) | (with_reducible refine Kd.C_drew ?_)))
          (case side4 => exact (Kd.N_reads' HO_372000.out).2.1)
          (case side5 => repeat (first | exact (Kd.N_reads' HO_372001.out).2.2 | (with_reducible refine Kd.C_alloc ?_ _) | (with_reducible refine Kd.C_drewN ?_ _) | (with_reducible refine Kd.C_drew ?_)))
          (case side6 => exact (Kd.N_reads' HO_372001.out).2.1)
          (case side7 => first | exact hG_ | exact Glob.drewN hG_ _ | exact Glob.below hG_ (by repeat (first | (with_reducible first | exact HB.out | apply below_alloc | apply pw_below_drewN | apply below_drew1 | refine below_set ?_ GE364.out | refine below_set ?_ GE371.out) | exact HB.out)))
          rintro e w95 ⟨rfl, hb⟩
          refine ⟨_, rfl, ?_⟩
          have n0_ := Aside0.mk (Kd.V_below (by (with_reducible repeat (first | apply Kd.V_alloc | apply Kd.V_drewN | apply Kd.V_drew)); exact HO_8.out) hb)
          have n1_ := Aside0.mk (Kd.V_below (by (with_reducible repeat (first | apply Kd.V_alloc | apply Kd.V_drewN | apply Kd.V_drew)); exact HO_9.out) hb)
          have n2_ := Aside0.mk (Kd.N_below (by (with_reducible repeat (first | apply Kd.N_alloc | apply Kd.N_drewN | apply Kd.N_drew)); exact HO_372000.out) hb)
          have n3_ := Aside0.mk (Kd.N_below (by (with_reducible repeat (first | apply Kd.N_alloc | apply Kd.N_drewN | apply Kd.N_drew)); exact HO_372001.out) hb)
          have n4_ := Aside0.mk (Kd.N_below (by (with_reducible repeat (first | apply Kd.N_alloc | apply Kd.N_drewN | apply Kd.N_drew)); exact HO416.out) hb)
          have n5_ := Aside0.mk (Kd.V_below (by (with_reducible repeat (first | apply Kd.V_alloc | apply Kd.V_drewN | apply Kd.V_drew)); exact HO419.out) hb)
          have n6_ := Aside0.mk (Kd.N_below (by (with_reducible repeat (first | apply Kd.N_alloc | apply Kd.N_drewN | apply Kd.N_drew)); exact HO422.out) hb)
          have n7_ := Aside0.mk (Kd.V_below (by (with_reducible repeat (first | apply Kd.V_alloc | apply Kd.V_drewN | apply Kd.V_drew)); exact HO425.out) hb)
          have n8_ := Aside0.mk (Kd.N_below (by (with_reducible repeat (first | apply Kd.N_alloc | apply Kd.N_drewN | apply Kd.N_drew)); exact HO428.out) hb)
          have n9_ := Aside0.mk (Kd.V_below (by (with_reducible repeat (first | apply Kd.V_alloc | apply Kd.V_drewN | apply Kd.V_drew)); exact HO431.out) hb)
          have n10_ := Aside0.mk (Kd.N_below (by (with_reducible repeat (first | apply Kd.N_alloc | apply Kd.N_drewN | apply Kd.N_drew)); exact HO434.out) hb)
          have n11_ := Aside0.mk (Kd.V_below (by (with_reducible repeat (first | apply Kd.V_alloc | apply Kd.V_drewN | apply Kd.V_drew)); exact HO437.out) hb)
          have n12_ := Aside0.mk (blk_below (g := gb364) (o := .cells #[.slice A2_0 l2_0.length c2_0, .slice A2_1 l2_1.length c2_1] 40 (0, 0)) (by (with_reducible repeat (first | refine blk_drewN ?_ _ | refine blk_drew ?_ | refine blk_alloc ?_ _)); exact BK364.out) hb)
          have n13_ := Aside0.mk (blk_below (g := gb371) (o := .cells #[.slice Ao12 t365.length co12, .slice Ao15 t368.length co15] 43 (0, 0)) (by (with_reducible repeat (first | refine blk_drewN ?_ _ | refine blk_drew ?_ | refine blk_alloc ?_ _)); exact BK371.out) hb)
          have n14_ := Aside0.mk (below_step (by repeat (first | (with_reducible first | exact HB.out | apply below_alloc | apply pw_below_drewN | apply below_drew1 | refine below_set ?_ GE364.out | refine below_set ?_ GE371.out) | exact HB.out)) hb)
          clear HO_8
          clear HO_9
          clear HO_372000
          clear HO_372001
          clear HO416
          clear HO419
          clear HO422
          clear HO425
          clear HO428
          clear HO431
          clear HO434
          clear HO437
          clear BK364
          clear BK371
          clear HB
          have HO_8 := n0_
          have HO_9 := n1_
          have HO_372000 := n2_
          have HO_372001 := n3_
          have HO416 := n4_
          have HO419 := n5_
          have HO422 := n6_
          have HO425 := n7_
          have HO428 := n8_
          have HO431 := n9_
          have HO434 := n10_
          have HO437 := n11_
          have BK364 := n12_
          have BK371 := n13_
          have HB := n14_
          clear n0_ n1_ n2_ n3_ n4_ n5_ n6_ n7_ n8_ n9_ n10_ n11_ n12_ n13_ n14_
          (try clear hb)
          (try clear hb2)
          (try clear hk)
          (try clear hi)
          refine hK.out _ _ ⟨v415, v418, v421, v424, v427, v430, v433, .slice Ao94 t435.length co94, (by rw [ha.out]; exact putSel_upk 9 hb_ rfl rfl rfl), (by (with_reducible repeat (first | apply Kd.N_alloc | apply Kd.N_drewN | apply Kd.N_drew)); exact HO_372000.out), (by (with_reducible repeat (first | apply Kd.N_alloc | apply Kd.N_drewN | apply Kd.N_drew)); exact HO_372001.out), (by (with_reducible repeat (first | apply Kd.V_alloc | apply Kd.V_drewN | apply Kd.V_drew)); exact HO_8.out), (by (with_reducible repeat (first | apply Kd.V_alloc | apply Kd.V_drewN | apply Kd.V_drew)); exact HO_9.out), (by (with_reducible repeat (first | refine blk_drewN ?_ _ | refine blk_drew ?_ | refine blk_alloc ?_ _)); exact BK364.out), (by (with_reducible repeat (first | refine blk_drewN ?_ _ | refine blk_drew ?_ | refine blk_alloc ?_ _)); exact BK371.out), (by repeat (first | (with_reducible first | exact HB.out | apply below_alloc | apply pw_below_drewN | apply below_drew1 | refine below_set ?_ GE364.out | refine below_set ?_ GE371.out) | exact HB.out)), fun _ => (by (with_reducible repeat (first | apply Kd.N_alloc | apply Kd.N_drewN | apply Kd.N_drew)); exact HO416.out), fun _ => (by (with_reducible repeat (first | apply Kd.V_alloc | apply Kd.V_drewN | apply Kd.V_drew)); exact HO419.out), fun _ => (by (with_reducible repeat (first | apply Kd.N_alloc | apply Kd.N_drewN | apply Kd.N_drew)); exact HO422.out), fun _ => (by (with_reducible repeat (first | apply Kd.V_alloc | apply Kd.V_drewN | apply Kd.V_drew)); exact HO425.out), fun _ => (by (with_reducible repeat (first | apply Kd.N_alloc | apply Kd.N_drewN | apply Kd.N_drew)); exact HO428.out), fun _ => (by (with_reducible repeat (first | apply Kd.V_alloc | apply Kd.V_drewN | apply Kd.V_drew)); exact HO431.out), fun _ => (by (with_reducible repeat (first | apply Kd.N_alloc | apply Kd.N_drewN | apply Kd.N_drew)); exact HO434.out), fun _ => (by (with_reducible repeat (first | apply Kd.V_alloc | apply Kd.V_drewN | apply Kd.V_drew)); exact HO437.out)⟩
         refine steps_cons ?_ ?_
         ·
          rintro b a w' ⟨v415, v418, v421, v424, v427, v430, v433, v436, ha, Q_HO_372000, Q_HO_372001, Q_HO_8, Q_HO_9, Q_BK364, Q_BK371, Q_HB, Q_HO416, Q_HO419, Q_HO422, Q_HO425, Q_HO428, Q_HO431, Q_HO434, Q_HO437⟩ hb_ hon hoff
          refine ⟨_, rfl, fun K hK => ?_⟩
          have e67 : a.tmps[67]? = some (.tuple #[.bool t438, .bool t439]) := by rw [ha]; exact putSel_on (e := (11, 67, .tuple #[.bool t438, .bool t439])) 9 rfl rfl (hon 11 (by kernel_rfl)) rfl
          replace ha := Aside0.mk ha
          have HO_372000 := Aside0.mk Q_HO_372000
          have HO_372001 := Aside0.mk Q_HO_372001
          have HO_8 := Aside0.mk Q_HO_8
          have HO_9 := Aside0.mk Q_HO_9
          have BK364 := Aside0.mk Q_BK364
          have BK371 := Aside0.mk Q_BK371
          have HB := Aside0.mk Q_HB
          have HO416 := Aside0.mk (Q_HO416 (hon 1 (by kernel_rfl)))
          have HO419 := Aside0.mk (Q_HO419 (hon 2 (by kernel_rfl)))
          have HO422 := Aside0.mk (Q_HO422 (hon 4 (by kernel_rfl)))
          have HO425 := Aside0.mk (Q_HO425 (hon 5 (by kernel_rfl)))
          have HO428 := Aside0.mk (Q_HO428 (hon 6 (by kernel_rfl)))
          have HO431 := Aside0.mk (Q_HO431 (hon 7 (by kernel_rfl)))
          have HO434 := Aside0.mk (Q_HO434 (hon 8 (by kernel_rfl)))
          have HO437 := Aside0.mk (Q_HO437 (hon 9 (by kernel_rfl)))
          refine value_ (w1 := w') (v := .tuple #[.bool t438, .bool t439]) (by rfl) rfl ?_ ?_
          ·
           go_simp
           (try simp only [i64_w])
           try rfl
          refine hK.out _ _ ⟨v415, v418, v421, v424, v427, v430, v433, v436, (by rw [ha.out]; exact putSel_upk 10 hb_ rfl rfl rfl), Q_HO_372000, Q_HO_372001, Q_HO_8, Q_HO_9, Q_BK364, Q_BK371, Q_HB, Q_HO416, Q_HO419, Q_HO422, Q_HO425, Q_HO428, Q_HO431, Q_HO434, Q_HO437⟩
         refine steps_cons ?_ ?_
         ·
          rintro b a w' ⟨v415, v418, v421, v424, v427, v430, v433, v436, ha, Q_HO_372000, Q_HO_372001, Q_HO_8, Q_HO_9, Q_BK364, Q_BK371, Q_HB, Q_HO416, Q_HO419, Q_HO422, Q_HO425, Q_HO428, Q_HO431, Q_HO434, Q_HO437⟩ hb_ hon hoff
          refine ⟨_, rfl, fun K hK => ?_⟩
          have e55 : a.tmps[55]? = some (.tuple #[.bool t438, .bool t439]) := by rw [ha]; exact putSel_on (e := (12, 55, .tuple #[.bool t438, .bool t439])) 10 rfl rfl (hon 12 (by kernel_rfl)) rfl
          replace ha := Aside0.mk ha
          have HO_372000 := Aside0.mk Q_HO_372000
          have HO_372001 := Aside0.mk Q_HO_372001
          have HO_8 := Aside0.mk Q_HO_8
          have HO_9 := Aside0.mk Q_HO_9
          have BK364 := Aside0.mk Q_BK364
          have BK371 := Aside0.mk Q_BK371
          have HB := Aside0.mk Q_HB
          have HO416 := Aside0.mk (Q_HO416 (hon 1 (by kernel_rfl)))
          have HO419 := Aside0.mk (Q_HO419 (hon 2 (by kernel_rfl)))
          have HO422 := Aside0.mk (Q_HO422 (hon 4 (by kernel_rfl)))
          have HO425 := Aside0.mk (Q_HO425 (hon 5 (by kernel_rfl)))
          have HO428 := Aside0.mk (Q_HO428 (hon 6 (by kernel_rfl)))
          have HO431 := Aside0.mk (Q_HO431 (hon 7 (by kernel_rfl)))
          have HO434 := Aside0.mk (Q_HO434 (hon 8 (by kernel_rfl)))
          have HO437 := Aside0.mk (Q_HO437 (hon 9 (by kernel_rfl)))
          refine value_ (w1 := w') (v := .bool t438) (by rfl) rfl ?_ ?_
          ·
           go_simp
           (try simp only [i64_w])
           try rfl
          refine hK.out _ _ ⟨v415, v418, v421, v424, v427, v430, v433, v436, (by rw [ha.out]; exact putSel_upk 11 hb_ rfl rfl rfl), Q_HO_372000, Q_HO_372001, Q_HO_8, Q_HO_9, Q_BK364, Q_BK371, Q_HB, Q_HO416, Q_HO419, Q_HO422, Q_HO425, Q_HO428, Q_HO431, Q_HO434, Q_HO437⟩
         refine steps_cons ?_ ?_
         ·
          rintro b a w' ⟨v415, v418, v421, v424, v427, v430, v433, v436, ha, Q_HO_372000, Q_HO_372001, Q_HO_8, Q_HO_9, Q_BK364, Q_BK371, Q_HB, Q_HO416, Q_HO419, Q_HO422, Q_HO425, Q_HO428, Q_HO431, Q_HO434, Q_HO437⟩ hb_ hon hoff
          refine ⟨_, rfl, fun K hK => ?_⟩
          have e55 : a.tmps[55]? = some (.tuple #[.bool t438, .bool t439]) := by rw [ha]; exact putSel_on (e := (12, 55, .tuple #[.bool t438, .bool t439])) 10 rfl rfl (hon 12 (by kernel_rfl)) rfl
          replace ha := Aside0.mk ha
          have HO_372000 := Aside0.mk Q_HO_372000
          have HO_372001 := Aside0.mk Q_HO_372001
          have HO_8 := Aside0.mk Q_HO_8
          have HO_9 := Aside0.mk Q_HO_9
          have BK364 := Aside0.mk Q_BK364
          have BK371 := Aside0.mk Q_BK371
          have HB := Aside0.mk Q_HB
          have HO416 := Aside0.mk (Q_HO416 (hon 1 (by kernel_rfl)))
          have HO419 := Aside0.mk (Q_HO419 (hon 2 (by kernel_rfl)))
          have HO422 := Aside0.mk (Q_HO422 (hon 4 (by kernel_rfl)))
          have HO425 := Aside0.mk (Q_HO425 (hon 5 (by kernel_rfl)))
          have HO428 := Aside0.mk (Q_HO428 (hon 6 (by kernel_rfl)))
          have HO431 := Aside0.mk (Q_HO431 (hon 7 (by kernel_rfl)))
          have HO434 := Aside0.mk (Q_HO434 (hon 8 (by kernel_rfl)))
          have HO437 := Aside0.mk (Q_HO437 (hon 9 (by kernel_rfl)))
          refine value_ (w1 := w') (v := .bool t439) (by rfl) rfl ?_ ?_
          ·
           go_simp
           (try simp only [i64_w])
           try rfl
          refine hK.out _ _ ⟨v415, v418, v421, v424, v427, v430, v433, v436, (by rw [ha.out]; exact putSel_upk 12 hb_ rfl rfl rfl), Q_HO_372000, Q_HO_372001, Q_HO_8, Q_HO_9, Q_BK364, Q_BK371, Q_HB, Q_HO416, Q_HO419, Q_HO422, Q_HO425, Q_HO428, Q_HO431, Q_HO434, Q_HO437⟩
         refine steps_cons ?_ ?_
         ·
          rintro b a w' ⟨v415, v418, v421, v424, v427, v430, v433, v436, ha, Q_HO_372000, Q_HO_372001, Q_HO_8, Q_HO_9, Q_BK364, Q_BK371, Q_HB, Q_HO416, Q_HO419, Q_HO422, Q_HO425, Q_HO428, Q_HO431, Q_HO434, Q_HO437⟩ hb_ hon hoff
          refine ⟨_, rfl, fun K hK => ?_⟩
          have e68 : a.tmps[68]? = some (.bool t438) := by rw [ha]; exact putSel_on (e := (13, 68, .bool t438)) 11 rfl rfl (hon 13 (by kernel_rfl)) rfl
          replace ha := Aside0.mk ha
          have HO_372000 := Aside0.mk Q_HO_372000
          have HO_372001 := Aside0.mk Q_HO_372001
          have HO_8 := Aside0.mk Q_HO_8
          have HO_9 := Aside0.mk Q_HO_9
          have BK364 := Aside0.mk Q_BK364
          have BK371 := Aside0.mk Q_BK371
          have HB := Aside0.mk Q_HB
          have HO416 := Aside0.mk (Q_HO416 (hon 1 (by kernel_rfl)))
          have HO419 := Aside0.mk (Q_HO419 (hon 2 (by kernel_rfl)))
          have HO422 := Aside0.mk (Q_HO422 (hon 4 (by kernel_rfl)))
          have HO425 := Aside0.mk (Q_HO425 (hon 5 (by kernel_rfl)))
          have HO428 := Aside0.mk (Q_HO428 (hon 6 (by kernel_rfl)))
          have HO431 := Aside0.mk (Q_HO431 (hon 7 (by kernel_rfl)))
          have HO434 := Aside0.mk (Q_HO434 (hon 8 (by kernel_rfl)))
          have HO437 := Aside0.mk (Q_HO437 (hon 9 (by kernel_rfl)))
          refine value_ (w1 := w') (v := .bool t438) (by rfl) rfl ?_ ?_
          ·
           go_simp
           (try simp only [i64_w])
           try rfl
          refine hK.out _ _ ⟨v415, v418, v421, v424, v427, v430, v433, v436, (by rw [ha.out]; exact putSel_upk 13 hb_ rfl rfl rfl), Q_HO_372000, Q_HO_372001, Q_HO_8, Q_HO_9, Q_BK364, Q_BK371, Q_HB, Q_HO416, Q_HO419, Q_HO422, Q_HO425, Q_HO428, Q_HO431, Q_HO434, Q_HO437⟩
         refine steps_cons ?_ ?_
         ·
          rintro b a w' ⟨v415, v418, v421, v424, v427, v430, v433, v436, ha, Q_HO_372000, Q_HO_372001, Q_HO_8, Q_HO_9, Q_BK364, Q_BK371, Q_HB, Q_HO416, Q_HO419, Q_HO422, Q_HO425, Q_HO428, Q_HO431, Q_HO434, Q_HO437⟩ hb_ hon hoff
          refine ⟨_, rfl, fun K hK => ?_⟩
          have e69 : a.tmps[69]? = some (.bool t439) := by rw [ha]; exact putSel_on (e := (14, 69, .bool t439)) 12 rfl rfl (hon 14 (by kernel_rfl)) rfl
          replace ha := Aside0.mk ha
          have HO_372000 := Aside0.mk Q_HO_372000
          have HO_372001 := Aside0.mk Q_HO_372001
          have HO_8 := Aside0.mk Q_HO_8
          have HO_9 := Aside0.mk Q_HO_9
          have BK364 := Aside0.mk Q_BK364
          have BK371 := Aside0.mk Q_BK371
          have HB := Aside0.mk Q_HB
          have HO416 := Aside0.mk (Q_HO416 (hon 1 (by kernel_rfl)))
          have HO419 := Aside0.mk (Q_HO419 (hon 2 (by kernel_rfl)))
          have HO422 := Aside0.mk (Q_HO422 (hon 4 (by kernel_rfl)))
          have HO425 := Aside0.mk (Q_HO425 (hon 5 (by kernel_rfl)))
          have HO428 := Aside0.mk (Q_HO428 (hon 6 (by kernel_rfl)))
          have HO431 := Aside0.mk (Q_HO431 (hon 7 (by kernel_rfl)))
          have HO434 := Aside0.mk (Q_HO434 (hon 8 (by kernel_rfl)))
          have HO437 := Aside0.mk (Q_HO437 (hon 9 (by kernel_rfl)))
          refine value_ (w1 := w') (v := .bool t439) (by rfl) rfl ?_ ?_
          ·
           go_simp
           (try simp only [i64_w])
           try rfl
          refine hK.out _ _ ⟨v415, v418, v421, v424, v427, v430, v433, v436, (by rw [ha.out]; exact putSel_upk 14 hb_ rfl rfl rfl), Q_HO_372000, Q_HO_372001, Q_HO_8, Q_HO_9, Q_BK364, Q_BK371, Q_HB, Q_HO416, Q_HO419, Q_HO422, Q_HO425, Q_HO428, Q_HO431, Q_HO434, Q_HO437⟩
         exact steps_nil
        rintro b a w95 hall ⟨v415, v418, v421, v424, v427, v430, v433, v436, ha, Q_HO_372000, Q_HO_372001, Q_HO_8, Q_HO_9, Q_BK364, Q_BK371, Q_HB, Q_HO416, Q_HO419, Q_HO422, Q_HO425, Q_HO428, Q_HO431, Q_HO434, Q_HO437⟩
        clear BK364 BK371 HB HO_372000 HO_372001 HO_8 HO_9
        have hb1_ := hall 1 (by kernel_rfl)
        have hb2_ := hall 2 (by kernel_rfl)
        have hb4_ := hall 4 (by kernel_rfl)
        have hb5_ := hall 5 (by kernel_rfl)
        have hb6_ := hall 6 (by kernel_rfl)
        have hb7_ := hall 7 (by kernel_rfl)
        have hb8_ := hall 8 (by kernel_rfl)
        have hb9_ := hall 9 (by kernel_rfl)
        have hb10_ := hall 10 (by kernel_rfl)
        have hb11_ := hall 11 (by kernel_rfl)
        have hb12_ := hall 12 (by kernel_rfl)
        have hb13_ := hall 13 (by kernel_rfl)
        have hb14_ := hall 14 (by kernel_rfl)
        have hb15_ := hall 15 (by kernel_rfl)
        have hb16_ := hall 16 (by kernel_rfl)
        subst ha
        simp only [putSel, hb1_, hb2_, hb4_, hb5_, hb6_, hb7_, hb8_, hb9_, hb10_, hb11_, hb12_, hb13_, hb14_, hb15_, hb16_, if_true, Act.put, List.setIfInBounds_toArray, List.set_cons_zero, List.set_cons_succ]
        have HO_372000 := Aside0.mk Q_HO_372000
        clear Q_HO_372000
        have HO_372001 := Aside0.mk Q_HO_372001
        clear Q_HO_372001
        have HO_8 := Aside0.mk Q_HO_8
        clear Q_HO_8
        have HO_9 := Aside0.mk Q_HO_9
        clear Q_HO_9
        have BK364 := Aside0.mk Q_BK364
        clear Q_BK364
        have BK371 := Aside0.mk Q_BK371
        clear Q_BK371
        have HB := Aside0.mk Q_HB
        clear Q_HB
        have HO416 := Aside0.mk (Q_HO416 hb1_)
        clear Q_HO416
        have HO419 := Aside0.mk (Q_HO419 hb2_)
        clear Q_HO419
        have HO422 := Aside0.mk (Q_HO422 hb4_)
        clear Q_HO422
        have HO425 := Aside0.mk (Q_HO425 hb5_)
        clear Q_HO425
        have HO428 := Aside0.mk (Q_HO428 hb6_)
        clear Q_HO428
        have HO431 := Aside0.mk (Q_HO431 hb7_)
        clear Q_HO431
        have HO434 := Aside0.mk (Q_HO434 hb8_)
        clear Q_HO434
        have HO437 := Aside0.mk (Q_HO437 hb9_)
        clear Q_HO437
        clear hall hb1_ hb2_ hb4_ hb5_ hb6_ hb7_ hb8_ hb9_ hb10_ hb11_ hb12_ hb13_ hb14_ hb15_ hb16_
        try go_wp2
        go_meet
        case rel => exact ⟨_, (t438), (t439), (by first | rfl | (simp; done) | (simp [*]; done)), (by first | rfl | (simp; done) | (simp [*]; done)), H', ⟨by have := HJ6.out; have := HJ28.out; have := HJ52.out; first | omega | exact Nat.le_refl _⟩, ⟨by (with_reducible repeat (first | apply Kd.V_alloc | apply Kd.V_drewN | apply Kd.V_drew)); exact Kd.V_mono HO_8.out (fun _ hk => by first | exact ⟨hk.2.2.2.2.1, hk.2.2.2.2.2⟩ | exact hk.1 | exact hk)⟩, ⟨by (with_reducible repeat (first | apply Kd.N_alloc | apply Kd.N_drewN | apply Kd.N_drew)); exact Kd.N_mono HO_372000.out (fun _ hk => by first | exact ⟨hk.2.2.2.2.1, ⟨hk.2.2.2.2.2.1, hk.2.2.2.2.2.2⟩⟩ | exact hk.1 | exact hk)⟩, ⟨by (with_reducible repeat (first | apply Kd.N_alloc | apply Kd.N_drewN | apply Kd.N_drew)); exact Kd.N_mono HO_372001.out (fun _ hk => by first | exact ⟨hk.2.2.2.2.1, ⟨hk.2.2.2.2.2.1, hk.2.2.2.2.2.2⟩⟩ | exact hk.1 | exact hk)⟩, ⟨by (with_reducible repeat (first | refine blk_drewN ?_ _ | refine blk_drew ?_ | refine blk_alloc ?_ _)); exact BK364.out⟩, ⟨by (with_reducible repeat (first | refine blk_drewN ?_ _ | refine blk_drew ?_ | refine blk_alloc ?_ _)); exact BK371.out⟩, ⟨by repeat (first | (with_reducible first | exact HB.out | apply below_alloc | apply pw_below_drewN | apply below_drew1 | refine below_set ?_ GE364.out | refine below_set ?_ GE371.out) | exact HB.out)⟩⟩
       case rest =>
        clear HC65
        try clear c1
        try clear c2
        try clear p2
        try clear c21
        try clear c25
        obtain ⟨kq, x16_64, x17_64, rfl, rfl, HA, HJ64, HO_8, HO_372000, HO_372001, BK364, BK371, HB⟩ := hcut
        cases kq with
        | zero => exact absurd HA.out (by simp [foretellkeep_WordDual.j3])
        | succ kj64 =>
         have H := HA.out
         clear HA
         simp only [foretellkeep_WordDual.j3] at H
         have HC96 := Aside0.mk H
         clear H
         go_upto_region 8 with (fail)
         go_cut [18, 19] (fun v18 v19 wc => ∃ (kq : Nat) (x18_95 : Bool) (x19_95 : Bool), v18 = .bool x18_95 ∧ v19 = .bool x19_95 ∧ Aside0 (foretellkeep_WordDual.j4 kq x10_6 x11_6 x12_28 x13_28 x14_52 x15_52 x16_64 x17_64 x18_95 x19_95 = some r) ∧ Aside0 (kq ≤ kj64) ∧ Aside0 (Kd.N (Kd.slice 4 Kd.bool) 30 wc w.heap.size (fun k_ => some k_ ≠ ((.slice Ao15 t368.length co15) : Value).ownBlock ∧ k_ ≠ gb364 ∧ k_ ≠ gb371) (.slice Ao12 t365.length co12) t365) ∧ Aside0 (Kd.N (Kd.slice 4 Kd.bool) 30 wc w.heap.size (fun k_ => some k_ ≠ ((.slice Ao12 t365.length co12) : Value).ownBlock ∧ k_ ≠ gb364 ∧ k_ ≠ gb371) (.slice Ao15 t368.length co15) t368) ∧ Aside0 (wc.heap[gb364]? = some (.cells #[(.slice A2_0 l2_0.length c2_0), (.slice A2_1 l2_1.length c2_1)] 40 (0, 0))) ∧ Aside0 (wc.heap[gb371]? = some (.cells #[(.slice Ao12 t365.length co12), (.slice Ao15 t368.length co15)] 43 (0, 0))) ∧ Aside0 (Below w.heap.size w wc))
         case first =>
          have H := HC96.out
          clear HC96
          obtain ⟨y440, hy440⟩ : ∃ y_ : List (List (S51)), y_ = (([t372] : List (List (S51)))) := ⟨_, rfl⟩
          replace H : ((foretellkeep_joined.f kj64 10 y440).bind fun t443 => ((foretellkeep_joined.f kj64 9 (([t372, t443] : List (List (S51))))).bind fun t449 => ((foretellkeep_holds.f kj64 t449 t365 t368).bind fun bt452 => (foretellkeep_WordDual.j4 kj64 x10_6 x11_6 x12_28 x13_28 x14_52 x15_52 x16_64 x17_64 bt452.1 bt452.2)))) = some r := by first | (rw [hy440]; with_reducible exact H) | (have H2_ := (Option.bind_some _ _).symm.trans H; rw [hy440]; with_reducible exact H2_) | (have H2_ := (Option.bind_some _ _).symm.trans H; with_reducible exact H2_) | with_reducible exact H | (rw [hy440]; exact H) | exact H
          have Ny440 := Aside0.mk hy440
          clear hy440
          replace H := Option.bind_eq_some_iff.mp H
          obtain ⟨t443, A970, H⟩ := H
          replace H : ((foretellkeep_joined.f kj64 9 (([t372, t443] : List (List (S51))))).bind fun t449 => ((foretellkeep_holds.f kj64 t449 t365 t368).bind fun bt452 => (foretellkeep_WordDual.j4 kj64 x10_6 x11_6 x12_28 x13_28 x14_52 x15_52 x16_64 x17_64 bt452.1 bt452.2))) = some r := H
          have A97 := Aside0.mk A970
          clear A970
          obtain ⟨y446, hy446⟩ : ∃ y_ : List (List (S51)), y_ = (([t372, t443] : List (List (S51)))) := ⟨_, rfl⟩
          replace H : ((foretellkeep_joined.f kj64 9 y446).bind fun t449 => ((foretellkeep_holds.f kj64 t449 t365 t368).bind fun bt452 => (foretellkeep_WordDual.j4 kj64 x10_6 x11_6 x12_28 x13_28 x14_52 x15_52 x16_64 x17_64 bt452.1 bt452.2))) = some r := by first | (rw [hy446]; with_reducible exact H) | (have H2_ := (Option.bind_some _ _).symm.trans H; rw [hy446]; with_reducible exact H2_) | (have H2_ := (Option.bind_some _ _).symm.trans H; with_reducible exact H2_) | with_reducible exact H | (rw [hy446]; exact H) | exact H
          have Ny446 := Aside0.mk hy446
          clear hy446
          replace H := Option.bind_eq_some_iff.mp H
          obtain ⟨t449, A980, H⟩ := H
          replace H : ((foretellkeep_holds.f kj64 t449 t365 t368).bind fun bt452 => (foretellkeep_WordDual.j4 kj64 x10_6 x11_6 x12_28 x13_28 x14_52 x15_52 x16_64 x17_64 bt452.1 bt452.2)) = some r := H
          have A98 := Aside0.mk A980
          clear A980
          replace H := Option.bind_eq_some_iff.mp H
          obtain ⟨⟨t452, t453⟩, A990, H⟩ := H
          replace H : (foretellkeep_WordDual.j4 kj64 x10_6 x11_6 x12_28 x13_28 x14_52 x15_52 x16_64 x17_64 t452 t453) = some r := H
          have A99 := Aside0.mk A990
          clear A990
          have H' := Aside0.mk H
          clear H
          obtain ⟨Ao100, co100, eo100⟩ := Kd.V_slice HO_8.out
          subst eo100
          try go_wp2
          have n0_ := Aside0.mk (Kd.V_drew HO_8.out)
          have n1_ := Aside0.mk (Kd.N_drew HO_372000.out)
          have n2_ := Aside0.mk (Kd.N_drew HO_372001.out)
          have n3_ := Aside0.mk (blk_drew BK364.out)
          have n4_ := Aside0.mk (blk_drew BK371.out)
          have n5_ := Aside0.mk (below_drew1 HB.out)
          clear HO_8
          clear HO_372000
          clear HO_372001
          clear BK364
          clear BK371
          clear HB
          have HO_8 := n0_
          have HO_372000 := n1_
          have HO_372001 := n2_
          have BK364 := n3_
          have BK371 := n4_
          have HB := n5_
          clear n0_ n1_ n2_ n3_ n4_ n5_
          refine start_ (n := 13) (S := fun w' => w'.cell? ⟨gb371, 0, none⟩ = some (.slice Ao12 t365.length co12) ∧ w'.cell? ⟨gb371, 1, none⟩ = some (.slice Ao15 t368.length co15)) (ds := []) #[false, false, false, false, false, false, false, false, false, false, false, false, false] (by kernel_rfl) rfl rfl ⟨(blk_cell BK371.out 0).trans rfl, (blk_cell BK371.out 1).trans rfl⟩ (fun hHeld => ?_); refine with_tabW foretellkeep_WordDual.tab8 foretellkeep_WordDual.bits8 (fun HT_ HW_ => ?_)
          generalize wc.drew = w101 at HO_8 HO_372000 HO_372001 BK364 BK371 HB hHeld ⊢
          refine pure_ (i := 0) (N := some 71) (v := ?_) (a' := ?_) #[true, false, false, false, false, false, false, false, false, false, false, false, false] rfl rfl (any_of HT_.out (by kernel_rfl)) (fun _ _ _ h => h) (Or.inl ⟨by rfl, ?_⟩) ?_ ?_
          rotate_left
          ·
           intro w'
           go_simp
           with_reducible rfl
          rotate_left
          ·
           simp only [Act.put, List.setIfInBounds_toArray, List.set_cons_zero, List.set_cons_succ, i64_w, i32_w]
           rfl
          refine pure_ (i := 1) (N := some 72) (v := ?_) (a' := ?_) #[true, true, false, false, false, false, false, false, false, false, false, false, false] rfl rfl (any_of HT_.out (by kernel_rfl)) (fun _ _ _ h => h) (Or.inl ⟨by rfl, ?_⟩) ?_ ?_
          rotate_left
          ·
           intro w'
           go_simp
           with_reducible rfl
          rotate_left
          ·
           simp only [Act.put, List.setIfInBounds_toArray, List.set_cons_zero, List.set_cons_succ, i64_w, i32_w]
           rfl
          refine take_ (i := 6) (N := some 77) (v := ?_) (a' := ?_) #[true, true, false, false, false, false, true, false, false, false, false, false, false] rfl rfl (take_ofW HT_.out HW_.out (by kernel_rfl)) (fun _ _ _ h => h) (Or.inl ⟨by rfl, ?_⟩) hHeld ?_ ?_
          rotate_left
          ·
           rintro w' ⟨s0, s1⟩
           go_simp
           with_reducible rfl
          rotate_left
          ·
           simp only [Act.put, List.setIfInBounds_toArray, List.set_cons_zero, List.set_cons_succ, i64_w, i32_w]
           rfl
          refine one_ (i := 2) (N := some 73) #[true, true, true, false, false, false, true, false, false, false, false, false, false] rfl rfl (one_of HT_.out (by kernel_rfl)) (by decide) (fun K hK => ?_)
          refine Kd.N_lit_step (Kd.slice 51 k51) _ 23 ?hg (N' := 73) ?hd (xs := ([t372] : List (List (S51)))) (inner := [.slice Ao100 t372.length co100]) (ok := (fun k_ => k_ ≠ gb364 ∧ k_ ≠ gb371)) (okp := (fun k_ => k_ ≠ gb364 ∧ k_ ≠ gb371)) ?hr ?hp (fun _ hk => hk) ((show ∀ k_, w101.heap.size ≤ k_ → (fun k_ => k_ ≠ gb364 ∧ k_ ≠ gb371) k_ from fun k_ hk => ⟨Kd.freshB (g := gb364) (o := .cells #[.slice A2_0 l2_0.length c2_0, .slice A2_1 l2_1.length c2_1] 40 (0, 0)) (by (with_reducible repeat (first | refine blk_drewN ?_ _ | refine blk_drew ?_ | refine blk_alloc ?_ _)); exact BK364.out) k_ hk, Kd.freshB (g := gb371) (o := .cells #[.slice Ao12 t365.length co12, .slice Ao15 t368.length co15] 43 (0, 0)) (by (with_reducible repeat (first | refine blk_drewN ?_ _ | refine blk_drew ?_ | refine blk_alloc ?_ _)); exact BK371.out) k_ hk⟩) _ (Nat.le_refl _)) (Below.refl _ _) (Nat.le_refl _) (by simp) ?_; (case hd => rfl); (case hg => rfl); (case hr => first | (go_simp; done) | (go_simp; rfl)); (case hp => exact (Reps.one (show Kd.FK (Kd.slice 51 k51) _ _ t372 [.slice Ao100 t372.length co100] from (Kd.FK_slice_mk (Kd.V_reads' (Kd.V_mono (ok' := (fun k_ => k_ ≠ gb364 ∧ k_ ≠ gb371)) (HO_8.out) (fun k_ hk => ⟨hk.1, hk.2⟩))).2.1 (Kd.V_F (Kd.V_mono (ok' := (fun k_ => k_ ≠ gb364 ∧ k_ ≠ gb371)) (HO_8.out) (fun k_ hk => ⟨hk.1, hk.2⟩))))) (Reps.none _ _)))
          intro v441 w102 ho103 hb hg_ hnew_
          clear hg_ hnew_
          (first | rw [← Ny440.out] at ho103 | (simp only [Int.reduceToNat] at ho103; rw [← Ny440.out] at ho103))
          have n0_ := Aside0.mk (Kd.V_elder' (by (with_reducible repeat (first | apply Kd.V_alloc | apply Kd.V_drewN | apply Kd.V_drew)); exact HO_8.out) (by first | exact Kd.N_base ho103 | exact Kd.S_base ho103 | exact Kd.R_base ho103) hb)
          have n1_ := Aside0.mk (Kd.N_elder' (by (with_reducible repeat (first | apply Kd.N_alloc | apply Kd.N_drewN | apply Kd.N_drew)); exact HO_372000.out) (by first | exact Kd.N_base ho103 | exact Kd.S_base ho103 | exact Kd.R_base ho103) hb)
          have n2_ := Aside0.mk (Kd.N_elder' (by (with_reducible repeat (first | apply Kd.N_alloc | apply Kd.N_drewN | apply Kd.N_drew)); exact HO_372001.out) (by first | exact Kd.N_base ho103 | exact Kd.S_base ho103 | exact Kd.R_base ho103) hb)
          have n3_ := Aside0.mk (Kd.N_lower ho103 (below_size (by repeat (first | (with_reducible first | exact HB.out | apply below_alloc | apply pw_below_drewN | apply below_drew1 | refine below_set ?_ GE364.out | refine below_set ?_ GE371.out) | exact HB.out))))
          have n4_ := Aside0.mk (blk_below (g := gb364) (o := .cells #[.slice A2_0 l2_0.length c2_0, .slice A2_1 l2_1.length c2_1] 40 (0, 0)) (by (with_reducible repeat (first | refine blk_drewN ?_ _ | refine blk_drew ?_ | refine blk_alloc ?_ _)); exact BK364.out) hb)
          have n5_ := Aside0.mk (blk_below (g := gb371) (o := .cells #[.slice Ao12 t365.length co12, .slice Ao15 t368.length co15] 43 (0, 0)) (by (with_reducible repeat (first | refine blk_drewN ?_ _ | refine blk_drew ?_ | refine blk_alloc ?_ _)); exact BK371.out) hb)
          have n6_ := Aside0.mk (below_step (by repeat (first | (with_reducible first | exact HB.out | apply below_alloc | apply pw_below_drewN | apply below_drew1 | refine below_set ?_ GE364.out | refine below_set ?_ GE371.out) | exact HB.out)) hb)
          clear HO_8
          clear HO_372000
          clear HO_372001
          clear BK364
          clear BK371
          clear HB
          have HO_8 := n0_
          have HO_372000 := n1_
          have HO_372001 := n2_
          have HO442 := n3_
          have BK364 := n4_
          have BK371 := n5_
          have HB := n6_
          clear n0_ n1_ n2_ n3_ n4_ n5_ n6_
          clear hb ho103
          obtain ⟨Ao104, co104, eo104⟩ := Kd.N_slice HO442.out
          (first | subst eo104 | (injection eo104 with f1_ f2_ f3_; have f4_ := f1_.symm; have f5_ := f3_.symm; clear f1_ f2_ f3_; subst f4_; subst f5_))
          refine hK.out _ _ ⟨(blk_cell BK371.out 0).trans rfl, (blk_cell BK371.out 1).trans rfl⟩ (fun hHeld => ?_)
          clear hK K
          refine norm_ (a' := ?_) ?_ ?_
          rotate_left
          ·
           show Act.put _ (some 73) _ = _
           simp only [Act.put, List.setIfInBounds_toArray, List.set_cons_zero, List.set_cons_succ, i64_w, i32_w]
           rfl
          refine one_ (i := 3) (N := some 74) #[true, true, true, true, false, false, true, false, false, false, false, false, false] rfl rfl (one_of HT_.out (by kernel_rfl)) (by decide) (fun K hK => ?_)
          refine goes_ Tryd.func21 (by kernel_rfl) rfl #[.int .i64 10, .slice Ao104 y440.length co104] (by rfl) rfl rfl (by (try simp only [List.map_toArray, List.map_cons, List.map_nil]); first | done | rfl | (simp only [List.length_drop, List.length_take]; rfl)) ?_
          with_reducible refine (foretellkeep_joined.calls kj64 10 _ _ y440 t443 _ ?side1 ?side2 A97.out).mono ?_
          (case side1 => repeat (first | exact (Kd.N_reads' HO442.out).2.2 | (with_reducible refine Kd.C_alloc ?_ _) | (with_reducible refine Kd.C_drewN ?_ _) | (with_reducible refine Kd.C_drew ?_)))
          (case side2 => exact (Kd.N_reads' HO442.out).2.1)
          rintro e w105 ⟨v444, rfl, ho0, hb⟩
          refine ⟨_, rfl, ?_⟩
          have n0_ := Aside0.mk (Kd.V_below (by (with_reducible repeat (first | apply Kd.V_alloc | apply Kd.V_drewN | apply Kd.V_drew)); exact HO_8.out) hb)
          have n1_ := Aside0.mk (Kd.N_below (by (with_reducible repeat (first | apply Kd.N_alloc | apply Kd.N_drewN | apply Kd.N_drew)); exact HO_372000.out) hb)
          have n2_ := Aside0.mk (Kd.N_below (by (with_reducible repeat (first | apply Kd.N_alloc | apply Kd.N_drewN | apply Kd.N_drew)); exact HO_372001.out) hb)
          have n3_ := Aside0.mk (Kd.N_below (by (with_reducible repeat (first | apply Kd.N_alloc | apply Kd.N_drewN | apply Kd.N_drew)); exact HO442.out) hb)
          have n4_ := Aside0.mk (Kd.V_lower (Kd.V_mono (ok' := fun k_ => k_ ≠ gb364 ∧ k_ ≠ gb371) (Kd.R_V (Kd.R_bound ho0)) (fun k_ hk_ => ⟨(Kd.freshB (g := gb364) (o := .cells #[.slice A2_0 l2_0.length c2_0, .slice A2_1 l2_1.length c2_1] 40 (0, 0)) (by (with_reducible repeat (first | refine blk_drewN ?_ _ | refine blk_drew ?_ | refine blk_alloc ?_ _)); exact BK364.out) k_ hk_.2.1), (Kd.freshB (g := gb371) (o := .cells #[.slice Ao12 t365.length co12, .slice Ao15 t368.length co15] 43 (0, 0)) (by (with_reducible repeat (first | refine blk_drewN ?_ _ | refine blk_drew ?_ | refine blk_alloc ?_ _)); exact BK371.out) k_ hk_.2.1)⟩)) (below_size (by repeat (first | (with_reducible first | exact HB.out | apply below_alloc | apply pw_below_drewN | apply below_drew1 | refine below_set ?_ GE364.out | refine below_set ?_ GE371.out) | exact HB.out))))
          have n5_ := Aside0.mk (blk_below (g := gb364) (o := .cells #[.slice A2_0 l2_0.length c2_0, .slice A2_1 l2_1.length c2_1] 40 (0, 0)) (by (with_reducible repeat (first | refine blk_drewN ?_ _ | refine blk_drew ?_ | refine blk_alloc ?_ _)); exact BK364.out) hb)
          have n6_ := Aside0.mk (blk_below (g := gb371) (o := .cells #[.slice Ao12 t365.length co12, .slice Ao15 t368.length co15] 43 (0, 0)) (by (with_reducible repeat (first | refine blk_drewN ?_ _ | refine blk_drew ?_ | refine blk_alloc ?_ _)); exact BK371.out) hb)
          have n7_ := Aside0.mk (below_step (by repeat (first | (with_reducible first | exact HB.out | apply below_alloc | apply pw_below_drewN | apply below_drew1 | refine below_set ?_ GE364.out | refine below_set ?_ GE371.out) | exact HB.out)) hb)
          clear HO_8
          clear HO_372000
          clear HO_372001
          clear HO442
          clear BK364
          clear BK371
          clear HB
          have HO_8 := n0_
          have HO_372000 := n1_
          have HO_372001 := n2_
          have HO442 := n3_
          have HO445 := n4_
          have BK364 := n5_
          have BK371 := n6_
          have HB := n7_
          clear n0_ n1_ n2_ n3_ n4_ n5_ n6_ n7_
          (try clear hb)
          (try clear hb2)
          (try clear hk)
          (try clear hi)
          (try clear ho0)
          obtain ⟨Ao106, co106, eo106⟩ := Kd.V_slice HO445.out
          (first | subst eo106 | (injection eo106 with f1_ f2_ f3_; have f4_ := f1_.symm; have f5_ := f3_.symm; clear f1_ f2_ f3_; subst f4_; subst f5_))
          refine hK.out _ _ ⟨(blk_cell BK371.out 0).trans rfl, (blk_cell BK371.out 1).trans rfl⟩ (fun hHeld => ?_)
          clear hK K
          refine norm_ (a' := ?_) ?_ ?_
          rotate_left
          ·
           show Act.put _ (some 74) _ = _
           simp only [Act.put, List.setIfInBounds_toArray, List.set_cons_zero, List.set_cons_succ, i64_w, i32_w]
           rfl
          refine one_ (i := 4) (N := some 75) #[true, true, true, true, true, false, true, false, false, false, false, false, false] rfl rfl (one_of HT_.out (by kernel_rfl)) (by decide) (fun K hK => ?_)
          refine Kd.N_lit_step (Kd.slice 51 k51) _ 23 ?hg (N' := 75) ?hd (xs := ([t372, t443] : List (List (S51)))) (inner := [.slice Ao100 t372.length co100, .slice Ao106 t443.length co106]) (ok := (fun k_ => k_ ≠ gb364 ∧ k_ ≠ gb371)) (okp := (fun k_ => k_ ≠ gb364 ∧ k_ ≠ gb371)) ?hr ?hp (fun _ hk => hk) ((show ∀ k_, w105.heap.size ≤ k_ → (fun k_ => k_ ≠ gb364 ∧ k_ ≠ gb371) k_ from fun k_ hk => ⟨Kd.freshB (g := gb364) (o := .cells #[.slice A2_0 l2_0.length c2_0, .slice A2_1 l2_1.length c2_1] 40 (0, 0)) (by (with_reducible repeat (first | refine blk_drewN ?_ _ | refine blk_drew ?_ | refine blk_alloc ?_ _)); exact BK364.out) k_ hk, Kd.freshB (g := gb371) (o := .cells #[.slice Ao12 t365.length co12, .slice Ao15 t368.length co15] 43 (0, 0)) (by (with_reducible repeat (first | refine blk_drewN ?_ _ | refine blk_drew ?_ | refine blk_alloc ?_ _)); exact BK371.out) k_ hk⟩) _ (Nat.le_refl _)) (Below.refl _ _) (Nat.le_refl _) (by simp) ?_; (case hd => rfl); (case hg => rfl); (case hr => first | (go_simp; done) | (go_simp; rfl)); (case hp => exact (Reps.one (show Kd.FK (Kd.slice 51 k51) _ _ t372 [.slice Ao100 t372.length co100] from (Kd.FK_slice_mk (Kd.V_reads' (Kd.V_mono (ok' := (fun k_ => k_ ≠ gb364 ∧ k_ ≠ gb371)) (HO_8.out) (fun k_ hk => ⟨hk.1.1, hk.1.2⟩))).2.1 (Kd.V_F (Kd.V_mono (ok' := (fun k_ => k_ ≠ gb364 ∧ k_ ≠ gb371)) (HO_8.out) (fun k_ hk => ⟨hk.1.1, hk.1.2⟩))))) (Reps.one (show Kd.FK (Kd.slice 51 k51) _ _ t443 [.slice Ao106 t443.length co106] from (Kd.FK_slice_mk (Kd.V_reads' (Kd.V_mono (ok' := (fun k_ => k_ ≠ gb364 ∧ k_ ≠ gb371)) (HO445.out) (fun k_ hk => by first | exact ⟨hk.1, hk.2⟩ | exact hk))).2.1 (Kd.V_F (Kd.V_mono (ok' := (fun k_ => k_ ≠ gb364 ∧ k_ ≠ gb371)) (HO445.out) (fun k_ hk => by first | exact ⟨hk.1, hk.2⟩ | exact hk))))) (Reps.none _ _))))
          intro v447 w107 ho108 hb hg_ hnew_
          clear hg_ hnew_
          (first | rw [← Ny446.out] at ho108 | (simp only [Int.reduceToNat] at ho108; rw [← Ny446.out] at ho108))
          have n0_ := Aside0.mk (Kd.V_elder' (by (with_reducible repeat (first | apply Kd.V_alloc | apply Kd.V_drewN | apply Kd.V_drew)); exact HO_8.out) (by first | exact Kd.N_base ho108 | exact Kd.S_base ho108 | exact Kd.R_base ho108) hb)
          have n1_ := Aside0.mk (Kd.N_elder' (by (with_reducible repeat (first | apply Kd.N_alloc | apply Kd.N_drewN | apply Kd.N_drew)); exact HO_372000.out) (by first | exact Kd.N_base ho108 | exact Kd.S_base ho108 | exact Kd.R_base ho108) hb)
          have n2_ := Aside0.mk (Kd.N_elder' (by (with_reducible repeat (first | apply Kd.N_alloc | apply Kd.N_drewN | apply Kd.N_drew)); exact HO_372001.out) (by first | exact Kd.N_base ho108 | exact Kd.S_base ho108 | exact Kd.R_base ho108) hb)
          have n3_ := Aside0.mk (Kd.N_elder' (by (with_reducible repeat (first | apply Kd.N_alloc | apply Kd.N_drewN | apply Kd.N_drew)); exact HO442.out) (by first | exact Kd.N_base ho108 | exact Kd.S_base ho108 | exact Kd.R_base ho108) hb)
          have n4_ := Aside0.mk (Kd.V_elder' (by (with_reducible repeat (first | apply Kd.V_alloc | apply Kd.V_drewN | apply Kd.V_drew)); exact HO445.out) (by first | exact Kd.N_base ho108 | exact Kd.S_base ho108 | exact Kd.R_base ho108) hb)
          have n5_ := Aside0.mk (Kd.N_lower ho108 (below_size (by repeat (first | (with_reducible first | exact HB.out | apply below_alloc | apply pw_below_drewN | apply below_drew1 | refine below_set ?_ GE364.out | refine below_set ?_ GE371.out) | exact HB.out))))
          have n6_ := Aside0.mk (blk_below (g := gb364) (o := .cells #[.slice A2_0 l2_0.length c2_0, .slice A2_1 l2_1.length c2_1] 40 (0, 0)) (by (with_reducible repeat (first | refine blk_drewN ?_ _ | refine blk_drew ?_ | refine blk_alloc ?_ _)); exact BK364.out) hb)
          have n7_ := Aside0.mk (blk_below (g := gb371) (o := .cells #[.slice Ao12 t365.length co12, .slice Ao15 t368.length co15] 43 (0, 0)) (by (with_reducible repeat (first | refine blk_drewN ?_ _ | refine blk_drew ?_ | refine blk_alloc ?_ _)); exact BK371.out) hb)
          have n8_ := Aside0.mk (below_step (by repeat (first | (with_reducible first | exact HB.out | apply below_alloc | apply pw_below_drewN | apply below_drew1 | refine below_set ?_ GE364.out | refine below_set ?_ GE371.out) | exact HB.out)) hb)
          clear HO_8
          clear HO_372000
          clear HO_372001
          clear HO442
          clear HO445
          clear BK364
          clear BK371
          clear HB
          have HO_8 := n0_
          have HO_372000 := n1_
          have HO_372001 := n2_
          have HO442 := n3_
          have HO445 := n4_
          have HO448 := n5_
          have BK364 := n6_
          have BK371 := n7_
          have HB := n8_
          clear n0_ n1_ n2_ n3_ n4_ n5_ n6_ n7_ n8_
          clear hb ho108
          obtain ⟨Ao109, co109, eo109⟩ := Kd.N_slice HO448.out
          (first | subst eo109 | (injection eo109 with f1_ f2_ f3_; have f4_ := f1_.symm; have f5_ := f3_.symm; clear f1_ f2_ f3_; subst f4_; subst f5_))
          refine hK.out _ _ ⟨(blk_cell BK371.out 0).trans rfl, (blk_cell BK371.out 1).trans rfl⟩ (fun hHeld => ?_)
          clear hK K
          refine norm_ (a' := ?_) ?_ ?_
          rotate_left
          ·
           show Act.put _ (some 75) _ = _
           simp only [Act.put, List.setIfInBounds_toArray, List.set_cons_zero, List.set_cons_succ, i64_w, i32_w]
           rfl
          refine one_ (i := 5) (N := some 76) #[true, true, true, true, true, true, true, false, false, false, false, false, false] rfl rfl (one_of HT_.out (by kernel_rfl)) (by decide) (fun K hK => ?_)
          refine goes_ Tryd.func21 (by kernel_rfl) rfl #[.int .i64 9, .slice Ao109 y446.length co109] (by rfl) rfl rfl (by (try simp only [List.map_toArray, List.map_cons, List.map_nil]); first | done | rfl | (simp only [List.length_drop, List.length_take]; rfl)) ?_
          with_reducible refine (foretellkeep_joined.calls kj64 9 _ _ y446 t449 _ ?side1 ?side2 A98.out).mono ?_
          (case side1 => repeat (first | exact (Kd.N_reads' HO448.out).2.2 | (with_reducible refine Kd.C_alloc ?_ _) | (with_reducible refine Kd.C_drewN ?_ _) | (with_reducible refine Kd.C_drew ?_)))
          (case side2 => exact (Kd.N_reads' HO448.out).2.1)
          rintro e w110 ⟨v450, rfl, ho0, hb⟩
          refine ⟨_, rfl, ?_⟩
          have n0_ := Aside0.mk (Kd.V_below (by (with_reducible repeat (first | apply Kd.V_alloc | apply Kd.V_drewN | apply Kd.V_drew)); exact HO_8.out) hb)
          have n1_ := Aside0.mk (Kd.N_below (by (with_reducible repeat (first | apply Kd.N_alloc | apply Kd.N_drewN | apply Kd.N_drew)); exact HO_372000.out) hb)
          have n2_ := Aside0.mk (Kd.N_below (by (with_reducible repeat (first | apply Kd.N_alloc | apply Kd.N_drewN | apply Kd.N_drew)); exact HO_372001.out) hb)
          have n3_ := Aside0.mk (Kd.N_below (by (with_reducible repeat (first | apply Kd.N_alloc | apply Kd.N_drewN | apply Kd.N_drew)); exact HO442.out) hb)
          have n4_ := Aside0.mk (Kd.V_below (by (with_reducible repeat (first | apply Kd.V_alloc | apply Kd.V_drewN | apply Kd.V_drew)); exact HO445.out) hb)
          have n5_ := Aside0.mk (Kd.N_below (by (with_reducible repeat (first | apply Kd.N_alloc | apply Kd.N_drewN | apply Kd.N_drew)); exact HO448.out) hb)
          have n6_ := Aside0.mk (Kd.V_lower (Kd.V_mono (ok' := fun k_ => k_ ≠ gb364 ∧ k_ ≠ gb371) (Kd.R_V (Kd.R_bound ho0)) (fun k_ hk_ => ⟨(Kd.freshB (g := gb364) (o := .cells #[.slice A2_0 l2_0.length c2_0, .slice A2_1 l2_1.length c2_1] 40 (0, 0)) (by (with_reducible repeat (first | refine blk_drewN ?_ _ | refine blk_drew ?_ | refine blk_alloc ?_ _)); exact BK364.out) k_ hk_.2.1), (Kd.freshB (g := gb371) (o := .cells #[.slice Ao12 t365.length co12, .slice Ao15 t368.length co15] 43 (0, 0)) (by (with_reducible repeat (first | refine blk_drewN ?_ _ | refine blk_drew ?_ | refine blk_alloc ?_ _)); exact BK371.out) k_ hk_.2.1)⟩)) (below_size (by repeat (first | (with_reducible first | exact HB.out | apply below_alloc | apply pw_below_drewN | apply below_drew1 | refine below_set ?_ GE364.out | refine below_set ?_ GE371.out) | exact HB.out))))
          have n7_ := Aside0.mk (blk_below (g := gb364) (o := .cells #[.slice A2_0 l2_0.length c2_0, .slice A2_1 l2_1.length c2_1] 40 (0, 0)) (by (with_reducible repeat (first | refine blk_drewN ?_ _ | refine blk_drew ?_ | refine blk_alloc ?_ _)); exact BK364.out) hb)
          have n8_ := Aside0.mk (blk_below (g := gb371) (o := .cells #[.slice Ao12 t365.length co12, .slice Ao15 t368.length co15] 43 (0, 0)) (by (with_reducible repeat (first | refine blk_drewN ?_ _ | refine blk_drew ?_ | refine blk_alloc ?_ _)); exact BK371.out) hb)
          have n9_ := Aside0.mk (below_step (by repeat (first | (with_reducible first | exact HB.out | apply below_alloc | apply pw_below_drewN | apply below_drew1 | refine below_set ?_ GE364.out | refine below_set ?_ GE371.out) | exact HB.out)) hb)
          clear HO_8
          clear HO_372000
          clear HO_372001
          clear HO442
          clear HO445
          clear HO448
          clear BK364
          clear BK371
          clear HB
          have HO_8 := n0_
          have HO_372000 := n1_
          have HO_372001 := n2_
          have HO442 := n3_
          have HO445 := n4_
          have HO448 := n5_
          have HO451 := n6_
          have BK364 := n7_
          have BK371 := n8_
          have HB := n9_
          clear n0_ n1_ n2_ n3_ n4_ n5_ n6_ n7_ n8_ n9_
          (try clear hb)
          (try clear hb2)
          (try clear hk)
          (try clear hi)
          (try clear ho0)
          obtain ⟨Ao111, co111, eo111⟩ := Kd.V_slice HO451.out
          (first | subst eo111 | (injection eo111 with f1_ f2_ f3_; have f4_ := f1_.symm; have f5_ := f3_.symm; clear f1_ f2_ f3_; subst f4_; subst f5_))
          refine hK.out _ _ ⟨(blk_cell BK371.out 0).trans rfl, (blk_cell BK371.out 1).trans rfl⟩ (fun hHeld => ?_)
          clear hK K
          refine norm_ (a' := ?_) ?_ ?_
          rotate_left
          ·
           show Act.put _ (some 76) _ = _
           simp only [Act.put, List.setIfInBounds_toArray, List.set_cons_zero, List.set_cons_succ, i64_w, i32_w]
           rfl
          refine one_ (i := 7) (N := some 78) #[true, true, true, true, true, true, true, true, false, false, false, false, false] rfl rfl (one_of HT_.out (by kernel_rfl)) (by decide) (fun K hK => ?_)
          refine goes_ Tryd.func25 (by kernel_rfl) rfl #[.slice Ao111 t449.length co111, .agg #[.slice Ao12 t365.length co12, .slice Ao15 t368.length co15]] (by rfl) rfl rfl (by (try simp only [List.map_toArray, List.map_cons, List.map_nil]); first | done | rfl | (simp only [List.length_drop, List.length_take]; rfl)) ?_
          with_reducible refine (foretellkeep_holds.calls kj64 _ _ t449 _ _ t365 _ _ t368 t452 t453 _ ?side1 ?side2 ?side3 ?side4 ?side5 ?side6 ?side7 A99.out).mono ?_
          (case side1 => repeat (first | exact (Kd.V_reads' HO451.out).2.2 | (with_reducible refine Kd.C_alloc ?_ _) | (with_reducible refine Kd.C_drewN ?_ _) | (with_reducible refine Kd.C_drew ?_)))
          (case side2 => exact (Kd.V_reads' HO451.out).2.1)
          (case side3 => repeat (first | exact (Kd.N_reads' HO_372000.out).2.2 | (with_reducible refine Kd.C_alloc ?_ _) | (with_reducible refine Kd.C_drewN ?_ _) | (with_reducible refine Kd.C_drew ?_)))
          (case side4 => exact (Kd.N_reads' HO_372000.out).2.1)
          (case side5 => repeat (first | exact (Kd.N_reads' HO_372001.out).2.2 | (with_reducible refine Kd.C_alloc ?_ _) | (with_reducible refine Kd.C_drewN ?_ _) | (with_reducible refine Kd.C_drew ?_)))
          (case side6 => exact (Kd.N_reads' HO_372001.out).2.1)
          (case side7 => first | exact hG_ | exact Glob.drewN hG_ _ | exact Glob.below hG_ (by repeat (first | (with_reducible first | exact HB.out | apply below_alloc | apply pw_below_drewN | apply below_drew1 | refine below_set ?_ GE364.out | refine below_set ?_ GE371.out) | exact HB.out)))
          rintro e w112 ⟨rfl, hb⟩
          refine ⟨_, rfl, ?_⟩
          have n0_ := Aside0.mk (Kd.V_below (by (with_reducible repeat (first | apply Kd.V_alloc | apply Kd.V_drewN | apply Kd.V_drew)); exact HO_8.out) hb)
          have n1_ := Aside0.mk (Kd.N_below (by (with_reducible repeat (first | apply Kd.N_alloc | apply Kd.N_drewN | apply Kd.N_drew)); exact HO_372000.out) hb)
          have n2_ := Aside0.mk (Kd.N_below (by (with_reducible repeat (first | apply Kd.N_alloc | apply Kd.N_drewN | apply Kd.N_drew)); exact HO_372001.out) hb)
          have n3_ := Aside0.mk (Kd.N_below (by (with_reducible repeat (first | apply Kd.N_alloc | apply Kd.N_drewN | apply Kd.N_drew)); exact HO442.out) hb)
          have n4_ := Aside0.mk (Kd.V_below (by (with_reducible repeat (first | apply Kd.V_alloc | apply Kd.V_drewN | apply Kd.V_drew)); exact HO445.out) hb)
          have n5_ := Aside0.mk (Kd.N_below (by (with_reducible repeat (first | apply Kd.N_alloc | apply Kd.N_drewN | apply Kd.N_drew)); exact HO448.out) hb)
          have n6_ := Aside0.mk (Kd.V_below (by (with_reducible repeat (first | apply Kd.V_alloc | apply Kd.V_drewN | apply Kd.V_drew)); exact HO451.out) hb)
          have n7_ := Aside0.mk (blk_below (g := gb364) (o := .cells #[.slice A2_0 l2_0.length c2_0, .slice A2_1 l2_1.length c2_1] 40 (0, 0)) (by (with_reducible repeat (first | refine blk_drewN ?_ _ | refine blk_drew ?_ | refine blk_alloc ?_ _)); exact BK364.out) hb)
          have n8_ := Aside0.mk (blk_below (g := gb371) (o := .cells #[.slice Ao12 t365.length co12, .slice Ao15 t368.length co15] 43 (0, 0)) (by (with_reducible repeat (first | refine blk_drewN ?_ _ | refine blk_drew ?_ | refine blk_alloc ?_ _)); exact BK371.out) hb)
          have n9_ := Aside0.mk (below_step (by repeat (first | (with_reducible first | exact HB.out | apply below_alloc | apply pw_below_drewN | apply below_drew1 | refine below_set ?_ GE364.out | refine below_set ?_ GE371.out) | exact HB.out)) hb)
          clear HO_8
          clear HO_372000
          clear HO_372001
          clear HO442
          clear HO445
          clear HO448
          clear HO451
          clear BK364
          clear BK371
          clear HB
          have HO_8 := n0_
          have HO_372000 := n1_
          have HO_372001 := n2_
          have HO442 := n3_
          have HO445 := n4_
          have HO448 := n5_
          have HO451 := n6_
          have BK364 := n7_
          have BK371 := n8_
          have HB := n9_
          clear n0_ n1_ n2_ n3_ n4_ n5_ n6_ n7_ n8_ n9_
          (try clear hb)
          (try clear hb2)
          (try clear hk)
          (try clear hi)
          refine hK.out _ _ ⟨(blk_cell BK371.out 0).trans rfl, (blk_cell BK371.out 1).trans rfl⟩ (fun hHeld => ?_)
          clear hK K
          refine norm_ (a' := ?_) ?_ ?_
          rotate_left
          ·
           show Act.put _ (some 78) _ = _
           simp only [Act.put, List.setIfInBounds_toArray, List.set_cons_zero, List.set_cons_succ, i64_w, i32_w]
           rfl
          refine pure_ (i := 8) (N := some 70) (v := ?_) (a' := ?_) #[true, true, true, true, true, true, true, true, true, false, false, false, false] rfl rfl (any_of HT_.out (by kernel_rfl)) (fun _ _ _ h => h) (Or.inl ⟨by rfl, ?_⟩) ?_ ?_
          rotate_left
          ·
           intro w'
           go_simp
           with_reducible rfl
          rotate_left
          ·
           simp only [Act.put, List.setIfInBounds_toArray, List.set_cons_zero, List.set_cons_succ, i64_w, i32_w]
           rfl
          refine pure_ (i := 9) (N := some 79) (v := ?_) (a' := ?_) #[true, true, true, true, true, true, true, true, true, true, false, false, false] rfl rfl (any_of HT_.out (by kernel_rfl)) (fun _ _ _ h => h) (Or.inl ⟨by rfl, ?_⟩) ?_ ?_
          rotate_left
          ·
           intro w'
           go_simp
           with_reducible rfl
          rotate_left
          ·
           simp only [Act.put, List.setIfInBounds_toArray, List.set_cons_zero, List.set_cons_succ, i64_w, i32_w]
           rfl
          refine pure_ (i := 10) (N := some 80) (v := ?_) (a' := ?_) #[true, true, true, true, true, true, true, true, true, true, true, false, false] rfl rfl (any_of HT_.out (by kernel_rfl)) (fun _ _ _ h => h) (Or.inl ⟨by rfl, ?_⟩) ?_ ?_
          rotate_left
          ·
           intro w'
           go_simp
           with_reducible rfl
          rotate_left
          ·
           simp only [Act.put, List.setIfInBounds_toArray, List.set_cons_zero, List.set_cons_succ, i64_w, i32_w]
           rfl
          refine pure_ (i := 11) (N := some 18) (v := ?_) (a' := ?_) #[true, true, true, true, true, true, true, true, true, true, true, true, false] rfl rfl (any_of HT_.out (by kernel_rfl)) (fun _ _ _ h => h) (Or.inl ⟨by rfl, ?_⟩) ?_ ?_
          rotate_left
          ·
           intro w'
           go_simp
           with_reducible rfl
          rotate_left
          ·
           simp only [Act.put, List.setIfInBounds_toArray, List.set_cons_zero, List.set_cons_succ, i64_w, i32_w]
           rfl
          refine pure_ (i := 12) (N := some 19) (v := ?_) (a' := ?_) #[true, true, true, true, true, true, true, true, true, true, true, true, true] rfl rfl (any_of HT_.out (by kernel_rfl)) (fun _ _ _ h => h) (Or.inl ⟨by rfl, ?_⟩) ?_ ?_
          rotate_left
          ·
           intro w'
           go_simp
           with_reducible rfl
          rotate_left
          ·
           simp only [Act.put, List.setIfInBounds_toArray, List.set_cons_zero, List.set_cons_succ, i64_w, i32_w]
           rfl
          refine done_ (done_of HT_.out (by kernel_rfl)) ?_
          try go_wp2
          go_meet
          case rel => exact ⟨_, (t452), (t453), (by first | rfl | (simp; done) | (simp [*]; done)), (by first | rfl | (simp; done) | (simp [*]; done)), H', ⟨by have := HJ6.out; have := HJ28.out; have := HJ52.out; have := HJ64.out; first | omega | exact Nat.le_refl _⟩, ⟨by (with_reducible repeat (first | apply Kd.N_alloc | apply Kd.N_drewN | apply Kd.N_drew)); exact Kd.N_mono HO_372000.out (fun _ hk => by first | exact ⟨hk.1.1.1, ⟨hk.1.1.2.1, hk.1.1.2.2⟩⟩ | exact hk.1 | exact hk)⟩, ⟨by (with_reducible repeat (first | apply Kd.N_alloc | apply Kd.N_drewN | apply Kd.N_drew)); exact Kd.N_mono HO_372001.out (fun _ hk => by first | exact ⟨hk.1.1.1, ⟨hk.1.1.2.1, hk.1.1.2.2⟩⟩ | exact hk.1 | exact hk)⟩, ⟨by (with_reducible repeat (first | refine blk_drewN ?_ _ | refine blk_drew ?_ | refine blk_alloc ?_ _)); exact BK364.out⟩, ⟨by (with_reducible repeat (first | refine blk_drewN ?_ _ | refine blk_drew ?_ | refine blk_alloc ?_ _)); exact BK371.out⟩, ⟨by repeat (first | (with_reducible first | exact HB.out | apply below_alloc | apply pw_below_drewN | apply below_drew1 | refine below_set ?_ GE364.out | refine below_set ?_ GE371.out) | exact HB.out)⟩⟩
         case rest =>
          clear HC96
          try clear c1
          try clear c2
          try clear p2
          try clear c21
          try clear c25
          try clear p2
          obtain ⟨kq, x18_95, x19_95, rfl, rfl, HA, HJ95, HO_372000, HO_372001, BK364, BK371, HB⟩ := hcut
          cases kq with
          | zero => exact absurd HA.out (by simp [foretellkeep_WordDual.j4])
          | succ kj95 =>
           have H := HA.out
           clear HA
           simp only [foretellkeep_WordDual.j4] at H
           by_cases c113 : x11_6 = true
           ·
            subst c113
            have H1 : (if x13_28 = true then (if x15_52 = true then (if x17_64 = true then (if x19_95 = true then (if (x10_6 == x12_28) = true then (if (x14_52 == x16_64) = true then (some x18_95) else (some false)) else (some false)) else (some false)) else (some false)) else (some false)) else (some false)) = some r := by rw [if_pos rfl] at H; exact H
            clear H
            have H := H1
            clear H1
            by_cases c114 : x13_28 = true
            ·
             subst c114
             have H1 : (if x15_52 = true then (if x17_64 = true then (if x19_95 = true then (if (x10_6 == x12_28) = true then (if (x14_52 == x16_64) = true then (some x18_95) else (some false)) else (some false)) else (some false)) else (some false)) else (some false)) = some r := by rw [if_pos rfl] at H; exact H
             clear H
             have H := H1
             clear H1
             by_cases c115 : x15_52 = true
             ·
              subst c115
              have H1 : (if x17_64 = true then (if x19_95 = true then (if (x10_6 == x12_28) = true then (if (x14_52 == x16_64) = true then (some x18_95) else (some false)) else (some false)) else (some false)) else (some false)) = some r := by rw [if_pos rfl] at H; exact H
              clear H
              have H := H1
              clear H1
              by_cases c116 : x17_64 = true
              ·
               subst c116
               have H1 : (if x19_95 = true then (if (x10_6 == x12_28) = true then (if (x14_52 == x16_64) = true then (some x18_95) else (some false)) else (some false)) else (some false)) = some r := by rw [if_pos rfl] at H; exact H
               clear H
               have H := H1
               clear H1
               by_cases c117 : x19_95 = true
               ·
                subst c117
                have H1 : (if (x10_6 == x12_28) = true then (if (x14_52 == x16_64) = true then (some x18_95) else (some false)) else (some false)) = some r := by rw [if_pos rfl] at H; exact H
                clear H
                have H := H1
                clear H1
                by_cases c118 : (x10_6 == x12_28) = true
                ·
                 rw [if_pos c118] at H
                 have c118b0 : (x10_6 == x12_28) = true := c118
                 (try (have c118b1 : decide (x10_6 = x12_28) = true := by simpa using c118))
                 (try (have c118b2 : (x10_6 == x12_28) = true := by simpa using c118))
                 clear c118
                 by_cases c119 : (x14_52 == x16_64) = true
                 ·
                  rw [if_pos c119] at H
                  have c119b0 : (x14_52 == x16_64) = true := c119
                  (try (have c119b1 : decide (x14_52 = x16_64) = true := by simpa using c119))
                  (try (have c119b2 : (x14_52 == x16_64) = true := by simpa using c119))
                  clear c119
                  obtain rfl := Option.some.inj H
                  go_wp2
                  go_ret
                  exact ⟨by first | rfl | (simp [errW_none, errW_some] <;> rfl) | (simp [*, errW_none, errW_some] <;> rfl), by repeat (first | (with_reducible first | exact HB.out | apply below_alloc | apply pw_below_drewN | apply below_drew1 | refine below_set ?_ GE364.out | refine below_set ?_ GE371.out) | exact HB.out)⟩
                 ·
                  rw [if_neg c119] at H
                  exact absurd ((Option.some.inj H).trans hr_.out) (by decide)
                ·
                 rw [if_neg c118] at H
                 exact absurd ((Option.some.inj H).trans hr_.out) (by decide)
               ·
                replace c117 := Bool.eq_false_iff.mpr c117
                subst c117
                have H1 : (some false) = some r := by rw [if_neg (show ¬ (false = true) by decide)] at H; exact H
                clear H
                have H := H1
                clear H1
                exact absurd ((Option.some.inj H).trans hr_.out) (by decide)
              ·
               replace c116 := Bool.eq_false_iff.mpr c116
               subst c116
               have H1 : (some false) = some r := by rw [if_neg (show ¬ (false = true) by decide)] at H; exact H
               clear H
               have H := H1
               clear H1
               exact absurd ((Option.some.inj H).trans hr_.out) (by decide)
             ·
              replace c115 := Bool.eq_false_iff.mpr c115
              subst c115
              have H1 : (some false) = some r := by rw [if_neg (show ¬ (false = true) by decide)] at H; exact H
              clear H
              have H := H1
              clear H1
              exact absurd ((Option.some.inj H).trans hr_.out) (by decide)
            ·
             replace c114 := Bool.eq_false_iff.mpr c114
             subst c114
             have H1 : (some false) = some r := by rw [if_neg (show ¬ (false = true) by decide)] at H; exact H
             clear H
             have H := H1
             clear H1
             exact absurd ((Option.some.inj H).trans hr_.out) (by decide)
           ·
            replace c113 := Bool.eq_false_iff.mpr c113
            subst c113
            have H1 : (some false) = some r := by rw [if_neg (show ¬ (false = true) by decide)] at H; exact H
            clear H
            have H := H1
            clear H1
            exact absurd ((Option.some.inj H).trans hr_.out) (by decide)

end Go.Proofs.YtcoaeefmmnohkaaDoor.P
