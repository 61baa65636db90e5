-- a walk, laid out by a program of this repo over the seat's translation
import Derived.Test.YtcoaeefmmnohkaaDoorF0
import Derived.Test.YtcoaeefmmnohkaaDoorFGrown
import Derived.Test.YtcoaeefmmnohkaaDoorFForm
import Derived.Test.YtcoaeefmmnohkaaDoorFLogic
import Derived.Test.YtcoaeefmmnohkaaDoorFSpell
import Derived.Test.YtcoaeefmmnohkaaDoorFLogicMeets
import Derived.Test.YtcoaeefmmnohkaaDoorFWordClaims
import Derived.Test.YtcoaeefmmnohkaaDoorFLogicFollows
namespace Go.Proofs.YtcoaeefmmnohkaaDoor.P
open Go.RowKit Go.Proofs.YtcoaeefmmnohkaaDoorW.PrintWords Go.Proofs.YtcoaeefmmnohkaaDoorW.PrintLast Go.Proofs.YtcoaeefmmnohkaaDoorW.PrintMore Go.Proofs.YtcoaeefmmnohkaaDoor.G
attribute [local go_sem] max2_int min2_int max_two min_two max_three min_three max_four min_four   -- for this text's walks alone
set_option linter.unusedVariables false
set_option linter.unusedSimpArgs false

/-! ### foretellkeep_ClaimStuck: function 14 -/
mutual
def foretellkeep_ClaimStuck.j0 : Nat → Int → List (S51) → List Int → List Int → Bool → List (List Bool) → List (List Bool) → Option (Bool)
  | 0, _, _, _, _, _, _, _ => none
  | k + 1, x2, x8, x9, x11, x54, x522000, x522001 => if x54 = true then (some false) else (if (x11.length : Int) = 0 then (if 0 < (x9.length : Int) then (some ((rd x9 0) == 0)) else (none)) else ((foretellkeep_picked.f x2 (x11.length : Int)).bind fun t534 => (if ([] : List (List Bool)).length + x522000.length < 5864062014805 then ((some (([] : List (List Bool)) ++ x522000 : List (List Bool))).bind fun y535 => (if y535.length + x522001.length < 5864062014805 then (foretellkeep_ClaimStuck.l0 k x8 x9 x11 t534 (y535 ++ x522001) 0 0 x522000 x522001) else (none))) else (none))))
def foretellkeep_ClaimStuck.l0 : Nat → List (S51) → List Int → List Int → Int → List (List Bool) → Int → Int → List (List Bool) → List (List Bool) → Option (Bool)
  | 0, _, _, _, _, _, _, _, _, _ => none
  | k + 1, x8, x9, x11, x13, x14, x15, x16, x522000, x522001 => if x16 < (x9.length : Int) then (if (wrap64 (x16 + 1)) = (x9.length : Int) then (foretellkeep_ClaimStuck.j2 k x8 x9 x11 x13 x14 x15 x16 (x522000.length : Int) x522000 x522001) else (foretellkeep_ClaimStuck.j2 k x8 x9 x11 x13 x14 x15 x16 (wrap64 (x16 + 1)) x522000 x522001)) else (some (x15 != (wrap64 ((shl .i64 1 (x11.length : Int)) - 1))))
def foretellkeep_ClaimStuck.j2 : Nat → List (S51) → List Int → List Int → Int → List (List Bool) → Int → Int → Int → List (List Bool) → List (List Bool) → Option (Bool)
  | 0, _, _, _, _, _, _, _, _, _, _ => none
  | k + 1, x8, x9, x11, x13, x14, x15, x16, x17, x522000, x522001 => if 0 ≤ x16 then (if x16 < (x14.length : Int) then (if x16 < (x9.length : Int) then (if 0 ≤ x13 then (if 0 ≤ x17 then (if x17 < (x14.length : Int) then (if x17 < (x9.length : Int) then ((logic_Follows.f k x8 (rd_L7 x14 x16) (Go.bits .xor .i64 (rd x9 x16) (shl .i64 1 x13)) (rd_L7 x14 x17) (Go.bits .xor .i64 (rd x9 x17) (shl .i64 1 x13))).bind fun bt545 => ((logic_Meets.f k x8 (rd_L7 x14 x16) (Go.bits .xor .i64 (rd x9 x16) (shl .i64 1 x13))).bind fun bt549 => (if bt545.2 = 0 then (foretellkeep_ClaimStuck.j3 k x8 x9 x11 x13 x14 x15 x16 bt545.1 bt549.1 (bt549.2 != 0) x522000 x522001) else (foretellkeep_ClaimStuck.j3 k x8 x9 x11 x13 x14 x15 x16 bt545.1 bt549.1 true x522000 x522001)))) else (none)) else (none)) else (none)) else (none)) else (none)) else (none)) else (none)
def foretellkeep_ClaimStuck.j3 : Nat → List (S51) → List Int → List Int → Int → List (List Bool) → Int → Int → Bool → Int → Bool → List (List Bool) → List (List Bool) → Option (Bool)
  | 0, _, _, _, _, _, _, _, _, _, _, _, _ => none
  | k + 1, x8, x9, x11, x13, x14, x15, x16, x18, x20, x135, x522000, x522001 => if x135 = true then (some false) else (if x18 = true then (if x16 ≥ (x522000.length : Int) then (foretellkeep_ClaimStuck.l0 k x8 x9 x11 x13 x14 (Go.bits .or .i64 x15 x20) (wrap64 (x16 + 1)) x522000 x522001) else (foretellkeep_ClaimStuck.l0 k x8 x9 x11 x13 x14 x15 (wrap64 (x16 + 1)) x522000 x522001)) else (some true))
end
def foretellkeep_ClaimStuck.f (k : Nat) (l0 : List (S79)) (l1_0 : List Int) (l1_1 : List Int) (a2 : Int) : Option (Bool) := (foretellkeep_Word.f k l1_0 l1_1).bind fun bt515 => ((foretellkeep_Formula.f k l0 3 3).bind fun t522 => ((word_Claims.f k t522 bt515.1 bt515.2 3).bind fun bt525 => ((logic_Ahead.f k t522 3).bind fun bt529 => (if bt525.2 = 0 then (if bt529.2 = 0 then (foretellkeep_ClaimStuck.j0 k a2 t522 bt525.1 bt529.1 ((bt525.1.length : Int) != (wrap64 ((bt515.1.length : Int) + (bt515.2.length : Int)))) bt515.1 bt515.2) else (foretellkeep_ClaimStuck.j0 k a2 t522 bt525.1 bt529.1 true bt515.1 bt515.2)) else (foretellkeep_ClaimStuck.j0 k a2 t522 bt525.1 bt529.1 true bt515.1 bt515.2)))))
theorem foretellkeep_ClaimStuck.mono_l : ∀ k, (∀ y0 y1 y2 y3 y4 y5 y6, LeO (foretellkeep_ClaimStuck.j0 k y0 y1 y2 y3 y4 y5 y6) (foretellkeep_ClaimStuck.j0 (k + 1) y0 y1 y2 y3 y4 y5 y6)) ∧ (∀ y0 y1 y2 y3 y4 y5 y6 y7 y8, LeO (foretellkeep_ClaimStuck.l0 k y0 y1 y2 y3 y4 y5 y6 y7 y8) (foretellkeep_ClaimStuck.l0 (k + 1) y0 y1 y2 y3 y4 y5 y6 y7 y8)) ∧ (∀ y0 y1 y2 y3 y4 y5 y6 y7 y8 y9, LeO (foretellkeep_ClaimStuck.j2 k y0 y1 y2 y3 y4 y5 y6 y7 y8 y9) (foretellkeep_ClaimStuck.j2 (k + 1) y0 y1 y2 y3 y4 y5 y6 y7 y8 y9)) ∧ (∀ y0 y1 y2 y3 y4 y5 y6 y7 y8 y9 y10 y11, LeO (foretellkeep_ClaimStuck.j3 k y0 y1 y2 y3 y4 y5 y6 y7 y8 y9 y10 y11) (foretellkeep_ClaimStuck.j3 (k + 1) y0 y1 y2 y3 y4 y5 y6 y7 y8 y9 y10 y11))
  | 0 => ⟨fun _ _ _ _ _ _ _ r h => by simp [foretellkeep_ClaimStuck.j0] at h, fun _ _ _ _ _ _ _ _ _ r h => by simp [foretellkeep_ClaimStuck.l0] at h, fun _ _ _ _ _ _ _ _ _ _ r h => by simp [foretellkeep_ClaimStuck.j2] at h, fun _ _ _ _ _ _ _ _ _ _ _ _ r h => by simp [foretellkeep_ClaimStuck.j3] at h⟩
  | k + 1 => by
    obtain ⟨ih0, ih1, ih2, ih3⟩ := foretellkeep_ClaimStuck.mono_l k
    refine ⟨?_, ?_, ?_, ?_⟩
    · intro y0 y1 y2 y3 y4 y5 y6
      unfold foretellkeep_ClaimStuck.j0
      repeat' first
      | (with_reducible exact ih0 _ _ _ _ _ _ _)
      | (with_reducible exact ih1 _ _ _ _ _ _ _ _ _)
      | (with_reducible exact ih2 _ _ _ _ _ _ _ _ _ _)
      | (with_reducible exact ih3 _ _ _ _ _ _ _ _ _ _ _ _)
      | (with_reducible exact foretellkeep_Formula.mono _ _ _ _)
      | (with_reducible exact foretellkeep_Word.mono _ _ _)
      | (with_reducible exact logic_Ahead.mono _ _ _)
      | (with_reducible exact logic_Follows.mono _ _ _ _ _ _)
      | (with_reducible exact logic_Meets.mono _ _ _ _)
      | (with_reducible exact word_Claims.mono _ _ _ _ _)
      | (with_reducible exact LeO.refl _)
      | (with_reducible exact LeO.none _)
      | (with_reducible refine LeO.ite ?_ ?_)
      | (with_reducible refine LeO.bind ?_ (fun _ => ?_))
      | exact ih0 _ _ _ _ _ _ _
      | exact ih1 _ _ _ _ _ _ _ _ _
      | exact ih2 _ _ _ _ _ _ _ _ _ _
      | exact ih3 _ _ _ _ _ _ _ _ _ _ _ _
      | exact foretellkeep_Formula.mono _ _ _ _
      | exact foretellkeep_Word.mono _ _ _
      | exact logic_Ahead.mono _ _ _
      | exact logic_Follows.mono _ _ _ _ _ _
      | exact logic_Meets.mono _ _ _ _
      | exact word_Claims.mono _ _ _ _ _
      | exact LeO.none _
      | refine LeO.ite ?_ ?_
      | refine LeO.bind ?_ (fun _ => ?_)
    · intro y0 y1 y2 y3 y4 y5 y6 y7 y8
      unfold foretellkeep_ClaimStuck.l0
      repeat' first
      | (with_reducible exact ih0 _ _ _ _ _ _ _)
      | (with_reducible exact ih1 _ _ _ _ _ _ _ _ _)
      | (with_reducible exact ih2 _ _ _ _ _ _ _ _ _ _)
      | (with_reducible exact ih3 _ _ _ _ _ _ _ _ _ _ _ _)
      | (with_reducible exact foretellkeep_Formula.mono _ _ _ _)
      | (with_reducible exact foretellkeep_Word.mono _ _ _)
      | (with_reducible exact logic_Ahead.mono _ _ _)
      | (with_reducible exact logic_Follows.mono _ _ _ _ _ _)
      | (with_reducible exact logic_Meets.mono _ _ _ _)
      | (with_reducible exact word_Claims.mono _ _ _ _ _)
      | (with_reducible exact LeO.refl _)
      | (with_reducible exact LeO.none _)
      | (with_reducible refine LeO.ite ?_ ?_)
      | (with_reducible refine LeO.bind ?_ (fun _ => ?_))
      | exact ih0 _ _ _ _ _ _ _
      | exact ih1 _ _ _ _ _ _ _ _ _
      | exact ih2 _ _ _ _ _ _ _ _ _ _
      | exact ih3 _ _ _ _ _ _ _ _ _ _ _ _
      | exact foretellkeep_Formula.mono _ _ _ _
      | exact foretellkeep_Word.mono _ _ _
      | exact logic_Ahead.mono _ _ _
      | exact logic_Follows.mono _ _ _ _ _ _
      | exact logic_Meets.mono _ _ _ _
      | exact word_Claims.mono _ _ _ _ _
      | exact LeO.none _
      | refine LeO.ite ?_ ?_
      | refine LeO.bind ?_ (fun _ => ?_)
    · intro y0 y1 y2 y3 y4 y5 y6 y7 y8 y9
      unfold foretellkeep_ClaimStuck.j2
      repeat' first
      | (with_reducible exact ih0 _ _ _ _ _ _ _)
      | (with_reducible exact ih1 _ _ _ _ _ _ _ _ _)
      | (with_reducible exact ih2 _ _ _ _ _ _ _ _ _ _)
      | (with_reducible exact ih3 _ _ _ _ _ _ _ _ _ _ _ _)
      | (with_reducible exact foretellkeep_Formula.mono _ _ _ _)
      | (with_reducible exact foretellkeep_Word.mono _ _ _)
      | (with_reducible exact logic_Ahead.mono _ _ _)
      | (with_reducible exact logic_Follows.mono _ _ _ _ _ _)
      | (with_reducible exact logic_Meets.mono _ _ _ _)
      | (with_reducible exact word_Claims.mono _ _ _ _ _)
      | (with_reducible exact LeO.refl _)
      | (with_reducible exact LeO.none _)
      | (with_reducible refine LeO.ite ?_ ?_)
      | (with_reducible refine LeO.bind ?_ (fun _ => ?_))
      | exact ih0 _ _ _ _ _ _ _
      | exact ih1 _ _ _ _ _ _ _ _ _
      | exact ih2 _ _ _ _ _ _ _ _ _ _
      | exact ih3 _ _ _ _ _ _ _ _ _ _ _ _
      | exact foretellkeep_Formula.mono _ _ _ _
      | exact foretellkeep_Word.mono _ _ _
      | exact logic_Ahead.mono _ _ _
      | exact logic_Follows.mono _ _ _ _ _ _
      | exact logic_Meets.mono _ _ _ _
      | exact word_Claims.mono _ _ _ _ _
      | exact LeO.none _
      | refine LeO.ite ?_ ?_
      | refine LeO.bind ?_ (fun _ => ?_)
    · intro y0 y1 y2 y3 y4 y5 y6 y7 y8 y9 y10 y11
      unfold foretellkeep_ClaimStuck.j3
      repeat' first
      | (with_reducible exact ih0 _ _ _ _ _ _ _)
      | (with_reducible exact ih1 _ _ _ _ _ _ _ _ _)
      | (with_reducible exact ih2 _ _ _ _ _ _ _ _ _ _)
      | (with_reducible exact ih3 _ _ _ _ _ _ _ _ _ _ _ _)
      | (with_reducible exact foretellkeep_Formula.mono _ _ _ _)
      | (with_reducible exact foretellkeep_Word.mono _ _ _)
      | (with_reducible exact logic_Ahead.mono _ _ _)
      | (with_reducible exact logic_Follows.mono _ _ _ _ _ _)
      | (with_reducible exact logic_Meets.mono _ _ _ _)
      | (with_reducible exact word_Claims.mono _ _ _ _ _)
      | (with_reducible exact LeO.refl _)
      | (with_reducible exact LeO.none _)
      | (with_reducible refine LeO.ite ?_ ?_)
      | (with_reducible refine LeO.bind ?_ (fun _ => ?_))
      | exact ih0 _ _ _ _ _ _ _
      | exact ih1 _ _ _ _ _ _ _ _ _
      | exact ih2 _ _ _ _ _ _ _ _ _ _
      | exact ih3 _ _ _ _ _ _ _ _ _ _ _ _
      | exact foretellkeep_Formula.mono _ _ _ _
      | exact foretellkeep_Word.mono _ _ _
      | exact logic_Ahead.mono _ _ _
      | exact logic_Follows.mono _ _ _ _ _ _
      | exact logic_Meets.mono _ _ _ _
      | exact word_Claims.mono _ _ _ _ _
      | exact LeO.none _
      | refine LeO.ite ?_ ?_
      | refine LeO.bind ?_ (fun _ => ?_)
theorem foretellkeep_ClaimStuck.mono : ∀ a0 a1 a2 a3 k, LeO (foretellkeep_ClaimStuck.f k a0 a1 a2 a3) (foretellkeep_ClaimStuck.f (k + 1) a0 a1 a2 a3) := by
  intro a0 a1 a2 a3 k
  obtain ⟨ih0, ih1, ih2, ih3⟩ := foretellkeep_ClaimStuck.mono_l k
  unfold foretellkeep_ClaimStuck.f
  repeat' first
      | (with_reducible exact ih0 _ _ _ _ _ _ _)
      | (with_reducible exact ih1 _ _ _ _ _ _ _ _ _)
      | (with_reducible exact ih2 _ _ _ _ _ _ _ _ _ _)
      | (with_reducible exact ih3 _ _ _ _ _ _ _ _ _ _ _ _)
      | (with_reducible exact foretellkeep_Formula.mono _ _ _ _)
      | (with_reducible exact foretellkeep_Word.mono _ _ _)
      | (with_reducible exact logic_Ahead.mono _ _ _)
      | (with_reducible exact logic_Follows.mono _ _ _ _ _ _)
      | (with_reducible exact logic_Meets.mono _ _ _ _)
      | (with_reducible exact word_Claims.mono _ _ _ _ _)
      | (with_reducible exact LeO.refl _)
      | (with_reducible exact LeO.none _)
      | (with_reducible refine LeO.ite ?_ ?_)
      | (with_reducible refine LeO.bind ?_ (fun _ => ?_))
      | exact ih0 _ _ _ _ _ _ _
      | exact ih1 _ _ _ _ _ _ _ _ _
      | exact ih2 _ _ _ _ _ _ _ _ _ _
      | exact ih3 _ _ _ _ _ _ _ _ _ _ _ _
      | exact foretellkeep_Formula.mono _ _ _ _
      | exact foretellkeep_Word.mono _ _ _
      | exact logic_Ahead.mono _ _ _
      | exact logic_Follows.mono _ _ _ _ _ _
      | exact logic_Meets.mono _ _ _ _
      | exact word_Claims.mono _ _ _ _ _
      | exact LeO.none _
      | refine LeO.ite ?_ ?_
      | refine LeO.bind ?_ (fun _ => ?_)
def foretellkeep_ClaimStuck.T18 : Bool × List (List Nat × List Nat) := (true, [([], []), ([], []), ([], []), ([1, 2], [1, 2]), ([3], [3]), ([], []), ([], []), ([5, 6], [5, 6]), ([7], [7]), ([], []), ([9], [9]), ([8, 10], [8, 10]), ([], []), ([], []), ([12, 13], [12, 13]), ([14], [14]), ([], []), ([], []), ([16, 17], [16, 17]), ([18], [18]), ([], []), ([20], [20]), ([19, 21], [19, 21]), ([0, 4, 11, 15, 22], [0, 4, 11, 15, 22]), ([23], [23]), ([24], [24]), ([24], [24]), ([25, 23, 0, 1, 2, 3, 4, 5, 6, 7, 8, 9, 10, 11, 12, 13, 14, 15, 16, 17, 18, 19, 20, 21, 22, 23, 24, 25], [25]), ([26, 27, 0, 1, 2, 3, 4, 5, 6, 7, 8, 9, 10, 11, 12, 13, 14, 15, 16, 17, 18, 19, 20, 21, 22, 23, 24, 25, 26, 27], [26])])
def foretellkeep_ClaimStuck.B18 : List Nat := [0, 0, 0, 6, 14, 0, 0, 96, 224, 0, 512, 2016, 0, 0, 12288, 28672, 0, 0, 196608, 458752, 0, 1048576, 4128768, 8388607, 16777215, 33554431, 33554431, 67108863, 268435455]
theorem foretellkeep_ClaimStuck.tab18 : rtab .any (opsOf Tryd.f14 18) = foretellkeep_ClaimStuck.T18 := by kernel_rfl
theorem foretellkeep_ClaimStuck.bits18 : waitsOk foretellkeep_ClaimStuck.T18.2 foretellkeep_ClaimStuck.B18 = true := by kernel_rfl
def foretellkeep_ClaimStuck.T19 : Bool × List (List Nat × List Nat) := (true, [([], []), ([], []), ([], []), ([1, 2], [1, 2]), ([3], [3]), ([], []), ([], []), ([5, 6], [5, 6]), ([7], [7]), ([], []), ([9], [9]), ([8, 10], [8, 10]), ([0, 4, 11], [0, 4, 11]), ([12], [12]), ([13], [13]), ([13], [13]), ([14, 12, 0, 1, 2, 3, 4, 5, 6, 7, 8, 9, 10, 11, 12, 13, 14], [14]), ([15, 16, 0, 1, 2, 3, 4, 5, 6, 7, 8, 9, 10, 11, 12, 13, 14, 15, 16], [15])])
def foretellkeep_ClaimStuck.B19 : List Nat := [0, 0, 0, 6, 14, 0, 0, 96, 224, 0, 512, 2016, 4095, 8191, 16383, 16383, 32767, 131071]
theorem foretellkeep_ClaimStuck.tab19 : rtab .any (opsOf Tryd.f14 19) = foretellkeep_ClaimStuck.T19 := by kernel_rfl
theorem foretellkeep_ClaimStuck.bits19 : waitsOk foretellkeep_ClaimStuck.T19.2 foretellkeep_ClaimStuck.B19 = true := by kernel_rfl
set_option maxHeartbeats 8000000 in
set_option maxRecDepth 100000 in
theorem foretellkeep_ClaimStuck.calls (k : Nat) (A0 : Option Addr) (c0 : Nat) (l0 : List (S79)) (A1_0 : Option Addr) (c1_0 : Nat) (l1_0 : List Int) (A1_1 : Option Addr) (c1_1 : Nat) (l1_1 : List Int) (a2 : Int) (r : Bool) (w : World) (hr0 : Kd.C k79 w A0 l0.length l0) (hc0 : l0.length ≤ c0) (hr1_0 : Kd.C (Kd.int .i64) w A1_0 l1_0.length l1_0) (hc1_0 : l1_0.length ≤ c1_0) (hr1_1 : Kd.C (Kd.int .i64) w A1_1 l1_1.length l1_1) (hc1_1 : l1_1.length ≤ c1_1) (hG_ : Glob w) (hr_ : Aside0 (r = true)) (h : foretellkeep_ClaimStuck.f k l0 l1_0 l1_1 a2 = some r) :
    Calls Tryd.prog 14 #[.slice A0 l0.length c0, .agg #[.slice A1_0 l1_0.length c1_0, .slice A1_1 l1_1.length c1_1], .int .i64 a2] w fun e w' => e = .returned (.bool r) ∧ Below w.heap.size w w' := by
  have hu40 := Tryd.underlying40
  have hu43 := Tryd.underlying43
  have HR0 := Aside0.mk hr0
  have HC0 := Aside0.mk hc0
  clear hr0 hc0
  have HR1_0 := Aside0.mk hr1_0
  have HC1_0 := Aside0.mk hc1_0
  clear hr1_0 hc1_0
  have HR1_1 := Aside0.mk hr1_1
  have HC1_1 := Aside0.mk hc1_1
  clear hr1_1 hc1_1
  have HB := Aside0.mk (Below.refl w.heap.size w)
  have H : ((foretellkeep_Word.f k l1_0 l1_1).bind fun bt515 => ((foretellkeep_Formula.f k l0 3 3).bind fun t522 => ((word_Claims.f k t522 bt515.1 bt515.2 3).bind fun bt525 => ((logic_Ahead.f k t522 3).bind fun bt529 => (if bt525.2 = 0 then (if bt529.2 = 0 then (foretellkeep_ClaimStuck.j0 k a2 t522 bt525.1 bt529.1 ((bt525.1.length : Int) != (wrap64 ((bt515.1.length : Int) + (bt515.2.length : Int)))) bt515.1 bt515.2) else (foretellkeep_ClaimStuck.j0 k a2 t522 bt525.1 bt529.1 true bt515.1 bt515.2)) else (foretellkeep_ClaimStuck.j0 k a2 t522 bt525.1 bt529.1 true bt515.1 bt515.2)))))) = some r := h
  clear h
  replace H := Option.bind_eq_some_iff.mp H
  obtain ⟨⟨t515, t518⟩, A40, H⟩ := H
  replace H : ((foretellkeep_Formula.f k l0 3 3).bind fun t522 => ((word_Claims.f k t522 t515 t518 3).bind fun bt525 => ((logic_Ahead.f k t522 3).bind fun bt529 => (if bt525.2 = 0 then (if bt529.2 = 0 then (foretellkeep_ClaimStuck.j0 k a2 t522 bt525.1 bt529.1 ((bt525.1.length : Int) != (wrap64 ((t515.length : Int) + (t518.length : Int)))) t515 t518) else (foretellkeep_ClaimStuck.j0 k a2 t522 bt525.1 bt529.1 true t515 t518)) else (foretellkeep_ClaimStuck.j0 k a2 t522 bt525.1 bt529.1 true t515 t518))))) = some r := H
  have A4 := Aside0.mk A40
  clear A40
  replace H := Option.bind_eq_some_iff.mp H
  obtain ⟨t522, A50, H⟩ := H
  replace H : ((word_Claims.f k t522 t515 t518 3).bind fun bt525 => ((logic_Ahead.f k t522 3).bind fun bt529 => (if bt525.2 = 0 then (if bt529.2 = 0 then (foretellkeep_ClaimStuck.j0 k a2 t522 bt525.1 bt529.1 ((bt525.1.length : Int) != (wrap64 ((t515.length : Int) + (t518.length : Int)))) t515 t518) else (foretellkeep_ClaimStuck.j0 k a2 t522 bt525.1 bt529.1 true t515 t518)) else (foretellkeep_ClaimStuck.j0 k a2 t522 bt525.1 bt529.1 true t515 t518)))) = some r := H
  have A5 := Aside0.mk A50
  clear A50
  replace H := Option.bind_eq_some_iff.mp H
  obtain ⟨⟨t525, t528⟩, A60, H⟩ := H
  replace H : ((logic_Ahead.f k t522 3).bind fun bt529 => (if t528 = 0 then (if bt529.2 = 0 then (foretellkeep_ClaimStuck.j0 k a2 t522 t525 bt529.1 ((t525.length : Int) != (wrap64 ((t515.length : Int) + (t518.length : Int)))) t515 t518) else (foretellkeep_ClaimStuck.j0 k a2 t522 t525 bt529.1 true t515 t518)) else (foretellkeep_ClaimStuck.j0 k a2 t522 t525 bt529.1 true t515 t518))) = some r := H
  have A6 := Aside0.mk A60
  clear A60
  replace H := Option.bind_eq_some_iff.mp H
  obtain ⟨⟨t529, t530⟩, A70, H⟩ := H
  replace H : (if t528 = 0 then (if t530 = 0 then (foretellkeep_ClaimStuck.j0 k a2 t522 t525 t529 ((t525.length : Int) != (wrap64 ((t515.length : Int) + (t518.length : Int)))) t515 t518) else (foretellkeep_ClaimStuck.j0 k a2 t522 t525 t529 true t515 t518)) else (foretellkeep_ClaimStuck.j0 k a2 t522 t525 t529 true t515 t518)) = some r := H
  have A7 := Aside0.mk A70
  clear A70
  have HC8 := Aside0.mk H
  clear H
  go_enter Tryd.func14, Tryd.ntmps14
  go_upto_region 5 with (first | ((with_reducible refine gate_dst (N := 4) rfl ?_); (try (refine gate_guard (by rfl) ?_; dsimp only)); refine box_event ?hg (N := 4) ?hd (cs := #[.slice A1_0 l1_0.length c1_0, .slice A1_1 l1_1.length c1_1]) (t := 40) ?hr ?_; (case hd => rfl); (case hg => rfl); (case hr => first | (go_simp; done) | (go_simp; rfl)); intro gb514 hg w9 hbox hb; have n0_ := Aside0.mk (below_step (by repeat (first | (with_reducible first | exact HB.out | apply below_alloc | apply pw_below_drewN | apply below_drew1) | exact HB.out)) hb); have n1_ := Aside0.mk (hbox); have n2_ := Aside0.mk ((by rw [hg]; exact (below_size (by repeat (first | (with_reducible first | exact HB.out | apply below_alloc | apply pw_below_drewN | apply below_drew1) | exact HB.out))) : w.heap.size ≤ gb514)); have n3_ := Aside0.mk ((by rw [hg]; exact (below_size (by repeat (first | (with_reducible first | exact HB.out | apply below_alloc | apply pw_below_drewN | apply below_drew1) | exact HB.out))) : w.heap.size ≤ gb514)); clear HB; have HB := n0_; have BK514 := n1_; have GW514 := n2_; have GE514 := n3_; clear n0_ n1_ n2_ n3_; clear hb hbox hg; have hcz10_0 : w9.cell? ⟨gb514, 0, none⟩ = some (.slice A1_0 l1_0.length c1_0) := (blk_cell BK514.out 0).trans rfl; have hcz10_1 : w9.cell? ⟨gb514, 1, none⟩ = some (.slice A1_1 l1_1.length c1_1) := (blk_cell BK514.out 1).trans rfl; have hfz10_0 := blk_frozen BK514.out 0; have hfz10_1 := blk_frozen BK514.out 1) | ((with_reducible refine gate_callee (f := 23) rfl ?_); refine goesL_ (some 23) rfl rfl Tryd.func23 (by kernel_rfl) rfl #[.agg #[.slice A1_0 l1_0.length c1_0, .slice A1_1 l1_1.length c1_1]] rfl (by (try simp only [List.map_toArray, List.map_cons, List.map_nil]); first | done | rfl | (simp only [List.length_drop, List.length_take]; rfl)) ?_; (with_reducible refine (foretellkeep_Word.calls k _ _ l1_0 _ _ l1_1 t515 t518 _ ?side1 ?side2 ?side3 ?side4 A4.out).mono ?_); (case side1 => repeat (first | exact (Kd.C_below HR1_0.out HB.out) | (with_reducible refine Kd.C_alloc ?_ _) | (with_reducible refine Kd.C_drewN ?_ _) | (with_reducible refine Kd.C_drew ?_))); (case side2 => exact HC1_0.out); (case side3 => repeat (first | exact (Kd.C_below HR1_1.out HB.out) | (with_reducible refine Kd.C_alloc ?_ _) | (with_reducible refine Kd.C_drewN ?_ _) | (with_reducible refine Kd.C_drew ?_))); (case side4 => exact HC1_1.out); rintro e w11 ⟨v516, v519, rfl, ho0, ho1, hb⟩; refine ⟨_, rfl, ?_⟩; have n0_ := Aside0.mk (Kd.N_lower (Kd.N_mono (ok' := fun k_ => some k_ ≠ (v519 : Value).ownBlock ∧ k_ ≠ gb514) ho0 (fun k_ hk_ => ⟨hk_.2, (Kd.freshB (g := gb514) (o := .cells #[.slice A1_0 l1_0.length c1_0, .slice A1_1 l1_1.length c1_1] 40 (0, 0)) (by (with_reducible repeat (first | refine blk_drewN ?_ _ | refine blk_drew ?_ | refine blk_alloc ?_ _)); exact BK514.out) k_ hk_.1)⟩)) (below_size (by repeat (first | (with_reducible first | exact HB.out | apply below_alloc | apply pw_below_drewN | apply below_drew1 | refine below_set ?_ GE514.out) | exact HB.out)))); have n1_ := Aside0.mk (Kd.N_lower (Kd.N_mono (ok' := fun k_ => some k_ ≠ (v516 : Value).ownBlock ∧ k_ ≠ gb514) ho1 (fun k_ hk_ => ⟨hk_.2, (Kd.freshB (g := gb514) (o := .cells #[.slice A1_0 l1_0.length c1_0, .slice A1_1 l1_1.length c1_1] 40 (0, 0)) (by (with_reducible repeat (first | refine blk_drewN ?_ _ | refine blk_drew ?_ | refine blk_alloc ?_ _)); exact BK514.out) k_ hk_.1)⟩)) (below_size (by repeat (first | (with_reducible first | exact HB.out | apply below_alloc | apply pw_below_drewN | apply below_drew1 | refine below_set ?_ GE514.out) | exact HB.out)))); have n2_ := Aside0.mk (blk_below (g := gb514) (o := .cells #[.slice A1_0 l1_0.length c1_0, .slice A1_1 l1_1.length c1_1] 40 (0, 0)) (by (with_reducible repeat (first | refine blk_drewN ?_ _ | refine blk_drew ?_ | refine blk_alloc ?_ _)); exact BK514.out) hb); have n3_ := Aside0.mk (below_step (by repeat (first | (with_reducible first | exact HB.out | apply below_alloc | apply pw_below_drewN | apply below_drew1 | refine below_set ?_ GE514.out) | exact HB.out)) hb); clear BK514; clear HB; have HO517 := n0_; have HO520 := n1_; have BK514 := n2_; have HB := n3_; clear n0_ n1_ n2_ n3_; (try clear hb); (try clear hb2); (try clear hk); (try clear hi); (try clear ho0); (try clear ho1)) | ((with_reducible refine gate_dst (N := 7) rfl ?_); (try (refine gate_guard (by rfl) ?_; dsimp only)); refine box_event ?hg (N := 7) ?hd (cs := #[.slice none 0 0, .slice none 0 0]) (t := 43) ?hr ?_; (case hd => rfl); (case hg => rfl); (case hr => first | (go_simp; done) | (go_simp; rfl)); intro gb521 hg w12 hbox hb; have n0_ := Aside0.mk (Kd.N_below (Kd.N_elderB (by (with_reducible repeat (first | apply Kd.N_alloc | apply Kd.N_drewN | apply Kd.N_drew)); exact HO517.out) gb521 (Nat.le_of_eq hg.symm)) hb); have n1_ := Aside0.mk (Kd.N_below (Kd.N_elderB (by (with_reducible repeat (first | apply Kd.N_alloc | apply Kd.N_drewN | apply Kd.N_drew)); exact HO520.out) gb521 (Nat.le_of_eq hg.symm)) hb); have n2_ := Aside0.mk (blk_below (g := gb514) (o := .cells #[.slice A1_0 l1_0.length c1_0, .slice A1_1 l1_1.length c1_1] 40 (0, 0)) (by (with_reducible repeat (first | refine blk_drewN ?_ _ | refine blk_drew ?_ | refine blk_alloc ?_ _)); exact BK514.out) hb); have n3_ := Aside0.mk (below_step (by repeat (first | (with_reducible first | exact HB.out | apply below_alloc | apply pw_below_drewN | apply below_drew1 | refine below_set ?_ GE514.out) | exact HB.out)) hb); have n4_ := Aside0.mk (hbox); have n5_ := Aside0.mk ((by rw [hg]; exact (below_size (by repeat (first | (with_reducible first | exact HB.out | apply below_alloc | apply pw_below_drewN | apply below_drew1 | refine below_set ?_ GE514.out) | exact HB.out))) : w.heap.size ≤ gb521)); have n6_ := Aside0.mk ((by rw [hg]; exact (below_size (by repeat (first | (with_reducible first | exact HB.out | apply below_alloc | apply pw_below_drewN | apply below_drew1 | refine below_set ?_ GE514.out) | exact HB.out))) : w.heap.size ≤ gb521)); have n7_ := Aside0.mk ((by rw [hg]; exact Nat.ne_of_lt (blk_lt (g := gb514) (o := .cells #[.slice A1_0 l1_0.length c1_0, .slice A1_1 l1_1.length c1_1] 40 (0, 0)) (by (with_reducible repeat (first | refine blk_drewN ?_ _ | refine blk_drew ?_ | refine blk_alloc ?_ _)); exact BK514.out)) : gb514 ≠ gb521)); have n8_ := Aside0.mk ((by rw [hg]; exact Nat.ne_of_gt (blk_lt (g := gb514) (o := .cells #[.slice A1_0 l1_0.length c1_0, .slice A1_1 l1_1.length c1_1] 40 (0, 0)) (by (with_reducible repeat (first | refine blk_drewN ?_ _ | refine blk_drew ?_ | refine blk_alloc ?_ _)); exact BK514.out)) : gb521 ≠ gb514)); clear HO517; clear HO520; clear BK514; clear HB; have HO517 := n0_; have HO520 := n1_; have BK514 := n2_; have HB := n3_; have BK521 := n4_; have GW521 := n5_; have GE521 := n6_; have NB514_521 := n7_; have NB521_514 := n8_; clear n0_ n1_ n2_ n3_ n4_ n5_ n6_ n7_ n8_; clear hb hbox hg; obtain ⟨Ao13, co13, eo13⟩ := Kd.N_slice HO517.out; subst eo13; have hnb14 := NB521_514.out; have hnc14 := NB514_521.out; have hcz15_0 : w12.cell? ⟨gb521, 0, none⟩ = some (.slice none 0 0) := (blk_cell BK521.out 0).trans rfl; have hcz15_1 : w12.cell? ⟨gb521, 1, none⟩ = some (.slice none 0 0) := (blk_cell BK521.out 1).trans rfl; have hfz15_0 := blk_frozen BK521.out 0; have hfz15_1 := blk_frozen BK521.out 1; obtain ⟨Ao16, co16, eo16⟩ := Kd.N_slice HO520.out; subst eo16) | ((with_reducible refine gate_callee (f := 16) rfl ?_); refine goesL_ (some 25) rfl rfl Tryd.func16 (by kernel_rfl) rfl #[.slice A0 l0.length c0, .int .i64 3, .int .i64 3] rfl (by (try simp only [List.map_toArray, List.map_cons, List.map_nil]); first | done | rfl | (simp only [List.length_drop, List.length_take]; rfl)) ?_; (with_reducible refine (foretellkeep_Formula.calls k _ _ l0 3 3 t522 _ ?side1 ?side2 A5.out).mono ?_); (case side1 => exact Kd.C_below HR0.out (by repeat (first | (with_reducible first | exact HB.out | apply below_alloc | apply pw_below_drewN | apply below_drew1 | refine below_set ?_ GE514.out | refine below_set ?_ GE521.out) | exact HB.out))); (case side2 => exact HC0.out); rintro e w17 ⟨v523, rfl, ho0, hb⟩; refine ⟨_, rfl, ?_⟩; have n0_ := Aside0.mk (Kd.N_below (by (with_reducible repeat (first | apply Kd.N_alloc | apply Kd.N_drewN | apply Kd.N_drew)); exact (Kd.N_mono (Kd.N_far (p := ⟨gb521, 1, none⟩) (Kd.N_far (p := ⟨gb521, 0, none⟩) (Kd.N_mono HO517.out (fun k_ hk => (⟨hk, hk.2⟩ : _ ∧ k_ ≠ gb521))) (fun _ hk => hk.2) (.slice Ao13 t515.length co13)) (fun _ hk => hk.2) (.slice Ao16 t518.length co16)) (fun _ h_ => h_.1))) hb); have n1_ := Aside0.mk (Kd.N_below (by (with_reducible repeat (first | apply Kd.N_alloc | apply Kd.N_drewN | apply Kd.N_drew)); exact (Kd.N_mono (Kd.N_far (p := ⟨gb521, 1, none⟩) (Kd.N_far (p := ⟨gb521, 0, none⟩) (Kd.N_mono HO520.out (fun k_ hk => (⟨hk, hk.2⟩ : _ ∧ k_ ≠ gb521))) (fun _ hk => hk.2) (.slice Ao13 t515.length co13)) (fun _ hk => hk.2) (.slice Ao16 t518.length co16)) (fun _ h_ => h_.1))) hb); have n2_ := Aside0.mk (Kd.V_lower (Kd.V_mono (ok' := fun k_ => k_ ≠ gb514 ∧ k_ ≠ gb521) (Kd.R_V (Kd.R_bound ho0)) (fun k_ hk_ => ⟨(Kd.freshB (g := gb514) (o := .cells #[.slice A1_0 l1_0.length c1_0, .slice A1_1 l1_1.length c1_1] 40 (0, 0)) (by (with_reducible repeat (first | refine blk_drewN ?_ _ | refine blk_drew ?_ | refine blk_alloc ?_ _)); refine blk_far ?_ NB514_521.out _; (with_reducible repeat (first | refine blk_drewN ?_ _ | refine blk_drew ?_ | refine blk_alloc ?_ _)); refine blk_far ?_ NB514_521.out _; (with_reducible repeat (first | refine blk_drewN ?_ _ | refine blk_drew ?_ | refine blk_alloc ?_ _)); exact BK514.out) k_ hk_.2.1), (Kd.freshB (g := gb521) (o := .cells #[.slice Ao13 t515.length co13, .slice Ao16 t518.length co16] 43 (0, 0)) (by (with_reducible repeat (first | refine blk_drewN ?_ _ | refine blk_drew ?_ | refine blk_alloc ?_ _)); refine blk_put (cs := #[.slice Ao13 t515.length co13, .slice none 0 0]) ?_ 1 _ rfl; (with_reducible repeat (first | refine blk_drewN ?_ _ | refine blk_drew ?_ | refine blk_alloc ?_ _)); refine blk_put (cs := #[.slice none 0 0, .slice none 0 0]) ?_ 0 _ rfl; (with_reducible repeat (first | refine blk_drewN ?_ _ | refine blk_drew ?_ | refine blk_alloc ?_ _)); exact BK521.out) k_ hk_.2.1)⟩)) (below_size (by repeat (first | (with_reducible first | exact HB.out | apply below_alloc | apply pw_below_drewN | apply below_drew1 | refine below_set ?_ GE514.out | refine below_set ?_ GE521.out) | exact HB.out)))); have n3_ := Aside0.mk (blk_below (g := gb514) (o := .cells #[.slice A1_0 l1_0.length c1_0, .slice A1_1 l1_1.length c1_1] 40 (0, 0)) (by (with_reducible repeat (first | refine blk_drewN ?_ _ | refine blk_drew ?_ | refine blk_alloc ?_ _)); refine blk_far ?_ NB514_521.out _; (with_reducible repeat (first | refine blk_drewN ?_ _ | refine blk_drew ?_ | refine blk_alloc ?_ _)); refine blk_far ?_ NB514_521.out _; (with_reducible repeat (first | refine blk_drewN ?_ _ | refine blk_drew ?_ | refine blk_alloc ?_ _)); exact BK514.out) hb); have n4_ := Aside0.mk (blk_below (g := gb521) (o := .cells #[.slice Ao13 t515.length co13, .slice Ao16 t518.length co16] 43 (0, 0)) (by (with_reducible repeat (first | refine blk_drewN ?_ _ | refine blk_drew ?_ | refine blk_alloc ?_ _)); refine blk_put (cs := #[.slice Ao13 t515.length co13, .slice none 0 0]) ?_ 1 _ rfl; (with_reducible repeat (first | refine blk_drewN ?_ _ | refine blk_drew ?_ | refine blk_alloc ?_ _)); refine blk_put (cs := #[.slice none 0 0, .slice none 0 0]) ?_ 0 _ rfl; (with_reducible repeat (first | refine blk_drewN ?_ _ | refine blk_drew ?_ | refine blk_alloc ?_ _)); exact BK521.out) hb); have n5_ := Aside0.mk (below_step (by repeat (first | (with_reducible first | exact HB.out | apply below_alloc | apply pw_below_drewN | apply below_drew1 | refine below_set ?_ GE514.out | refine below_set ?_ GE521.out) | exact HB.out)) hb); clear HO517; clear HO520; clear BK514; clear BK521; clear HB; have HO517 := n0_; have HO520 := n1_; have HO524 := n2_; have BK514 := n3_; have BK521 := n4_; have HB := n5_; clear n0_ n1_ n2_ n3_ n4_ n5_; (try clear hb); (try clear hb2); (try clear hk); (try clear hi); (try clear ho0); have hcz18_0 : w17.cell? ⟨gb521, 0, none⟩ = some (.slice Ao13 t515.length co13) := (blk_cell BK521.out 0).trans rfl; have hcz18_1 : w17.cell? ⟨gb521, 1, none⟩ = some (.slice Ao16 t518.length co16) := (blk_cell BK521.out 1).trans rfl; have hfz18_0 := blk_frozen BK521.out 0; have hfz18_1 := blk_frozen BK521.out 1; obtain ⟨Ao19, co19, eo19⟩ := Kd.V_slice HO524.out; subst eo19) | ((with_reducible refine gate_callee (f := 27) rfl ?_); refine goesL_ (some 29) rfl rfl Tryd.func27 (by kernel_rfl) rfl #[.slice Ao19 t522.length co19, .agg #[.slice Ao13 t515.length co13, .slice Ao16 t518.length co16], .int .i64 3] rfl (by (try simp only [List.map_toArray, List.map_cons, List.map_nil]); first | done | rfl | (simp only [List.length_drop, List.length_take]; rfl)) ?_; (with_reducible refine (word_Claims.calls k _ _ t522 _ _ t515 _ _ t518 3 t525 t528 _ ?side1 ?side2 ?side3 ?side4 ?side5 ?side6 ?side7 A6.out).mono ?_); (case side1 => repeat (first | exact (Kd.V_reads' HO524.out).2.2 | (with_reducible refine Kd.C_alloc ?_ _) | (with_reducible refine Kd.C_drewN ?_ _) | (with_reducible refine Kd.C_drew ?_))); (case side2 => exact (Kd.V_reads' HO524.out).2.1); (case side3 => repeat (first | exact (Kd.N_reads' HO517.out).2.2 | (with_reducible refine Kd.C_alloc ?_ _) | (with_reducible refine Kd.C_drewN ?_ _) | (with_reducible refine Kd.C_drew ?_))); (case side4 => exact (Kd.N_reads' HO517.out).2.1); (case side5 => repeat (first | exact (Kd.N_reads' HO520.out).2.2 | (with_reducible refine Kd.C_alloc ?_ _) | (with_reducible refine Kd.C_drewN ?_ _) | (with_reducible refine Kd.C_drew ?_))); (case side6 => exact (Kd.N_reads' HO520.out).2.1); (case side7 => first | exact hG_ | exact Glob.drewN hG_ _ | exact Glob.below hG_ (by repeat (first | (with_reducible first | exact HB.out | apply below_alloc | apply pw_below_drewN | apply below_drew1 | refine below_set ?_ GE514.out | refine below_set ?_ GE521.out) | exact HB.out))); rintro e w20 ⟨v526, rfl, ho0, hb⟩; refine ⟨_, rfl, ?_⟩; have n0_ := Aside0.mk (Kd.N_below (by (with_reducible repeat (first | apply Kd.N_alloc | apply Kd.N_drewN | apply Kd.N_drew)); exact HO517.out) hb); have n1_ := Aside0.mk (Kd.N_below (by (with_reducible repeat (first | apply Kd.N_alloc | apply Kd.N_drewN | apply Kd.N_drew)); exact HO520.out) hb); have n2_ := Aside0.mk (Kd.V_below (by (with_reducible repeat (first | apply Kd.V_alloc | apply Kd.V_drewN | apply Kd.V_drew)); exact HO524.out) hb); have n3_ := Aside0.mk (Kd.V_lower (Kd.V_mono (ok' := fun k_ => k_ ≠ gb514 ∧ k_ ≠ gb521) (Kd.R_V (Kd.R_bound ho0)) (fun k_ hk_ => ⟨(Kd.freshB (g := gb514) (o := .cells #[.slice A1_0 l1_0.length c1_0, .slice A1_1 l1_1.length c1_1] 40 (0, 0)) (by (with_reducible repeat (first | refine blk_drewN ?_ _ | refine blk_drew ?_ | refine blk_alloc ?_ _)); exact BK514.out) k_ hk_.2.1), (Kd.freshB (g := gb521) (o := .cells #[.slice Ao13 t515.length co13, .slice Ao16 t518.length co16] 43 (0, 0)) (by (with_reducible repeat (first | refine blk_drewN ?_ _ | refine blk_drew ?_ | refine blk_alloc ?_ _)); exact BK521.out) k_ hk_.2.1)⟩)) (below_size (by repeat (first | (with_reducible first | exact HB.out | apply below_alloc | apply pw_below_drewN | apply below_drew1 | refine below_set ?_ GE514.out | refine below_set ?_ GE521.out) | exact HB.out)))); have n4_ := Aside0.mk (blk_below (g := gb514) (o := .cells #[.slice A1_0 l1_0.length c1_0, .slice A1_1 l1_1.length c1_1] 40 (0, 0)) (by (with_reducible repeat (first | refine blk_drewN ?_ _ | refine blk_drew ?_ | refine blk_alloc ?_ _)); exact BK514.out) hb); have n5_ := Aside0.mk (blk_below (g := gb521) (o := .cells #[.slice Ao13 t515.length co13, .slice Ao16 t518.length co16] 43 (0, 0)) (by (with_reducible repeat (first | refine blk_drewN ?_ _ | refine blk_drew ?_ | refine blk_alloc ?_ _)); exact BK521.out) hb); have n6_ := Aside0.mk (below_step (by repeat (first | (with_reducible first | exact HB.out | apply below_alloc | apply pw_below_drewN | apply below_drew1 | refine below_set ?_ GE514.out | refine below_set ?_ GE521.out) | exact HB.out)) hb); clear HO517; clear HO520; clear HO524; clear BK514; clear BK521; clear HB; have HO517 := n0_; have HO520 := n1_; have HO524 := n2_; have HO527 := n3_; have BK514 := n4_; have BK521 := n5_; have HB := n6_; clear n0_ n1_ n2_ n3_ n4_ n5_ n6_; (try clear hb); (try clear hb2); (try clear hk); (try clear hi); (try clear ho0)) | ((with_reducible refine gate_callee (f := 17) rfl ?_); refine goesL_ (some 34) rfl rfl Tryd.func17 (by kernel_rfl) rfl #[.slice Ao19 t522.length co19, .int .i64 3] rfl (by (try simp only [List.map_toArray, List.map_cons, List.map_nil]); first | done | rfl | (simp only [List.length_drop, List.length_take]; rfl)) ?_; (with_reducible refine (logic_Ahead.calls k _ _ t522 3 t529 t530 _ ?side1 ?side2 ?side3 A7.out).mono ?_); (case side1 => repeat (first | exact (Kd.V_reads' HO524.out).2.2 | (with_reducible refine Kd.C_alloc ?_ _) | (with_reducible refine Kd.C_drewN ?_ _) | (with_reducible refine Kd.C_drew ?_))); (case side2 => exact (Kd.V_reads' HO524.out).2.1); (case side3 => first | exact hG_ | exact Glob.drewN hG_ _ | exact Glob.below hG_ (by repeat (first | (with_reducible first | exact HB.out | apply below_alloc | apply pw_below_drewN | apply below_drew1 | refine below_set ?_ GE514.out | refine below_set ?_ GE521.out) | exact HB.out))); rintro e w21 ⟨v531, rfl, ho0, hb⟩; refine ⟨_, rfl, ?_⟩; have n0_ := Aside0.mk (Kd.N_below (by (with_reducible repeat (first | apply Kd.N_alloc | apply Kd.N_drewN | apply Kd.N_drew)); exact HO517.out) hb); have n1_ := Aside0.mk (Kd.N_below (by (with_reducible repeat (first | apply Kd.N_alloc | apply Kd.N_drewN | apply Kd.N_drew)); exact HO520.out) hb); have n2_ := Aside0.mk (Kd.V_below (by (with_reducible repeat (first | apply Kd.V_alloc | apply Kd.V_drewN | apply Kd.V_drew)); exact HO524.out) hb); have n3_ := Aside0.mk (Kd.V_below (by (with_reducible repeat (first | apply Kd.V_alloc | apply Kd.V_drewN | apply Kd.V_drew)); exact HO527.out) hb); have n4_ := Aside0.mk (Kd.V_lower (Kd.V_mono (ok' := fun k_ => k_ ≠ gb514 ∧ k_ ≠ gb521) (Kd.R_V (Kd.R_bound ho0)) (fun k_ hk_ => ⟨(Kd.freshB (g := gb514) (o := .cells #[.slice A1_0 l1_0.length c1_0, .slice A1_1 l1_1.length c1_1] 40 (0, 0)) (by (with_reducible repeat (first | refine blk_drewN ?_ _ | refine blk_drew ?_ | refine blk_alloc ?_ _)); exact BK514.out) k_ hk_.2.1), (Kd.freshB (g := gb521) (o := .cells #[.slice Ao13 t515.length co13, .slice Ao16 t518.length co16] 43 (0, 0)) (by (with_reducible repeat (first | refine blk_drewN ?_ _ | refine blk_drew ?_ | refine blk_alloc ?_ _)); exact BK521.out) k_ hk_.2.1)⟩)) (below_size (by repeat (first | (with_reducible first | exact HB.out | apply below_alloc | apply pw_below_drewN | apply below_drew1 | refine below_set ?_ GE514.out | refine below_set ?_ GE521.out) | exact HB.out)))); have n5_ := Aside0.mk (blk_below (g := gb514) (o := .cells #[.slice A1_0 l1_0.length c1_0, .slice A1_1 l1_1.length c1_1] 40 (0, 0)) (by (with_reducible repeat (first | refine blk_drewN ?_ _ | refine blk_drew ?_ | refine blk_alloc ?_ _)); exact BK514.out) hb); have n6_ := Aside0.mk (blk_below (g := gb521) (o := .cells #[.slice Ao13 t515.length co13, .slice Ao16 t518.length co16] 43 (0, 0)) (by (with_reducible repeat (first | refine blk_drewN ?_ _ | refine blk_drew ?_ | refine blk_alloc ?_ _)); exact BK521.out) hb); have n7_ := Aside0.mk (below_step (by repeat (first | (with_reducible first | exact HB.out | apply below_alloc | apply pw_below_drewN | apply below_drew1 | refine below_set ?_ GE514.out | refine below_set ?_ GE521.out) | exact HB.out)) hb); clear HO517; clear HO520; clear HO524; clear HO527; clear BK514; clear BK521; clear HB; have HO517 := n0_; have HO520 := n1_; have HO524 := n2_; have HO527 := n3_; have HO532 := n4_; have BK514 := n5_; have BK521 := n6_; have HB := n7_; clear n0_ n1_ n2_ n3_ n4_ n5_ n6_ n7_; (try clear hb); (try clear hb2); (try clear hk); (try clear hi); (try clear ho0)))
  (try simp only [Act.put, List.setIfInBounds_toArray, List.set_cons_zero, List.set_cons_succ])
  go_cut [54] (fun v54 wc => ∃ (kq : Nat) (x54_7 : Bool), v54 = .bool x54_7 ∧ Aside0 (foretellkeep_ClaimStuck.j0 kq a2 t522 t525 t529 x54_7 t515 t518 = some r) ∧ Aside0 (kq ≤ k) ∧ Aside0 (Kd.V k51 51 wc w.heap.size (fun k_ => k_ ≠ gb514 ∧ k_ ≠ gb521) (.slice Ao19 t522.length co19) t522) ∧ Aside0 (Kd.V (Kd.int .i64) 3 wc w.heap.size (fun k_ => k_ ≠ gb514 ∧ k_ ≠ gb521) v526 t525) ∧ Aside0 (Kd.V (Kd.int .i64) 3 wc w.heap.size (fun k_ => k_ ≠ gb514 ∧ k_ ≠ gb521) v531 t529) ∧ Aside0 (Kd.N (Kd.slice 4 Kd.bool) 30 wc w.heap.size (fun k_ => some k_ ≠ ((.slice Ao16 t518.length co16) : Value).ownBlock ∧ k_ ≠ gb514 ∧ k_ ≠ gb521) (.slice Ao13 t515.length co13) t515) ∧ Aside0 (Kd.N (Kd.slice 4 Kd.bool) 30 wc w.heap.size (fun k_ => some k_ ≠ ((.slice Ao13 t515.length co13) : Value).ownBlock ∧ k_ ≠ gb514 ∧ k_ ≠ gb521) (.slice Ao16 t518.length co16) t518) ∧ Aside0 (wc.heap[gb514]? = some (.cells #[(.slice A1_0 l1_0.length c1_0), (.slice A1_1 l1_1.length c1_1)] 40 (0, 0))) ∧ Aside0 (wc.heap[gb521]? = some (.cells #[(.slice Ao13 t515.length co13), (.slice Ao16 t518.length co16)] 43 (0, 0))) ∧ Aside0 (Below w.heap.size w wc))
  case first =>
    have H := HC8.out
    clear HC8
    by_cases c22 : t528 = 0
    · rw [if_pos c22] at H
      have c22b0 : (t528 == 0) = true := beq_iff_eq.mpr c22
      have c22b1 : (t528 != 0) = false := bne_eq_false_iff_eq.mpr c22
      clear c22
      (first | rw [c22b0] | (simp only [i64_w, i32_w]; rw [c22b0]) | skip)
      by_cases c23 : t530 = 0
      · rw [if_pos c23] at H
        have c23b0 : (t530 == 0) = true := beq_iff_eq.mpr c23
        have c23b1 : (t530 != 0) = false := bne_eq_false_iff_eq.mpr c23
        clear c23
        have H' := Aside0.mk H
        clear H
        obtain ⟨Ao24, co24, eo24⟩ := Kd.V_slice HO527.out
        subst eo24
        have hnb25 := NB521_514.out
        have hnc25 := NB514_521.out
        have hcz26_0 : w21.cell? ⟨gb521, 0, none⟩ = some (.slice Ao13 t515.length co13) := (blk_cell BK521.out 0).trans rfl
        have hcz26_1 : w21.cell? ⟨gb521, 1, none⟩ = some (.slice Ao16 t518.length co16) := (blk_cell BK521.out 1).trans rfl
        have hfz26_0 := blk_frozen BK521.out 0
        have hfz26_1 := blk_frozen BK521.out 1
        go_wp2
        go_meet
        case rel => exact ⟨_, (((t525.length : Int) != (wrap64 ((t515.length : Int) + (t518.length : Int))))), (by first | rfl | (simp; done) | (simp [*]; done)), H', ⟨by first | omega | exact Nat.le_refl _⟩, ⟨by (with_reducible repeat (first | apply Kd.V_alloc | apply Kd.V_drewN | apply Kd.V_drew)); exact HO524.out⟩, ⟨by (with_reducible repeat (first | apply Kd.V_alloc | apply Kd.V_drewN | apply Kd.V_drew)); exact HO527.out⟩, ⟨by (with_reducible repeat (first | apply Kd.V_alloc | apply Kd.V_drewN | apply Kd.V_drew)); exact HO532.out⟩, ⟨by (with_reducible repeat (first | apply Kd.N_alloc | apply Kd.N_drewN | apply Kd.N_drew)); exact Kd.N_mono HO517.out (fun _ hk => ⟨hk.1.1, ⟨hk.1.2, hk.2⟩⟩)⟩, ⟨by (with_reducible repeat (first | apply Kd.N_alloc | apply Kd.N_drewN | apply Kd.N_drew)); exact Kd.N_mono HO520.out (fun _ hk => ⟨hk.1.1, ⟨hk.1.2, hk.2⟩⟩)⟩, ⟨by (with_reducible repeat (first | refine blk_drewN ?_ _ | refine blk_drew ?_ | refine blk_alloc ?_ _)); exact BK514.out⟩, ⟨by (with_reducible repeat (first | refine blk_drewN ?_ _ | refine blk_drew ?_ | refine blk_alloc ?_ _)); exact BK521.out⟩, ⟨by repeat (first | (with_reducible first | exact HB.out | apply below_alloc | apply pw_below_drewN | apply below_drew1 | refine below_set ?_ GE514.out | refine below_set ?_ GE521.out) | exact HB.out)⟩⟩
      · rw [if_neg c23] at H
        have c23b0 : (t530 == 0) = false := beq_eq_false_iff_ne.mpr c23
        have c23b1 : (t530 != 0) = true := bne_iff_ne.mpr c23
        have H' := Aside0.mk H
        clear H
        go_wp2
        go_meet
        case rel => exact ⟨_, (true), (by first | rfl | (simp; done) | (simp [*]; done)), H', ⟨by first | omega | exact Nat.le_refl _⟩, ⟨by (with_reducible repeat (first | apply Kd.V_alloc | apply Kd.V_drewN | apply Kd.V_drew)); exact HO524.out⟩, ⟨by (with_reducible repeat (first | apply Kd.V_alloc | apply Kd.V_drewN | apply Kd.V_drew)); exact HO527.out⟩, ⟨by (with_reducible repeat (first | apply Kd.V_alloc | apply Kd.V_drewN | apply Kd.V_drew)); exact HO532.out⟩, ⟨by (with_reducible repeat (first | apply Kd.N_alloc | apply Kd.N_drewN | apply Kd.N_drew)); exact Kd.N_mono HO517.out (fun _ hk => ⟨hk.1.1, ⟨hk.1.2, hk.2⟩⟩)⟩, ⟨by (with_reducible repeat (first | apply Kd.N_alloc | apply Kd.N_drewN | apply Kd.N_drew)); exact Kd.N_mono HO520.out (fun _ hk => ⟨hk.1.1, ⟨hk.1.2, hk.2⟩⟩)⟩, ⟨by (with_reducible repeat (first | refine blk_drewN ?_ _ | refine blk_drew ?_ | refine blk_alloc ?_ _)); exact BK514.out⟩, ⟨by (with_reducible repeat (first | refine blk_drewN ?_ _ | refine blk_drew ?_ | refine blk_alloc ?_ _)); exact BK521.out⟩, ⟨by repeat (first | (with_reducible first | exact HB.out | apply below_alloc | apply pw_below_drewN | apply below_drew1 | refine below_set ?_ GE514.out | refine below_set ?_ GE521.out) | exact HB.out)⟩⟩
    · rw [if_neg c22] at H
      have c22b0 : (t528 == 0) = false := beq_eq_false_iff_ne.mpr c22
      have c22b1 : (t528 != 0) = true := bne_iff_ne.mpr c22
      (first | rw [c22b0] | (simp only [i64_w, i32_w]; rw [c22b0]) | skip)
      have H' := Aside0.mk H
      clear H
      go_wp2
      go_meet
      case rel => exact ⟨_, (true), (by first | rfl | (simp; done) | (simp [*]; done)), H', ⟨by first | omega | exact Nat.le_refl _⟩, ⟨by (with_reducible repeat (first | apply Kd.V_alloc | apply Kd.V_drewN | apply Kd.V_drew)); exact HO524.out⟩, ⟨by (with_reducible repeat (first | apply Kd.V_alloc | apply Kd.V_drewN | apply Kd.V_drew)); exact HO527.out⟩, ⟨by (with_reducible repeat (first | apply Kd.V_alloc | apply Kd.V_drewN | apply Kd.V_drew)); exact HO532.out⟩, ⟨by (with_reducible repeat (first | apply Kd.N_alloc | apply Kd.N_drewN | apply Kd.N_drew)); exact Kd.N_mono HO517.out (fun _ hk => ⟨hk.1.1, ⟨hk.1.2, hk.2⟩⟩)⟩, ⟨by (with_reducible repeat (first | apply Kd.N_alloc | apply Kd.N_drewN | apply Kd.N_drew)); exact Kd.N_mono HO520.out (fun _ hk => ⟨hk.1.1, ⟨hk.1.2, hk.2⟩⟩)⟩, ⟨by (with_reducible repeat (first | refine blk_drewN ?_ _ | refine blk_drew ?_ | refine blk_alloc ?_ _)); exact BK514.out⟩, ⟨by (with_reducible repeat (first | refine blk_drewN ?_ _ | refine blk_drew ?_ | refine blk_alloc ?_ _)); exact BK521.out⟩, ⟨by repeat (first | (with_reducible first | exact HB.out | apply below_alloc | apply pw_below_drewN | apply below_drew1 | refine below_set ?_ GE514.out | refine below_set ?_ GE521.out) | exact HB.out)⟩⟩
  case rest =>
    clear HC8
    try clear c1
    try clear c2
    try clear p2
    try clear p6
    try clear c14
    try clear c16
    try clear c17
    try clear c22
    try clear c22b0
    try clear c22b1
    try clear c23
    try clear c23b0
    try clear c23b1
    try clear c25
    try clear hcz10_0
    try clear hcz10_1
    try clear hcz15_0
    try clear hcz15_1
    try clear hcz18_0
    try clear hcz18_1
    try clear hcz26_0
    try clear hcz26_1
    try clear hfz10_0
    try clear hfz10_1
    try clear hfz15_0
    try clear hfz15_1
    try clear hfz18_0
    try clear hfz18_1
    try clear hfz26_0
    try clear hfz26_1
    obtain ⟨kq, x54_7, rfl, HA, HJ7, HO_8, HO_9, HO_11, HO_522000, HO_522001, BK514, BK521, HB⟩ := hcut
    cases kq with
    | zero => exact absurd HA.out (by simp [foretellkeep_ClaimStuck.j0])
    | succ kj7 =>
      have H := HA.out
      clear HA
      simp only [foretellkeep_ClaimStuck.j0] at H
      by_cases c27 : x54_7 = true
      · subst c27
        have H1 : (some false) = some r := by rw [if_pos rfl] at H; exact H
        clear H
        have H := H1
        clear H1
        exact absurd ((Option.some.inj H).trans hr_.out) (by decide)
      · replace c27 := Bool.eq_false_iff.mpr c27
        subst c27
        have H1 : (if (t529.length : Int) = 0 then (if 0 < (t525.length : Int) then (some ((rd t525 0) == 0)) else (none)) else ((foretellkeep_picked.f a2 (t529.length : Int)).bind fun t534 => (if ([] : List (List Bool)).length + t515.length < 5864062014805 then ((some (([] : List (List Bool)) ++ t515 : List (List Bool))).bind fun y535 => (if y535.length + t518.length < 5864062014805 then (foretellkeep_ClaimStuck.l0 kj7 t522 t525 t529 t534 (y535 ++ t518) 0 0 t515 t518) else (none))) else (none)))) = some r := by rw [if_neg (show ¬ (false = true) by decide)] at H; exact H
        clear H
        have H := H1
        clear H1
        by_cases c28 : (t529.length : Int) = 0
        · rw [if_pos c28] at H
          have c28b0 : ((t529.length : Int) == 0) = true := beq_iff_eq.mpr c28
          have c28b1 : ((t529.length : Int) != 0) = false := bne_eq_false_iff_eq.mpr c28
          clear c28
          by_cases c29 : 0 < (t525.length : Int)
          · rw [if_pos c29] at H
            have c29b0 : decide (0 < (t525.length : Int)) = true := decide_eq_true c29
            have c29b1 : decide (0 < t525.length) = true := decide_eq_true (by omega)
            clear c29
            obtain rfl := Option.some.inj H
            obtain ⟨Ao30, co30, eo30⟩ := Kd.V_slice HO_11.out
            subst eo30
            obtain ⟨Ao31, co31, eo31⟩ := Kd.V_slice HO_9.out
            subst eo31
            have p533 : 0 ≤ (0 : Int) := (by omega)
            have q533 : 0 < (t525.length : Int) := of_decide_eq_true (by first | (with_reducible assumption) | assumption)
            obtain ⟨ad533, e533, hx533_0⟩ := Kd.at_int (Kd.V_reads' HO_9.out).2.2 0 p533 q533
            cases e533
            have qi533 : (0 < t525.length) = True := eq_true (by omega)
            (try rw [show ((0 : Int)).toNat = 0 from rfl] at hx533_0)
            (try rw [Addr.add_zero'] at hx533_0)
            replace p533 := eq_true p533
            replace q533 := eq_true q533
            go_wp2
            go_ret
            exact ⟨by first | rfl | (simp [errW_none, errW_some] <;> rfl) | (simp [*, errW_none, errW_some] <;> rfl), by repeat (first | (with_reducible first | exact HB.out | apply below_alloc | apply pw_below_drewN | apply below_drew1 | refine below_set ?_ GE514.out | refine below_set ?_ GE521.out) | exact HB.out)⟩
          · rw [if_neg c29] at H
            exact absurd H (by simp)
        · rw [if_neg c28] at H
          have c28b0 : ((t529.length : Int) == 0) = false := beq_eq_false_iff_ne.mpr c28
          have c28b1 : ((t529.length : Int) != 0) = true := bne_iff_ne.mpr c28
          have c28b2 : ¬ (t529 = []) := fun h_ => c28 (by rw [h_]; rfl)
          replace H := Option.bind_eq_some_iff.mp H
          obtain ⟨t534, A320, H⟩ := H
          replace H : (if ([] : List (List Bool)).length + t515.length < 5864062014805 then ((some (([] : List (List Bool)) ++ t515 : List (List Bool))).bind fun y535 => (if y535.length + t518.length < 5864062014805 then (foretellkeep_ClaimStuck.l0 kj7 t522 t525 t529 t534 (y535 ++ t518) 0 0 t515 t518) else (none))) else (none)) = some r := H
          have A32 := Aside0.mk A320
          clear A320
          by_cases c33 : ([] : List (List Bool)).length + t515.length < 5864062014805
          · rw [if_pos c33] at H
            have LMc33 := Aside0.mk c33
            clear c33
            obtain ⟨y535, hy535⟩ : ∃ y_ : List (List Bool), y_ = (([] : List (List Bool)) ++ t515) := ⟨_, rfl⟩
            replace H : (if y535.length + t518.length < 5864062014805 then (foretellkeep_ClaimStuck.l0 kj7 t522 t525 t529 t534 (y535 ++ t518) 0 0 t515 t518) else (none)) = some r := by first | (rw [hy535]; with_reducible exact H) | (have H2_ := (Option.bind_some _ _).symm.trans H; rw [hy535]; with_reducible exact H2_) | (have H2_ := (Option.bind_some _ _).symm.trans H; with_reducible exact H2_) | with_reducible exact H | (rw [hy535]; exact H) | exact H
            have Ny535 := Aside0.mk hy535
            clear hy535
            by_cases c34 : y535.length + t518.length < 5864062014805
            · rw [if_pos c34] at H
              have LMc34 := Aside0.mk c34
              clear c34
              obtain ⟨y538, hy538⟩ : ∃ y_ : List (List Bool), y_ = (y535 ++ t518) := ⟨_, rfl⟩
              replace H : (foretellkeep_ClaimStuck.l0 kj7 t522 t525 t529 t534 y538 0 0 t515 t518) = some r := by first | (rw [hy538]; with_reducible exact H) | (have H2_ := (Option.bind_some _ _).symm.trans H; rw [hy538]; with_reducible exact H2_) | (have H2_ := (Option.bind_some _ _).symm.trans H; with_reducible exact H2_) | with_reducible exact H | (rw [hy538]; exact H) | exact H
              have Ny538 := Aside0.mk hy538
              clear hy538
              have H' := Aside0.mk H
              clear H
              obtain ⟨Ao35, co35, eo35⟩ := Kd.V_slice HO_11.out
              subst eo35
              try go_wp2_with (first | ((with_reducible refine gate_callee (f := 18) rfl ?_); refine goesL_ (some 65) rfl rfl Tryd.func18 (by kernel_rfl) rfl #[.int .i64 a2, .int .i64 (t529.length : Int)] rfl (by (try simp only [List.map_toArray, List.map_cons, List.map_nil]); first | done | rfl | (simp only [List.length_drop, List.length_take]; rfl)) ?_; (with_reducible refine (foretellkeep_picked.calls a2 (t529.length : Int) t534 _ A32.out).mono ?_); rintro e w' ⟨rfl, ⟨nd, rfl⟩⟩; refine ⟨_, rfl, ?_⟩; obtain ⟨Ao36, co36, eo36⟩ := Kd.V_slice HO_9.out; subst eo36))
              (try (rw [drewN_self wc]; generalize hq_ : World.drewN wc _ = wc; have n0_ : Aside0 (Kd.V (Kd.int .i64) 3 wc w.heap.size (fun k_ => k_ ≠ gb514 ∧ k_ ≠ gb521) (.slice Ao35 t529.length co35) t529) := ⟨by rw [← hq_]; exact (by (with_reducible repeat (first | apply Kd.V_alloc | apply Kd.V_drewN | apply Kd.V_drew)); exact HO_11.out)⟩; have n1_ : Aside0 (Kd.N (Kd.slice 4 Kd.bool) 30 wc w.heap.size (fun k_ => some k_ ≠ (.slice Ao16 t518.length co16 : Value).ownBlock ∧ k_ ≠ gb514 ∧ k_ ≠ gb521) (.slice Ao13 t515.length co13) t515) := ⟨by rw [← hq_]; exact (by (with_reducible repeat (first | apply Kd.N_alloc | apply Kd.N_drewN | apply Kd.N_drew)); exact HO_522000.out)⟩; have n2_ : Aside0 (Kd.N (Kd.slice 4 Kd.bool) 30 wc w.heap.size (fun k_ => some k_ ≠ (.slice Ao13 t515.length co13 : Value).ownBlock ∧ k_ ≠ gb514 ∧ k_ ≠ gb521) (.slice Ao16 t518.length co16) t518) := ⟨by rw [← hq_]; exact (by (with_reducible repeat (first | apply Kd.N_alloc | apply Kd.N_drewN | apply Kd.N_drew)); exact HO_522001.out)⟩; have n3_ : Aside0 (Kd.V k51 51 wc w.heap.size (fun k_ => k_ ≠ gb514 ∧ k_ ≠ gb521) (.slice Ao19 t522.length co19) t522) := ⟨by rw [← hq_]; exact (by (with_reducible repeat (first | apply Kd.V_alloc | apply Kd.V_drewN | apply Kd.V_drew)); exact HO_8.out)⟩; have n4_ : Aside0 (Kd.V (Kd.int .i64) 3 wc w.heap.size (fun k_ => k_ ≠ gb514 ∧ k_ ≠ gb521) (.slice Ao36 t525.length co36) t525) := ⟨by rw [← hq_]; exact (by (with_reducible repeat (first | apply Kd.V_alloc | apply Kd.V_drewN | apply Kd.V_drew)); exact HO_9.out)⟩; have n5_ : Aside0 (wc.heap[gb514]? = some (.cells #[.slice A1_0 l1_0.length c1_0, .slice A1_1 l1_1.length c1_1] 40 (0, 0))) := ⟨by rw [← hq_]; exact (by (with_reducible repeat (first | refine blk_drewN ?_ _ | refine blk_drew ?_ | refine blk_alloc ?_ _)); exact BK514.out)⟩; have n6_ : Aside0 (wc.heap[gb521]? = some (.cells #[.slice Ao13 t515.length co13, .slice Ao16 t518.length co16] 43 (0, 0))) := ⟨by rw [← hq_]; exact (by (with_reducible repeat (first | refine blk_drewN ?_ _ | refine blk_drew ?_ | refine blk_alloc ?_ _)); exact BK521.out)⟩; have n7_ : Aside0 (Below w.heap.size w wc) := ⟨by rw [← hq_]; exact (by repeat (first | (with_reducible first | exact HB.out | apply below_alloc | apply pw_below_drewN | apply below_drew1 | refine below_set ?_ GE514.out | refine below_set ?_ GE521.out) | exact HB.out))⟩; clear HO_11 HO_522000 HO_522001 HO_8 HO_9 BK514 BK521 HB hq_; have HO_11 := n0_; have HO_522000 := n1_; have HO_522001 := n2_; have HO_8 := n3_; have HO_9 := n4_; have BK514 := n5_; have BK521 := n6_; have HB := n7_; clear n0_ n1_ n2_ n3_ n4_ n5_ n6_ n7_))
              have n0_ := Aside0.mk (Kd.V_drew HO_8.out)
              have n1_ := Aside0.mk (Kd.V_drew HO_9.out)
              have n2_ := Aside0.mk (Kd.V_drew HO_11.out)
              have n3_ := Aside0.mk (Kd.N_drew HO_522000.out)
              have n4_ := Aside0.mk (Kd.N_drew HO_522001.out)
              have n5_ := Aside0.mk (blk_drew BK514.out)
              have n6_ := Aside0.mk (blk_drew BK521.out)
              have n7_ := Aside0.mk (below_drew1 HB.out)
              clear HO_8
              clear HO_9
              clear HO_11
              clear HO_522000
              clear HO_522001
              clear BK514
              clear BK521
              clear HB
              have HO_8 := n0_
              have HO_9 := n1_
              have HO_11 := n2_
              have HO_522000 := n3_
              have HO_522001 := n4_
              have BK514 := n5_
              have BK521 := n6_
              have HB := n7_
              clear n0_ n1_ n2_ n3_ n4_ n5_ n6_ n7_
              refine start_ (n := 7) (S := fun w' => w'.cell? ⟨gb521, 0, none⟩ = some (.slice Ao13 t515.length co13) ∧ w'.cell? ⟨gb521, 1, none⟩ = some (.slice Ao16 t518.length co16)) (ds := []) #[false, false, false, false, false, false, false] (by kernel_rfl) rfl rfl ⟨(blk_cell BK521.out 0).trans rfl, (blk_cell BK521.out 1).trans rfl⟩ (fun hHeld => ?_)
              generalize wc.drew = w37 at HO_8 HO_9 HO_11 HO_522000 HO_522001 BK514 BK521 HB hHeld ⊢
              refine pure_ (i := 0) (N := some 66) (v := ?_) (a' := ?_) #[true, false, false, false, false, false, false] rfl rfl (by kernel_rfl) (fun _ _ _ h => h) (Or.inl ⟨by rfl, ?_⟩) ?_ ?_
              rotate_left
              · intro w'
                go_simp
                with_reducible rfl
              rotate_left
              · simp only [Act.put, List.setIfInBounds_toArray, List.set_cons_zero, List.set_cons_succ, i64_w, i32_w]
                rfl
              refine pure_ (i := 3) (N := some 69) (v := ?_) (a' := ?_) #[true, false, false, true, false, false, false] rfl rfl (by kernel_rfl) (fun _ _ _ h => h) (Or.inl ⟨by rfl, ?_⟩) ?_ ?_
              rotate_left
              · intro w'
                go_simp
                with_reducible rfl
              rotate_left
              · simp only [Act.put, List.setIfInBounds_toArray, List.set_cons_zero, List.set_cons_succ, i64_w, i32_w]
                rfl
              refine take_ (i := 1) (N := some 67) (v := ?_) (a' := ?_) #[true, true, false, true, false, false, false] rfl rfl (by kernel_rfl) (fun _ _ _ h => h) (Or.inl ⟨by rfl, ?_⟩) hHeld ?_ ?_
              rotate_left
              · rintro w' ⟨s0, s1⟩
                go_simp
                with_reducible rfl
              rotate_left
              · simp only [Act.put, List.setIfInBounds_toArray, List.set_cons_zero, List.set_cons_succ, i64_w, i32_w]
                rfl
              refine take_ (i := 4) (N := some 70) (v := ?_) (a' := ?_) #[true, true, false, true, true, false, false] rfl rfl (by kernel_rfl) (fun _ _ _ h => h) (Or.inl ⟨by rfl, ?_⟩) hHeld ?_ ?_
              rotate_left
              · rintro w' ⟨s0, s1⟩
                go_simp
                with_reducible rfl
              rotate_left
              · simp only [Act.put, List.setIfInBounds_toArray, List.set_cons_zero, List.set_cons_succ, i64_w, i32_w]
                rfl
              refine one_ (i := 2) (N := some 68) #[true, true, true, true, true, false, false] rfl rfl (by kernel_rfl) (by decide) (fun K hK => ?_)
              refine Kd.N_append_rows_step (Kd.slice 4 Kd.bool) (w0 := w) w.heap.size (by rfl) (.const (.slice none 0 0)) (.tmp 67) 41 30 (.slice none 0 0) 24 rfl Tryd.underlying41 info30 rfl (by decide) (by omega) (.slice none 0 0) ([] : List (List Bool)) t515 _ _ _ (fun k_ => some k_ ≠ (.slice Ao16 t518.length co16 : Value).ownBlock ∧ k_ ≠ gb514 ∧ k_ ≠ gb521) (fun k_ => ((fun k_ => some k_ ≠ (.slice Ao16 t518.length co16 : Value).ownBlock ∧ k_ ≠ gb514 ∧ k_ ≠ gb521)) k_ ∧ some k_ ≠ (.slice none 0 0 : Value).ownBlock) rfl rfl ?aO ?aR (fun _ hk => hk) ?aF ?aB ?aS ?aL ?_
              (case aR => exact (by skip; exact Kd.N_F (Kd.N_mono (ok' := (fun k_ => ((fun k_ => some k_ ≠ (.slice Ao16 t518.length co16 : Value).ownBlock ∧ k_ ≠ gb514 ∧ k_ ≠ gb521)) k_ ∧ some k_ ≠ (.slice none 0 0 : Value).ownBlock)) (HO_522000.out) (fun k_ hk => ⟨⟨hk.1, ⟨hk.2.1, hk.2.2⟩⟩, (by simp [Value.ownBlock])⟩))))
              (case aB => exact (by repeat (first | (with_reducible first | exact HB.out | apply below_alloc | apply pw_below_drewN | apply below_drew1 | refine below_set ?_ GE514.out | refine below_set ?_ GE521.out) | exact HB.out)))
              (case aF => exact (fun k_ hk => ⟨Kd.fresh' (Kd.N_lt (by (with_reducible repeat (first | apply Kd.N_alloc | apply Kd.N_drewN | apply Kd.N_drew)); exact HO_522001.out)) k_ hk, Kd.freshB (g := gb514) (o := .cells #[.slice A1_0 l1_0.length c1_0, .slice A1_1 l1_1.length c1_1] 40 (0, 0)) (by (with_reducible repeat (first | refine blk_drewN ?_ _ | refine blk_drew ?_ | refine blk_alloc ?_ _)); exact BK514.out) k_ hk, Kd.freshB (g := gb521) (o := .cells #[.slice Ao13 t515.length co13, .slice Ao16 t518.length co16] 43 (0, 0)) (by (with_reducible repeat (first | refine blk_drewN ?_ _ | refine blk_drew ?_ | refine blk_alloc ?_ _)); exact BK521.out) k_ hk⟩))
              (case aO => exact ((Kd.N_nil _ _ _ _ (fun k_ => some k_ ≠ (.slice Ao16 t518.length co16 : Value).ownBlock ∧ k_ ≠ gb514 ∧ k_ ≠ gb521))))
              (case aS => exact (below_size (by repeat (first | (with_reducible first | exact HB.out | apply below_alloc | apply pw_below_drewN | apply below_drew1 | refine below_set ?_ GE514.out | refine below_set ?_ GE521.out) | exact HB.out))))
              (case aL => have := LMc33.out; omega)
              intro v536 w38 ho hb hg hat
              rw [← Ny535.out] at ho
              have n0_ := Aside0.mk (Kd.V_afterv (Kd.V_apart_nil (by (with_reducible repeat (first | apply Kd.V_alloc | apply Kd.V_drewN | apply Kd.V_drew)); exact HO_8.out)) hg hat)
              have n1_ := Aside0.mk (Kd.V_afterv (Kd.V_apart_nil (by (with_reducible repeat (first | apply Kd.V_alloc | apply Kd.V_drewN | apply Kd.V_drew)); exact HO_9.out)) hg hat)
              have n2_ := Aside0.mk (Kd.V_afterv (Kd.V_apart_nil (by (with_reducible repeat (first | apply Kd.V_alloc | apply Kd.V_drewN | apply Kd.V_drew)); exact HO_11.out)) hg hat)
              have n3_ := Aside0.mk (Kd.N_afterv (Kd.N_apart_nil (by (with_reducible repeat (first | apply Kd.N_alloc | apply Kd.N_drewN | apply Kd.N_drew)); exact HO_522000.out)) hg hat)
              have n4_ := Aside0.mk (Kd.N_afterv (Kd.N_apart_nil (by (with_reducible repeat (first | apply Kd.N_alloc | apply Kd.N_drewN | apply Kd.N_drew)); exact HO_522001.out)) hg hat)
              have n5_ := Aside0.mk (blk_grown (g := gb514) (o := .cells #[.slice A1_0 l1_0.length c1_0, .slice A1_1 l1_1.length c1_1] 40 (0, 0)) (by (with_reducible repeat (first | refine blk_drewN ?_ _ | refine blk_drew ?_ | refine blk_alloc ?_ _)); exact BK514.out) hg (by simp [Value.ownBlock]))
              have n6_ := Aside0.mk (blk_grown (g := gb521) (o := .cells #[.slice Ao13 t515.length co13, .slice Ao16 t518.length co16] 43 (0, 0)) (by (with_reducible repeat (first | refine blk_drewN ?_ _ | refine blk_drew ?_ | refine blk_alloc ?_ _)); exact BK521.out) hg (by simp [Value.ownBlock]))
              have n7_ := Aside0.mk (hb)
              have n8_ := Aside0.mk (ho)
              clear HO_8
              clear HO_9
              clear HO_11
              clear HO_522000
              clear HO_522001
              clear BK514
              clear BK521
              clear HB
              have HO_8 := n0_
              have HO_9 := n1_
              have HO_11 := n2_
              have HO_522000 := n3_
              have HO_522001 := n4_
              have BK514 := n5_
              have BK521 := n6_
              have HB := n7_
              have HO537 := n8_
              clear n0_ n1_ n2_ n3_ n4_ n5_ n6_ n7_ n8_
              clear ho hb hg hat
              refine hK.out _ _ ⟨(blk_cell BK521.out 0).trans rfl, (blk_cell BK521.out 1).trans rfl⟩ (fun hHeld => ?_)
              clear hK K
              refine norm_ (a' := ?_) ?_ ?_
              rotate_left
              · show Act.put _ (some 68) _ = _
                simp only [Act.put, List.setIfInBounds_toArray, List.set_cons_zero, List.set_cons_succ, i64_w, i32_w]
                rfl
              refine one_ (i := 5) (N := some 71) #[true, true, true, true, true, true, false] rfl rfl (by kernel_rfl) (by decide) (fun K hK => ?_)
              refine Kd.N_append_rows_step (Kd.slice 4 Kd.bool) (w0 := w) w.heap.size (by rfl) (.tmp 68) (.tmp 70) 41 30 (.slice none 0 0) 24 rfl Tryd.underlying41 info30 rfl (by decide) (by omega) v536 y535 t518 _ _ _ (fun k_ => k_ ≠ gb514 ∧ k_ ≠ gb521) (fun k_ => ((fun k_ => k_ ≠ gb514 ∧ k_ ≠ gb521)) k_ ∧ some k_ ≠ (v536 : Value).ownBlock) rfl rfl ?aO ?aR (fun _ hk => hk) ?aF ?aB ?aS ?aL ?_
              (case aR => exact (by skip; exact Kd.N_F (Kd.N_mono (ok' := (fun k_ => ((fun k_ => k_ ≠ gb514 ∧ k_ ≠ gb521)) k_ ∧ some k_ ≠ (v536 : Value).ownBlock)) (HO_522001.out) (fun k_ hk => ⟨⟨hk.1.2.1, hk.1.2.2⟩, hk.2⟩))))
              (case aB => exact (by repeat (first | (with_reducible first | exact HB.out | apply below_alloc | apply pw_below_drewN | apply below_drew1 | refine below_set ?_ GE514.out | refine below_set ?_ GE521.out) | exact HB.out)))
              (case aF => exact (fun k_ hk => ⟨Kd.freshB (g := gb514) (o := .cells #[.slice A1_0 l1_0.length c1_0, .slice A1_1 l1_1.length c1_1] 40 (0, 0)) (by (with_reducible repeat (first | refine blk_drewN ?_ _ | refine blk_drew ?_ | refine blk_alloc ?_ _)); exact BK514.out) k_ hk, Kd.freshB (g := gb521) (o := .cells #[.slice Ao13 t515.length co13, .slice Ao16 t518.length co16] 43 (0, 0)) (by (with_reducible repeat (first | refine blk_drewN ?_ _ | refine blk_drew ?_ | refine blk_alloc ?_ _)); exact BK521.out) k_ hk⟩))
              (case aO => exact (by (with_reducible repeat (first | apply Kd.N_alloc | apply Kd.N_drewN | apply Kd.N_drew)); exact Kd.N_mono HO537.out (fun _ hk => ⟨hk.2.1, hk.2.2⟩)))
              (case aS => exact (below_size (by repeat (first | (with_reducible first | exact HB.out | apply below_alloc | apply pw_below_drewN | apply below_drew1 | refine below_set ?_ GE514.out | refine below_set ?_ GE521.out) | exact HB.out))))
              (case aL => have := LMc34.out; omega)
              intro v539 w39 ho hb hg hat
              rw [← Ny538.out] at ho
              have n0_ := Aside0.mk (Kd.V_afterv (ok := (fun k_ => k_ ≠ gb514 ∧ k_ ≠ gb521)) (by (with_reducible repeat (first | apply Kd.V_alloc | apply Kd.V_drewN | apply Kd.V_drew)); exact HO_8.out) hg hat)
              have n1_ := Aside0.mk (Kd.V_afterv (ok := (fun k_ => k_ ≠ gb514 ∧ k_ ≠ gb521)) (by (with_reducible repeat (first | apply Kd.V_alloc | apply Kd.V_drewN | apply Kd.V_drew)); exact HO_9.out) hg hat)
              have n2_ := Aside0.mk (Kd.V_afterv (ok := (fun k_ => k_ ≠ gb514 ∧ k_ ≠ gb521)) (by (with_reducible repeat (first | apply Kd.V_alloc | apply Kd.V_drewN | apply Kd.V_drew)); exact HO_11.out) hg hat)
              have n3_ := Aside0.mk (Kd.N_afterv (ok := (fun k_ => some k_ ≠ (.slice Ao16 t518.length co16 : Value).ownBlock ∧ k_ ≠ gb514 ∧ k_ ≠ gb521)) (by (with_reducible repeat (first | apply Kd.N_alloc | apply Kd.N_drewN | apply Kd.N_drew)); exact HO_522000.out) hg hat)
              have n4_ := Aside0.mk (Kd.N_afterv (ok := (fun k_ => some k_ ≠ (.slice Ao13 t515.length co13 : Value).ownBlock ∧ k_ ≠ gb514 ∧ k_ ≠ gb521)) (by (with_reducible repeat (first | apply Kd.N_alloc | apply Kd.N_drewN | apply Kd.N_drew)); exact HO_522001.out) hg hat)
              have n5_ := Aside0.mk (blk_grown (g := gb514) (o := .cells #[.slice A1_0 l1_0.length c1_0, .slice A1_1 l1_1.length c1_1] 40 (0, 0)) (by (with_reducible repeat (first | refine blk_drewN ?_ _ | refine blk_drew ?_ | refine blk_alloc ?_ _)); exact BK514.out) hg (Kd.N_ne HO537.out BK514.out (by decide)))
              have n6_ := Aside0.mk (blk_grown (g := gb521) (o := .cells #[.slice Ao13 t515.length co13, .slice Ao16 t518.length co16] 43 (0, 0)) (by (with_reducible repeat (first | refine blk_drewN ?_ _ | refine blk_drew ?_ | refine blk_alloc ?_ _)); exact BK521.out) hg (Kd.N_ne HO537.out BK521.out (by decide)))
              have n7_ := Aside0.mk (hb)
              have n8_ := Aside0.mk (ho)
              clear HO_8
              clear HO_9
              clear HO_11
              clear HO_522000
              clear HO_522001
              clear BK514
              clear BK521
              clear HB
              clear HO537
              have HO_8 := n0_
              have HO_9 := n1_
              have HO_11 := n2_
              have HO_522000 := n3_
              have HO_522001 := n4_
              have BK514 := n5_
              have BK521 := n6_
              have HB := n7_
              have HO540 := n8_
              clear n0_ n1_ n2_ n3_ n4_ n5_ n6_ n7_ n8_
              clear ho hb hg hat
              refine hK.out _ _ ⟨(blk_cell BK521.out 0).trans rfl, (blk_cell BK521.out 1).trans rfl⟩ (fun hHeld => ?_)
              clear hK K
              refine norm_ (a' := ?_) ?_ ?_
              rotate_left
              · show Act.put _ (some 71) _ = _
                simp only [Act.put, List.setIfInBounds_toArray, List.set_cons_zero, List.set_cons_succ, i64_w, i32_w]
                rfl
              refine pure_ (i := 6) (N := some 14) (v := ?_) (a' := ?_) #[true, true, true, true, true, true, true] rfl rfl (by kernel_rfl) (fun _ _ _ h => h) (Or.inl ⟨by rfl, ?_⟩) ?_ ?_
              rotate_left
              · intro w'
                go_simp
                with_reducible rfl
              rotate_left
              · simp only [Act.put, List.setIfInBounds_toArray, List.set_cons_zero, List.set_cons_succ, i64_w, i32_w]
                rfl
              refine done_ (by kernel_rfl) ?_
              try go_wp2
              go_loopg [15, 16] kj7 (fun kq v15 v16 w' => ∃ (x15_2 : Int) (x16_2 : Int), v15 = .int .i64 x15_2 ∧ v16 = .int .i64 x16_2 ∧ Aside0 (foretellkeep_ClaimStuck.l0 kq t522 t525 t529 t534 y538 x15_2 x16_2 t515 t518 = some r) ∧ Aside0 (kq ≤ kj7) ∧ Aside0 (Kd.V k51 51 w' w.heap.size (fun k_ => some k_ ≠ (v539 : Value).ownBlock ∧ k_ ≠ gb514 ∧ k_ ≠ gb521) (.slice Ao19 t522.length co19) t522) ∧ Aside0 (Kd.V (Kd.int .i64) 3 w' w.heap.size (fun k_ => some k_ ≠ (v539 : Value).ownBlock ∧ k_ ≠ gb514 ∧ k_ ≠ gb521) (.slice Ao36 t525.length co36) t525) ∧ Aside0 (Kd.V (Kd.int .i64) 3 w' w.heap.size (fun k_ => some k_ ≠ (v539 : Value).ownBlock ∧ k_ ≠ gb514 ∧ k_ ≠ gb521) (.slice Ao35 t529.length co35) t529) ∧ Aside0 (Kd.N (Kd.slice 4 Kd.bool) 30 w' w.heap.size (fun k_ => k_ ≠ gb514 ∧ k_ ≠ gb521) v539 y538) ∧ Aside0 (Kd.N (Kd.slice 4 Kd.bool) 30 w' w.heap.size (fun k_ => some k_ ≠ (v539 : Value).ownBlock ∧ some k_ ≠ ((.slice Ao16 t518.length co16) : Value).ownBlock ∧ k_ ≠ gb514 ∧ k_ ≠ gb521) (.slice Ao13 t515.length co13) t515) ∧ Aside0 (Kd.N (Kd.slice 4 Kd.bool) 30 w' w.heap.size (fun k_ => some k_ ≠ (v539 : Value).ownBlock ∧ some k_ ≠ ((.slice Ao13 t515.length co13) : Value).ownBlock ∧ k_ ≠ gb514 ∧ k_ ≠ gb521) (.slice Ao16 t518.length co16) t518) ∧ Aside0 (w'.heap[gb514]? = some (.cells #[(.slice A1_0 l1_0.length c1_0), (.slice A1_1 l1_1.length c1_1)] 40 (0, 0))) ∧ Aside0 (w'.heap[gb521]? = some (.cells #[(.slice Ao13 t515.length co13), (.slice Ao16 t518.length co16)] 43 (0, 0))) ∧ Aside0 (Below w.heap.size w w'))
              case atStart => exact ⟨(0), (0), (by first | rfl | (simp; done) | (simp [*]; done)), (by first | rfl | (simp; done) | (simp [*]; done)), H', ⟨Nat.le_refl _⟩, ⟨by (with_reducible repeat (first | apply Kd.V_alloc | apply Kd.V_drewN | apply Kd.V_drew)); exact Kd.V_mono HO_8.out (fun _ hk => ⟨hk.2, ⟨hk.1.1, hk.1.2⟩⟩)⟩, ⟨by (with_reducible repeat (first | apply Kd.V_alloc | apply Kd.V_drewN | apply Kd.V_drew)); exact Kd.V_mono HO_9.out (fun _ hk => ⟨hk.2, ⟨hk.1.1, hk.1.2⟩⟩)⟩, ⟨by (with_reducible repeat (first | apply Kd.V_alloc | apply Kd.V_drewN | apply Kd.V_drew)); exact Kd.V_mono HO_11.out (fun _ hk => ⟨hk.2, ⟨hk.1.1, hk.1.2⟩⟩)⟩, ⟨by (with_reducible repeat (first | apply Kd.N_alloc | apply Kd.N_drewN | apply Kd.N_drew)); exact HO540.out⟩, ⟨by (with_reducible repeat (first | apply Kd.N_alloc | apply Kd.N_drewN | apply Kd.N_drew)); exact Kd.N_mono HO_522000.out (fun _ hk => ⟨hk.2, ⟨hk.1.1, ⟨hk.1.2.1, hk.1.2.2⟩⟩⟩)⟩, ⟨by (with_reducible repeat (first | apply Kd.N_alloc | apply Kd.N_drewN | apply Kd.N_drew)); exact Kd.N_mono HO_522001.out (fun _ hk => ⟨hk.2, ⟨hk.1.1, ⟨hk.1.2.1, hk.1.2.2⟩⟩⟩)⟩, ⟨by (with_reducible repeat (first | refine blk_drewN ?_ _ | refine blk_drew ?_ | refine blk_alloc ?_ _)); exact BK514.out⟩, ⟨by (with_reducible repeat (first | refine blk_drewN ?_ _ | refine blk_drew ?_ | refine blk_alloc ?_ _)); exact BK521.out⟩, ⟨by repeat (first | (with_reducible first | exact HB.out | apply below_alloc | apply pw_below_drewN | apply below_drew1 | refine below_set ?_ GE514.out | refine below_set ?_ GE521.out) | exact HB.out)⟩⟩
              case round =>
                clear H'
                try clear c1
                try clear c2
                try clear p2
                try clear c3
                try clear p5
                try clear q5
                try clear hx5
                try clear qi5
                try clear p6
                try clear c14
                try clear c16
                try clear c17
                try clear c18
                try clear c22
                try clear c22b0
                try clear c22b1
                try clear c23
                try clear c23b0
                try clear c23b1
                try clear c25
                try clear c27
                try clear c28
                try clear c28b0
                try clear c28b1
                try clear c28b2
                try clear c29
                try clear c29b0
                try clear c29b1
                try clear c33
                try clear c34
                try clear hcz10_0
                try clear hcz10_1
                try clear hcz15_0
                try clear hcz15_1
                try clear hcz18_0
                try clear hcz18_1
                try clear hcz26_0
                try clear hcz26_1
                try clear hfz10_0
                try clear hfz10_1
                try clear hfz15_0
                try clear hfz15_1
                try clear hfz18_0
                try clear hfz18_1
                try clear hfz26_0
                try clear hfz26_1
                try clear hx533_0
                try clear p2
                try clear p533
                try clear p6
                try clear q533
                obtain ⟨x15_2, x16_2, rfl, rfl, HA, HK2, HO_8, HO_9, HO_11, HO_14, HO_522000, HO_522001, BK514, BK521, HB⟩ := hrel
                cases gk with
                | zero => exact absurd HA.out (by simp [foretellkeep_ClaimStuck.l0])
                | succ k2 =>
                  have H := HA.out
                  clear HA
                  simp only [foretellkeep_ClaimStuck.l0] at H
                  by_cases c40 : x16_2 < (t525.length : Int)
                  · rw [if_pos c40] at H
                    have c40b0 : decide (x16_2 < (t525.length : Int)) = true := decide_eq_true c40
                    clear c40
                    have HC41 := Aside0.mk H
                    clear H
                    go_upto_if 83 with (fail)
                    go_cut [17] (fun v17 wc => ∃ (kq : Nat) (x17_40 : Int), v17 = .int .i64 x17_40 ∧ Aside0 (foretellkeep_ClaimStuck.j2 kq t522 t525 t529 t534 y538 x15_2 x16_2 x17_40 t515 t518 = some r) ∧ Aside0 (kq ≤ k2) ∧ Aside0 (Kd.V k51 51 wc w.heap.size (fun k_ => some k_ ≠ (v539 : Value).ownBlock ∧ k_ ≠ gb514 ∧ k_ ≠ gb521) (.slice Ao19 t522.length co19) t522) ∧ Aside0 (Kd.V (Kd.int .i64) 3 wc w.heap.size (fun k_ => some k_ ≠ (v539 : Value).ownBlock ∧ k_ ≠ gb514 ∧ k_ ≠ gb521) (.slice Ao36 t525.length co36) t525) ∧ Aside0 (Kd.V (Kd.int .i64) 3 wc w.heap.size (fun k_ => some k_ ≠ (v539 : Value).ownBlock ∧ k_ ≠ gb514 ∧ k_ ≠ gb521) (.slice Ao35 t529.length co35) t529) ∧ Aside0 (Kd.N (Kd.slice 4 Kd.bool) 30 wc w.heap.size (fun k_ => k_ ≠ gb514 ∧ k_ ≠ gb521) v539 y538) ∧ Aside0 (Kd.N (Kd.slice 4 Kd.bool) 30 wc w.heap.size (fun k_ => some k_ ≠ (v539 : Value).ownBlock ∧ some k_ ≠ ((.slice Ao16 t518.length co16) : Value).ownBlock ∧ k_ ≠ gb514 ∧ k_ ≠ gb521) (.slice Ao13 t515.length co13) t515) ∧ Aside0 (Kd.N (Kd.slice 4 Kd.bool) 30 wc w.heap.size (fun k_ => some k_ ≠ (v539 : Value).ownBlock ∧ some k_ ≠ ((.slice Ao13 t515.length co13) : Value).ownBlock ∧ k_ ≠ gb514 ∧ k_ ≠ gb521) (.slice Ao16 t518.length co16) t518) ∧ Aside0 (wc.heap[gb514]? = some (.cells #[(.slice A1_0 l1_0.length c1_0), (.slice A1_1 l1_1.length c1_1)] 40 (0, 0))) ∧ Aside0 (wc.heap[gb521]? = some (.cells #[(.slice Ao13 t515.length co13), (.slice Ao16 t518.length co16)] 43 (0, 0))) ∧ Aside0 (Below w.heap.size w wc))
                    case first =>
                      have H := HC41.out
                      clear HC41
                      by_cases c42 : (wrap64 (x16_2 + 1)) = (t525.length : Int)
                      · rw [if_pos c42] at H
                        have c42b0 : ((wrap64 (x16_2 + 1)) == (t525.length : Int)) = true := beq_iff_eq.mpr c42
                        have c42b1 : ((wrap64 (x16_2 + 1)) != (t525.length : Int)) = false := bne_eq_false_iff_eq.mpr c42
                        clear c42
                        (first | rw [c42b0] | (simp only [i64_w, i32_w]; rw [c42b0]) | skip)
                        have H' := Aside0.mk H
                        clear H
                        have hnb43 := NB521_514.out
                        have hnc43 := NB514_521.out
                        have hcz44_0 : wr.cell? ⟨gb521, 0, none⟩ = some (.slice Ao13 t515.length co13) := (blk_cell BK521.out 0).trans rfl
                        have hcz44_1 : wr.cell? ⟨gb521, 1, none⟩ = some (.slice Ao16 t518.length co16) := (blk_cell BK521.out 1).trans rfl
                        have hfz44_0 := blk_frozen BK521.out 0
                        have hfz44_1 := blk_frozen BK521.out 1
                        go_wp2
                        go_meet
                        case rel => exact ⟨_, ((t515.length : Int)), (by first | rfl | (simp; done) | (simp [*]; done)), H', ⟨by have := HJ7.out; have := HK2.out; first | omega | exact Nat.le_refl _⟩, ⟨by (with_reducible repeat (first | apply Kd.V_alloc | apply Kd.V_drewN | apply Kd.V_drew)); exact HO_8.out⟩, ⟨by (with_reducible repeat (first | apply Kd.V_alloc | apply Kd.V_drewN | apply Kd.V_drew)); exact HO_9.out⟩, ⟨by (with_reducible repeat (first | apply Kd.V_alloc | apply Kd.V_drewN | apply Kd.V_drew)); exact HO_11.out⟩, ⟨by (with_reducible repeat (first | apply Kd.N_alloc | apply Kd.N_drewN | apply Kd.N_drew)); exact HO_14.out⟩, ⟨by (with_reducible repeat (first | apply Kd.N_alloc | apply Kd.N_drewN | apply Kd.N_drew)); exact HO_522000.out⟩, ⟨by (with_reducible repeat (first | apply Kd.N_alloc | apply Kd.N_drewN | apply Kd.N_drew)); exact HO_522001.out⟩, ⟨by (with_reducible repeat (first | refine blk_drewN ?_ _ | refine blk_drew ?_ | refine blk_alloc ?_ _)); exact BK514.out⟩, ⟨by (with_reducible repeat (first | refine blk_drewN ?_ _ | refine blk_drew ?_ | refine blk_alloc ?_ _)); exact BK521.out⟩, ⟨by repeat (first | (with_reducible first | exact HB.out | apply below_alloc | apply pw_below_drewN | apply below_drew1 | refine below_set ?_ GE514.out | refine below_set ?_ GE521.out) | exact HB.out)⟩⟩
                      · rw [if_neg c42] at H
                        have c42b0 : ((wrap64 (x16_2 + 1)) == (t525.length : Int)) = false := beq_eq_false_iff_ne.mpr c42
                        have c42b1 : ((wrap64 (x16_2 + 1)) != (t525.length : Int)) = true := bne_iff_ne.mpr c42
                        (first | rw [c42b0] | (simp only [i64_w, i32_w]; rw [c42b0]) | skip)
                        have H' := Aside0.mk H
                        clear H
                        go_wp2
                        go_meet
                        case rel => exact ⟨_, (wrap64 (x16_2 + 1)), (by first | rfl | (simp; done) | (simp [*]; done)), H', ⟨by have := HJ7.out; have := HK2.out; first | omega | exact Nat.le_refl _⟩, ⟨by (with_reducible repeat (first | apply Kd.V_alloc | apply Kd.V_drewN | apply Kd.V_drew)); exact HO_8.out⟩, ⟨by (with_reducible repeat (first | apply Kd.V_alloc | apply Kd.V_drewN | apply Kd.V_drew)); exact HO_9.out⟩, ⟨by (with_reducible repeat (first | apply Kd.V_alloc | apply Kd.V_drewN | apply Kd.V_drew)); exact HO_11.out⟩, ⟨by (with_reducible repeat (first | apply Kd.N_alloc | apply Kd.N_drewN | apply Kd.N_drew)); exact HO_14.out⟩, ⟨by (with_reducible repeat (first | apply Kd.N_alloc | apply Kd.N_drewN | apply Kd.N_drew)); exact HO_522000.out⟩, ⟨by (with_reducible repeat (first | apply Kd.N_alloc | apply Kd.N_drewN | apply Kd.N_drew)); exact HO_522001.out⟩, ⟨by (with_reducible repeat (first | refine blk_drewN ?_ _ | refine blk_drew ?_ | refine blk_alloc ?_ _)); exact BK514.out⟩, ⟨by (with_reducible repeat (first | refine blk_drewN ?_ _ | refine blk_drew ?_ | refine blk_alloc ?_ _)); exact BK521.out⟩, ⟨by repeat (first | (with_reducible first | exact HB.out | apply below_alloc | apply pw_below_drewN | apply below_drew1 | refine below_set ?_ GE514.out | refine below_set ?_ GE521.out) | exact HB.out)⟩⟩
                    case rest =>
                      clear HC41
                      try clear c1
                      try clear c2
                      try clear p2
                      try clear c3
                      try clear c4
                      try clear p5
                      try clear q5
                      try clear hx5
                      try clear qi5
                      try clear p6
                      try clear c14
                      try clear c16
                      try clear c17
                      try clear c18
                      try clear c22
                      try clear c22b0
                      try clear c22b1
                      try clear c23
                      try clear c23b0
                      try clear c23b1
                      try clear c25
                      try clear c27
                      try clear c28
                      try clear c28b0
                      try clear c28b1
                      try clear c28b2
                      try clear c29
                      try clear c29b0
                      try clear c29b1
                      try clear c33
                      try clear c34
                      try clear c40
                      try clear c40b0
                      try clear c42
                      try clear c42b0
                      try clear c42b1
                      try clear c43
                      try clear hcz10_0
                      try clear hcz10_1
                      try clear hcz15_0
                      try clear hcz15_1
                      try clear hcz18_0
                      try clear hcz18_1
                      try clear hcz26_0
                      try clear hcz26_1
                      try clear hcz44_0
                      try clear hcz44_1
                      try clear hfz10_0
                      try clear hfz10_1
                      try clear hfz15_0
                      try clear hfz15_1
                      try clear hfz18_0
                      try clear hfz18_1
                      try clear hfz26_0
                      try clear hfz26_1
                      try clear hfz44_0
                      try clear hfz44_1
                      try clear hx533_0
                      try clear p2
                      try clear p5
                      try clear p533
                      try clear p6
                      try clear q5
                      try clear q533
                      obtain ⟨kq, x17_40, rfl, HA, HJ40, HO_8, HO_9, HO_11, HO_14, HO_522000, HO_522001, BK514, BK521, HB⟩ := hcut
                      cases kq with
                      | zero => exact absurd HA.out (by simp [foretellkeep_ClaimStuck.j2])
                      | succ kj40 =>
                        have H := HA.out
                        clear HA
                        simp only [foretellkeep_ClaimStuck.j2] at H
                        by_cases c45 : 0 ≤ x16_2
                        · rw [if_pos c45] at H
                          have c45b0 : decide (0 ≤ x16_2) = true := decide_eq_true c45
                          clear c45
                          by_cases c46 : x16_2 < (y538.length : Int)
                          · rw [if_pos c46] at H
                            have c46b0 : decide (x16_2 < (y538.length : Int)) = true := decide_eq_true c46
                            clear c46
                            by_cases c47 : x16_2 < (t525.length : Int)
                            · rw [if_pos c47] at H
                              have c47b0 : decide (x16_2 < (t525.length : Int)) = true := decide_eq_true c47
                              clear c47
                              by_cases c48 : 0 ≤ t534
                              · rw [if_pos c48] at H
                                have c48b0 := eq_true c48
                                have c48b1 : decide (0 ≤ t534) = true := decide_eq_true c48
                                clear c48
                                obtain ⟨ji49, hji49⟩ : ∃ j_ : Int, (shl .i64 1 t534) = j_ := ⟨_, rfl⟩
                                replace H : (if 0 ≤ x17_40 then (if x17_40 < (y538.length : Int) then (if x17_40 < (t525.length : Int) then ((logic_Follows.f kj40 t522 (rd_L7 y538 x16_2) (Go.bits .xor .i64 (rd t525 x16_2) (ji49)) (rd_L7 y538 x17_40) (Go.bits .xor .i64 (rd t525 x17_40) (ji49))).bind fun bt545 => ((logic_Meets.f kj40 t522 (rd_L7 y538 x16_2) (Go.bits .xor .i64 (rd t525 x16_2) (ji49))).bind fun bt549 => (if bt545.2 = 0 then (foretellkeep_ClaimStuck.j3 kj40 t522 t525 t529 t534 y538 x15_2 x16_2 bt545.1 bt549.1 (bt549.2 != 0) t515 t518) else (foretellkeep_ClaimStuck.j3 kj40 t522 t525 t529 t534 y538 x15_2 x16_2 bt545.1 bt549.1 true t515 t518)))) else (none)) else (none)) else (none)) = some r := by first | (rw [hji49] at H; exact H) | (simp only [hji49] at H ⊢; exact H)
                                have hji49_ : (IntKind.i64.wrap (1 * 2 ^ min t534.toNat 64)) = ji49 := hji49
                                have hji49z : t534 ≤ 64 → (IntKind.i64.wrap (1 * 2 ^ t534.toNat)) = ji49 := shl_small hji49
                                have hji49u : (IntKind.i64.wrap (2 ^ min t534.toNat 64)) = ji49 := by have h_ := hji49_; rw [Int.one_mul] at h_; exact h_
                                have hji49v : t534 ≤ 64 → (IntKind.i64.wrap (2 ^ t534.toNat)) = ji49 := fun hle_ => by have h_ := hji49z hle_; rw [Int.one_mul] at h_; exact h_
                                have hji49y : (wrap64 (1 * 2 ^ min t534.toNat 64)) = ji49 := (i64_w _).symm.trans hji49_
                                have hji49x : t534 ≤ 64 → (wrap64 (1 * 2 ^ t534.toNat)) = ji49 := fun h_ => (i64_w _).symm.trans (hji49z h_)
                                by_cases c50 : 0 ≤ x17_40
                                · rw [if_pos c50] at H
                                  have c50b0 : decide (0 ≤ x17_40) = true := decide_eq_true c50
                                  clear c50
                                  by_cases c51 : x17_40 < (y538.length : Int)
                                  · rw [if_pos c51] at H
                                    have c51b0 : decide (x17_40 < (y538.length : Int)) = true := decide_eq_true c51
                                    clear c51
                                    by_cases c52 : x17_40 < (t525.length : Int)
                                    · rw [if_pos c52] at H
                                      have c52b0 : decide (x17_40 < (t525.length : Int)) = true := decide_eq_true c52
                                      clear c52
                                      have c53b0 := eq_true (of_decide_eq_true (by first | (with_reducible assumption) | assumption) : 0 ≤ t534)
                                      replace H := Option.bind_eq_some_iff.mp H
                                      obtain ⟨⟨t545, t546⟩, A550, H⟩ := H
                                      replace H : ((logic_Meets.f kj40 t522 (rd_L7 y538 x16_2) (Go.bits .xor .i64 (rd t525 x16_2) (ji49))).bind fun bt549 => (if t546 = 0 then (foretellkeep_ClaimStuck.j3 kj40 t522 t525 t529 t534 y538 x15_2 x16_2 t545 bt549.1 (bt549.2 != 0) t515 t518) else (foretellkeep_ClaimStuck.j3 kj40 t522 t525 t529 t534 y538 x15_2 x16_2 t545 bt549.1 true t515 t518))) = some r := H
                                      have A55 := Aside0.mk A550
                                      clear A550
                                      have c56b0 := eq_true (of_decide_eq_true (by first | (with_reducible assumption) | assumption) : 0 ≤ t534)
                                      replace H := Option.bind_eq_some_iff.mp H
                                      obtain ⟨⟨t549, t550⟩, A580, H⟩ := H
                                      replace H : (if t546 = 0 then (foretellkeep_ClaimStuck.j3 kj40 t522 t525 t529 t534 y538 x15_2 x16_2 t545 t549 (t550 != 0) t515 t518) else (foretellkeep_ClaimStuck.j3 kj40 t522 t525 t529 t534 y538 x15_2 x16_2 t545 t549 true t515 t518)) = some r := H
                                      have A58 := Aside0.mk A580
                                      clear A580
                                      have HC59 := Aside0.mk H
                                      clear H
                                      try go_wp2
                                      have n0_ := Aside0.mk (Kd.V_drew HO_8.out)
                                      have n1_ := Aside0.mk (Kd.V_drew HO_9.out)
                                      have n2_ := Aside0.mk (Kd.V_drew HO_11.out)
                                      have n3_ := Aside0.mk (Kd.N_drew HO_14.out)
                                      have n4_ := Aside0.mk (Kd.N_drew HO_522000.out)
                                      have n5_ := Aside0.mk (Kd.N_drew HO_522001.out)
                                      have n6_ := Aside0.mk (blk_drew BK514.out)
                                      have n7_ := Aside0.mk (blk_drew BK521.out)
                                      have n8_ := Aside0.mk (below_drew1 HB.out)
                                      clear HO_8
                                      clear HO_9
                                      clear HO_11
                                      clear HO_14
                                      clear HO_522000
                                      clear HO_522001
                                      clear BK514
                                      clear BK521
                                      clear HB
                                      have HO_8 := n0_
                                      have HO_9 := n1_
                                      have HO_11 := n2_
                                      have HO_14 := n3_
                                      have HO_522000 := n4_
                                      have HO_522001 := n5_
                                      have BK514 := n6_
                                      have BK521 := n7_
                                      have HB := n8_
                                      clear n0_ n1_ n2_ n3_ n4_ n5_ n6_ n7_ n8_
                                      obtain ⟨Ao61, co61, eo61⟩ := Kd.N_slice HO_14.out
                                      (first | subst eo61 | (injection eo61 with f1_ f2_ f3_; have f4_ := f1_.symm; have f5_ := f3_.symm; clear f1_ f2_ f3_; subst f4_; subst f5_))
                                      have p541 : 0 ≤ (x16_2 : Int) := of_decide_eq_true (by first | (with_reducible assumption) | assumption)
                                      have q541 : x16_2 < (y538.length : Int) := of_decide_eq_true (by first | (with_reducible assumption) | assumption)
                                      obtain ⟨ad541, A541_0, c541_0, e541, hx541_0, hl541_0, hi541_0⟩ := at_L7 (Kd.N_reads' HO_14.out).2.2 x16_2 p541 q541
                                      cases e541
                                      obtain ⟨ce541, hce541, hMe541, hcc541⟩ := Kd.N_get HO_14.out [] x16_2 p541 (by first | exact q541 | exact of_decide_eq_true (by first | (with_reducible assumption) | assumption) | (have e_ := (Kd.N_reads' HO_14.out).1; omega))
                                      obtain ⟨ua541_0, uc541_0, rfl, ul541_0, ge541_0⟩ := Kd.FK_slice_open hMe541
                                      have hv541_0 := hcc541 0 _ rfl
                                      rw [Nat.add_zero, show ((Kd.slice 4 Kd.bool)).sz = 1 from rfl, Nat.mul_one] at hv541_0
                                      replace hv541_0 := Option.some.inj (hv541_0.symm.trans hx541_0)
                                      injection hv541_0 with hva_ hvn_ hvc_
                                      rw [hva_] at ge541_0
                                      rw [hvc_] at ul541_0
                                      have HL541_0 := Aside0.mk (show Kd.V Kd.bool 4 _ w.heap.size _ _ (rd_L7 y538 x16_2) from Kd.V_mk ul541_0 ge541_0)
                                      clear hva_ hvn_ hvc_ ge541_0 ul541_0
                                      clear hcc541 hce541
                                      have HR541_0 := Aside0.mk hi541_0
                                      have HC541_0 := Aside0.mk hl541_0
                                      clear hi541_0 hl541_0
                                      replace p541 := eq_true p541
                                      replace q541 := eq_true q541
                                      have p542 : 0 ≤ (x16_2 : Int) := of_decide_eq_true (by first | (with_reducible assumption) | assumption)
                                      have q542 : x16_2 < (t525.length : Int) := of_decide_eq_true (by first | (with_reducible assumption) | assumption)
                                      obtain ⟨ad542, e542, hx542_0⟩ := Kd.at_int (Kd.V_reads' HO_9.out).2.2 x16_2 p542 q542
                                      cases e542
                                      replace p542 := eq_true p542
                                      replace q542 := eq_true q542
                                      have p543 : 0 ≤ (x17_40 : Int) := of_decide_eq_true (by first | (with_reducible assumption) | assumption)
                                      have q543 : x17_40 < (y538.length : Int) := of_decide_eq_true (by first | (with_reducible assumption) | assumption)
                                      obtain ⟨ad543, A543_0, c543_0, e543, hx543_0, hl543_0, hi543_0⟩ := at_L7 (Kd.N_reads' HO_14.out).2.2 x17_40 p543 q543
                                      obtain rfl : ad541 = ad543 := (by injection e543)
                                      obtain ⟨ce543, hce543, hMe543, hcc543⟩ := Kd.N_get HO_14.out [] x17_40 p543 (by first | exact q543 | exact of_decide_eq_true (by first | (with_reducible assumption) | assumption) | (have e_ := (Kd.N_reads' HO_14.out).1; omega))
                                      obtain ⟨ua543_0, uc543_0, rfl, ul543_0, ge543_0⟩ := Kd.FK_slice_open hMe543
                                      have hv543_0 := hcc543 0 _ rfl
                                      rw [Nat.add_zero, show ((Kd.slice 4 Kd.bool)).sz = 1 from rfl, Nat.mul_one] at hv543_0
                                      replace hv543_0 := Option.some.inj (hv543_0.symm.trans hx543_0)
                                      injection hv543_0 with hva_ hvn_ hvc_
                                      rw [hva_] at ge543_0
                                      rw [hvc_] at ul543_0
                                      have HL543_0 := Aside0.mk (show Kd.V Kd.bool 4 _ w.heap.size _ _ (rd_L7 y538 x17_40) from Kd.V_mk ul543_0 ge543_0)
                                      clear hva_ hvn_ hvc_ ge543_0 ul543_0
                                      clear hcc543 hce543
                                      have HR543_0 := Aside0.mk hi543_0
                                      have HC543_0 := Aside0.mk hl543_0
                                      clear hi543_0 hl543_0
                                      replace p543 := eq_true p543
                                      replace q543 := eq_true q543
                                      have p544 : 0 ≤ (x17_40 : Int) := of_decide_eq_true (by first | (with_reducible assumption) | assumption)
                                      have q544 : x17_40 < (t525.length : Int) := of_decide_eq_true (by first | (with_reducible assumption) | assumption)
                                      obtain ⟨ad544, e544, hx544_0⟩ := Kd.at_int (Kd.V_reads' HO_9.out).2.2 x17_40 p544 q544
                                      obtain rfl : ad542 = ad544 := (by injection e544)
                                      replace p544 := eq_true p544
                                      replace q544 := eq_true q544
                                      refine start_ (n := 29) (S := fun w' => w'.cell? (ad541.add (x16_2).toNat) = some (.slice A541_0 (rd_L7 y538 x16_2).length c541_0) ∧ w'.cell? (ad542.add (x16_2).toNat) = some (.int .i64 (rd t525 x16_2)) ∧ w'.cell? (ad541.add (x17_40).toNat) = some (.slice A543_0 (rd_L7 y538 x17_40).length c543_0) ∧ w'.cell? (ad542.add (x17_40).toNat) = some (.int .i64 (rd t525 x17_40))) (ds := []) #[false, false, false, false, false, false, false, false, false, false, false, false, false, false, false, false, false, false, false, false, false, false, false, false, false, false, false, false, false] (by kernel_rfl) rfl rfl ⟨hx541_0, hx542_0, hx543_0, hx544_0⟩ (fun hHeld => ?_); refine with_tabW foretellkeep_ClaimStuck.tab18 foretellkeep_ClaimStuck.bits18 (fun HT_ HW_ => ?_)
                                      generalize wc.drew = w60 at HO_8 HO_9 HO_11 HO_14 HO_522000 HO_522001 BK514 BK521 HB HL541_0 HL543_0 HR541_0 HR543_0 hx541_0 hx542_0 hx543_0 hx544_0 hHeld ⊢
                                      refine pure_ (i := 0) (N := some 88) (v := ?_) (a' := ?_) #[true, false, false, false, false, false, false, false, false, false, false, false, false, false, false, false, false, false, false, false, false, false, false, false, false, false, false, false, false] rfl rfl (any_of HT_.out (by kernel_rfl)) (fun _ _ _ h => h) (Or.inl ⟨by rfl, ?_⟩) ?_ ?_
                                      rotate_left
                                      · intro w'
                                        go_simp
                                        with_reducible rfl
                                      rotate_left
                                      · simp only [Act.put, List.setIfInBounds_toArray, List.set_cons_zero, List.set_cons_succ, i64_w, i32_w]
                                        rfl
                                      refine pure_ (i := 1) (N := some 89) (v := ?_) (a' := ?_) #[true, true, false, false, false, false, false, false, false, false, false, false, false, false, false, false, false, false, false, false, false, false, false, false, false, false, false, false, false] rfl rfl (any_of HT_.out (by kernel_rfl)) (fun _ _ _ h => h) (Or.inl ⟨by rfl, ?_⟩) ?_ ?_
                                      rotate_left
                                      · intro w'
                                        go_simp
                                        with_reducible rfl
                                      rotate_left
                                      · simp only [Act.put, List.setIfInBounds_toArray, List.set_cons_zero, List.set_cons_succ, i64_w, i32_w]
                                        rfl
                                      refine pure_ (i := 2) (N := some 90) (v := ?_) (a' := ?_) #[true, true, true, false, false, false, false, false, false, false, false, false, false, false, false, false, false, false, false, false, false, false, false, false, false, false, false, false, false] rfl rfl (any_of HT_.out (by kernel_rfl)) (fun _ _ _ h => h) (Or.inl ⟨by rfl, ?_⟩) ?_ ?_
                                      rotate_left
                                      · intro w'
                                        go_simp
                                        with_reducible rfl
                                      rotate_left
                                      · simp only [Act.put, List.setIfInBounds_toArray, List.set_cons_zero, List.set_cons_succ, i64_w, i32_w]
                                        rfl
                                      refine pure_ (i := 3) (N := some 91) (v := ?_) (a' := ?_) #[true, true, true, true, false, false, false, false, false, false, false, false, false, false, false, false, false, false, false, false, false, false, false, false, false, false, false, false, false] rfl rfl (any_of HT_.out (by kernel_rfl)) (fun _ _ _ h => h) (Or.inl ⟨by rfl, ?_⟩) ?_ ?_
                                      rotate_left
                                      · intro w'
                                        go_simp
                                        with_reducible rfl
                                      rotate_left
                                      · simp only [Act.put, List.setIfInBounds_toArray, List.set_cons_zero, List.set_cons_succ, i64_w, i32_w]
                                        rfl
                                      refine pure_ (i := 5) (N := some 93) (v := ?_) (a' := ?_) #[true, true, true, true, false, true, false, false, false, false, false, false, false, false, false, false, false, false, false, false, false, false, false, false, false, false, false, false, false] rfl rfl (any_of HT_.out (by kernel_rfl)) (fun _ _ _ h => h) (Or.inl ⟨by rfl, ?_⟩) ?_ ?_
                                      rotate_left
                                      · intro w'
                                        go_simp
                                        with_reducible rfl
                                      rotate_left
                                      · simp only [Act.put, List.setIfInBounds_toArray, List.set_cons_zero, List.set_cons_succ, i64_w, i32_w]
                                        rfl
                                      refine pure_ (i := 6) (N := some 94) (v := ?_) (a' := ?_) #[true, true, true, true, false, true, true, false, false, false, false, false, false, false, false, false, false, false, false, false, false, false, false, false, false, false, false, false, false] rfl rfl (any_of HT_.out (by kernel_rfl)) (fun _ _ _ h => h) (Or.inl ⟨by rfl, ?_⟩) ?_ ?_
                                      rotate_left
                                      · intro w'
                                        go_simp
                                        with_reducible rfl
                                      rotate_left
                                      · simp only [Act.put, List.setIfInBounds_toArray, List.set_cons_zero, List.set_cons_succ, i64_w, i32_w]
                                        rfl
                                      refine pure_ (i := 7) (N := some 95) (v := ?_) (a' := ?_) #[true, true, true, true, false, true, true, true, false, false, false, false, false, false, false, false, false, false, false, false, false, false, false, false, false, false, false, false, false] rfl rfl (any_of HT_.out (by kernel_rfl)) (fun _ _ _ h => h) (Or.inl ⟨by rfl, ?_⟩) ?_ ?_
                                      rotate_left
                                      · intro w'
                                        go_simp
                                        with_reducible rfl
                                      rotate_left
                                      · simp only [Act.put, List.setIfInBounds_toArray, List.set_cons_zero, List.set_cons_succ, i64_w, i32_w]
                                        rfl
                                      refine pure_ (i := 9) (N := some 97) (v := ?_) (a' := ?_) #[true, true, true, true, false, true, true, true, false, true, false, false, false, false, false, false, false, false, false, false, false, false, false, false, false, false, false, false, false] rfl rfl (any_of HT_.out (by kernel_rfl)) (fun _ _ _ h => h) (Or.inl ⟨by rfl, ?_⟩) ?_ ?_
                                      rotate_left
                                      · intro w'
                                        go_simp
                                        with_reducible rfl
                                      rotate_left
                                      · simp only [Act.put, List.setIfInBounds_toArray, List.set_cons_zero, List.set_cons_succ, i64_w, i32_w]
                                        rfl
                                      refine pure_ (i := 10) (N := some 98) (v := ?_) (a' := ?_) #[true, true, true, true, false, true, true, true, false, true, true, false, false, false, false, false, false, false, false, false, false, false, false, false, false, false, false, false, false] rfl rfl (any_of HT_.out (by kernel_rfl)) (fun _ _ _ h => h) (Or.inl ⟨by rfl, ?_⟩) ?_ ?_
                                      rotate_left
                                      · intro w'
                                        go_simp
                                        with_reducible rfl
                                      rotate_left
                                      · simp only [Act.put, List.setIfInBounds_toArray, List.set_cons_zero, List.set_cons_succ, i64_w, i32_w]
                                        rfl
                                      refine pure_ (i := 12) (N := some 100) (v := ?_) (a' := ?_) #[true, true, true, true, false, true, true, true, false, true, true, false, true, false, false, false, false, false, false, false, false, false, false, false, false, false, false, false, false] rfl rfl (any_of HT_.out (by kernel_rfl)) (fun _ _ _ h => h) (Or.inl ⟨by rfl, ?_⟩) ?_ ?_
                                      rotate_left
                                      · intro w'
                                        go_simp
                                        with_reducible rfl
                                      rotate_left
                                      · simp only [Act.put, List.setIfInBounds_toArray, List.set_cons_zero, List.set_cons_succ, i64_w, i32_w]
                                        rfl
                                      refine pure_ (i := 13) (N := some 101) (v := ?_) (a' := ?_) #[true, true, true, true, false, true, true, true, false, true, true, false, true, true, false, false, false, false, false, false, false, false, false, false, false, false, false, false, false] rfl rfl (any_of HT_.out (by kernel_rfl)) (fun _ _ _ h => h) (Or.inl ⟨by rfl, ?_⟩) ?_ ?_
                                      rotate_left
                                      · intro w'
                                        go_simp
                                        with_reducible rfl
                                      rotate_left
                                      · simp only [Act.put, List.setIfInBounds_toArray, List.set_cons_zero, List.set_cons_succ, i64_w, i32_w]
                                        rfl
                                      refine pure_ (i := 14) (N := some 102) (v := ?_) (a' := ?_) #[true, true, true, true, false, true, true, true, false, true, true, false, true, true, true, false, false, false, false, false, false, false, false, false, false, false, false, false, false] rfl rfl (any_of HT_.out (by kernel_rfl)) (fun _ _ _ h => h) (Or.inl ⟨by rfl, ?_⟩) ?_ ?_
                                      rotate_left
                                      · intro w'
                                        go_simp
                                        with_reducible rfl
                                      rotate_left
                                      · simp only [Act.put, List.setIfInBounds_toArray, List.set_cons_zero, List.set_cons_succ, i64_w, i32_w]
                                        rfl
                                      refine pure_ (i := 16) (N := some 104) (v := ?_) (a' := ?_) #[true, true, true, true, false, true, true, true, false, true, true, false, true, true, true, false, true, false, false, false, false, false, false, false, false, false, false, false, false] rfl rfl (any_of HT_.out (by kernel_rfl)) (fun _ _ _ h => h) (Or.inl ⟨by rfl, ?_⟩) ?_ ?_
                                      rotate_left
                                      · intro w'
                                        go_simp
                                        with_reducible rfl
                                      rotate_left
                                      · simp only [Act.put, List.setIfInBounds_toArray, List.set_cons_zero, List.set_cons_succ, i64_w, i32_w]
                                        rfl
                                      refine pure_ (i := 17) (N := some 105) (v := ?_) (a' := ?_) #[true, true, true, true, false, true, true, true, false, true, true, false, true, true, true, false, true, true, false, false, false, false, false, false, false, false, false, false, false] rfl rfl (any_of HT_.out (by kernel_rfl)) (fun _ _ _ h => h) (Or.inl ⟨by rfl, ?_⟩) ?_ ?_
                                      rotate_left
                                      · intro w'
                                        go_simp
                                        with_reducible rfl
                                      rotate_left
                                      · simp only [Act.put, List.setIfInBounds_toArray, List.set_cons_zero, List.set_cons_succ, i64_w, i32_w]
                                        rfl
                                      refine pure_ (i := 18) (N := some 106) (v := ?_) (a' := ?_) #[true, true, true, true, false, true, true, true, false, true, true, false, true, true, true, false, true, true, true, false, false, false, false, false, false, false, false, false, false] rfl rfl (any_of HT_.out (by kernel_rfl)) (fun _ _ _ h => h) (Or.inl ⟨by rfl, ?_⟩) ?_ ?_
                                      rotate_left
                                      · intro w'
                                        go_simp
                                        with_reducible rfl
                                      rotate_left
                                      · simp only [Act.put, List.setIfInBounds_toArray, List.set_cons_zero, List.set_cons_succ, i64_w, i32_w]
                                        rfl
                                      refine pure_ (i := 20) (N := some 108) (v := ?_) (a' := ?_) #[true, true, true, true, false, true, true, true, false, true, true, false, true, true, true, false, true, true, true, false, true, false, false, false, false, false, false, false, false] rfl rfl (any_of HT_.out (by kernel_rfl)) (fun _ _ _ h => h) (Or.inl ⟨by rfl, ?_⟩) ?_ ?_
                                      rotate_left
                                      · intro w'
                                        go_simp
                                        with_reducible rfl
                                      rotate_left
                                      · simp only [Act.put, List.setIfInBounds_toArray, List.set_cons_zero, List.set_cons_succ, i64_w, i32_w]
                                        rfl
                                      refine pure_ (i := 21) (N := some 109) (v := ?_) (a' := ?_) #[true, true, true, true, false, true, true, true, false, true, true, false, true, true, true, false, true, true, true, false, true, true, false, false, false, false, false, false, false] rfl rfl (any_of HT_.out (by kernel_rfl)) (fun _ _ _ h => h) (Or.inl ⟨by rfl, ?_⟩) ?_ ?_
                                      rotate_left
                                      · intro w'
                                        go_simp
                                        with_reducible rfl
                                      rotate_left
                                      · simp only [Act.put, List.setIfInBounds_toArray, List.set_cons_zero, List.set_cons_succ, i64_w, i32_w]
                                        rfl
                                      refine take_ (i := 4) (N := some 92) (v := ?_) (a' := ?_) #[true, true, true, true, true, true, true, true, false, true, true, false, true, true, true, false, true, true, true, false, true, true, false, false, false, false, false, false, false] rfl rfl (take_ofW HT_.out HW_.out (by kernel_rfl)) (fun _ _ _ h => h) (Or.inl ⟨by rfl, ?_⟩) hHeld ?_ ?_
                                      rotate_left
                                      · rintro w' ⟨s0, s1, s2, s3⟩
                                        go_simp
                                        with_reducible rfl
                                      rotate_left
                                      · simp only [Act.put, List.setIfInBounds_toArray, List.set_cons_zero, List.set_cons_succ, i64_w, i32_w]
                                        rfl
                                      refine take_ (i := 8) (N := some 96) (v := ?_) (a' := ?_) #[true, true, true, true, true, true, true, true, true, true, true, false, true, true, true, false, true, true, true, false, true, true, false, false, false, false, false, false, false] rfl rfl (take_ofW HT_.out HW_.out (by kernel_rfl)) (fun _ _ _ h => h) (Or.inl ⟨by rfl, ?_⟩) hHeld ?_ ?_
                                      rotate_left
                                      · rintro w' ⟨s0, s1, s2, s3⟩
                                        go_simp
                                        with_reducible rfl
                                      rotate_left
                                      · simp only [Act.put, List.setIfInBounds_toArray, List.set_cons_zero, List.set_cons_succ, i64_w, i32_w]
                                        rfl
                                      refine pure_ (i := 11) (N := some 99) (v := ?_) (a' := ?_) #[true, true, true, true, true, true, true, true, true, true, true, true, true, true, true, false, true, true, true, false, true, true, false, false, false, false, false, false, false] rfl rfl (any_of HT_.out (by kernel_rfl)) (fun _ _ _ h => h) (Or.inl ⟨by rfl, ?_⟩) ?_ ?_
                                      rotate_left
                                      · intro w'
                                        go_simp
                                        with_reducible rfl
                                      rotate_left
                                      · simp only [Act.put, List.setIfInBounds_toArray, List.set_cons_zero, List.set_cons_succ, i64_w, i32_w]
                                        rfl
                                      refine take_ (i := 15) (N := some 103) (v := ?_) (a' := ?_) #[true, true, true, true, true, true, true, true, true, true, true, true, true, true, true, true, true, true, true, false, true, true, false, false, false, false, false, false, false] rfl rfl (take_ofW HT_.out HW_.out (by kernel_rfl)) (fun _ _ _ h => h) (Or.inl ⟨by rfl, ?_⟩) hHeld ?_ ?_
                                      rotate_left
                                      · rintro w' ⟨s0, s1, s2, s3⟩
                                        go_simp
                                        with_reducible rfl
                                      rotate_left
                                      · simp only [Act.put, List.setIfInBounds_toArray, List.set_cons_zero, List.set_cons_succ, i64_w, i32_w]
                                        rfl
                                      refine take_ (i := 19) (N := some 107) (v := ?_) (a' := ?_) #[true, true, true, true, true, true, true, true, true, true, true, true, true, true, true, true, true, true, true, true, true, true, false, false, false, false, false, false, false] rfl rfl (take_ofW HT_.out HW_.out (by kernel_rfl)) (fun _ _ _ h => h) (Or.inl ⟨by rfl, ?_⟩) hHeld ?_ ?_
                                      rotate_left
                                      · rintro w' ⟨s0, s1, s2, s3⟩
                                        go_simp
                                        with_reducible rfl
                                      rotate_left
                                      · simp only [Act.put, List.setIfInBounds_toArray, List.set_cons_zero, List.set_cons_succ, i64_w, i32_w]
                                        rfl
                                      refine pure_ (i := 22) (N := some 110) (v := ?_) (a' := ?_) #[true, true, true, true, true, true, true, true, true, true, true, true, true, true, true, true, true, true, true, true, true, true, true, false, false, false, false, false, false] rfl rfl (any_of HT_.out (by kernel_rfl)) (fun _ _ _ h => h) (Or.inl ⟨by rfl, ?_⟩) ?_ ?_
                                      rotate_left
                                      · intro w'
                                        go_simp
                                        with_reducible rfl
                                      rotate_left
                                      · simp only [Act.put, List.setIfInBounds_toArray, List.set_cons_zero, List.set_cons_succ, i64_w, i32_w]
                                        rfl
                                      refine one_ (i := 23) (N := some 111) #[true, true, true, true, true, true, true, true, true, true, true, true, true, true, true, true, true, true, true, true, true, true, true, true, false, false, false, false, false] rfl rfl (one_of HT_.out (by kernel_rfl)) (by decide) (fun K hK => ?_)
                                      refine goes_ Tryd.func28 (by kernel_rfl) rfl #[.slice Ao19 t522.length co19, .slice A541_0 (rd_L7 y538 x16_2).length c541_0, .int .i64 (Go.bits .xor .i64 (rd t525 x16_2) (ji49)), .slice A543_0 (rd_L7 y538 x17_40).length c543_0, .int .i64 (Go.bits .xor .i64 (rd t525 x17_40) (ji49))] (by rfl) rfl rfl (by (try simp only [List.map_toArray, List.map_cons, List.map_nil]); first | done | (simp only [hji49]; rfl) | rfl | (simp only [List.length_drop, List.length_take]; rfl)) ?_
                                      with_reducible refine (logic_Follows.calls kj40 _ _ t522 _ _ (rd_L7 y538 x16_2) (Go.bits .xor .i64 (rd t525 x16_2) (ji49)) _ _ (rd_L7 y538 x17_40) (Go.bits .xor .i64 (rd t525 x17_40) (ji49)) t545 t546 _ ?side1 ?side2 ?side3 ?side4 ?side5 ?side6 ?side7 A55.out).mono ?_
                                      (case side1 => repeat (first | exact (Kd.V_reads' HO_8.out).2.2 | (with_reducible refine Kd.C_alloc ?_ _) | (with_reducible refine Kd.C_drewN ?_ _) | (with_reducible refine Kd.C_drew ?_)))
                                      (case side2 => exact (Kd.V_reads' HO_8.out).2.1)
                                      (case side3 => repeat (first | exact (by repeat (first | (with_reducible exact HR541_0.out) | (with_reducible refine Kd.C_alloc ?_ _) | (with_reducible refine Kd.C_drewN ?_ _) | (with_reducible refine Kd.C_drew ?_) | exact HR541_0.out)) | (with_reducible refine Kd.C_alloc ?_ _) | (with_reducible refine Kd.C_drewN ?_ _) | (with_reducible refine Kd.C_drew ?_)))
                                      (case side4 => exact HC541_0.out)
                                      (case side5 => repeat (first | exact (by repeat (first | (with_reducible exact HR543_0.out) | (with_reducible refine Kd.C_alloc ?_ _) | (with_reducible refine Kd.C_drewN ?_ _) | (with_reducible refine Kd.C_drew ?_) | exact HR543_0.out)) | (with_reducible refine Kd.C_alloc ?_ _) | (with_reducible refine Kd.C_drewN ?_ _) | (with_reducible refine Kd.C_drew ?_)))
                                      (case side6 => exact HC543_0.out)
                                      (case side7 => first | exact hG_ | exact Glob.drewN hG_ _ | exact Glob.below hG_ (by repeat (first | (with_reducible first | exact HB.out | apply below_alloc | apply pw_below_drewN | apply below_drew1 | refine below_set ?_ GE514.out | refine below_set ?_ GE521.out) | exact HB.out)))
                                      rintro e w62 ⟨rfl, hb⟩
                                      have HS0_ := (hb.cell (World.block_lt_of_cell? _ _ (hHeld.1))).trans (hHeld.1)
                                      have HS1_ := (hb.cell (World.block_lt_of_cell? _ _ (hHeld.2.1))).trans (hHeld.2.1)
                                      have HS2_ := (hb.cell (World.block_lt_of_cell? _ _ (hHeld.2.2.1))).trans (hHeld.2.2.1)
                                      have HS3_ := (hb.cell (World.block_lt_of_cell? _ _ (hHeld.2.2.2))).trans (hHeld.2.2.2)
                                      refine ⟨_, rfl, ?_⟩
                                      have n0_ := Aside0.mk (Kd.V_below (by (with_reducible repeat (first | apply Kd.V_alloc | apply Kd.V_drewN | apply Kd.V_drew)); exact HO_8.out) hb)
                                      have n1_ := Aside0.mk (Kd.V_below (by (with_reducible repeat (first | apply Kd.V_alloc | apply Kd.V_drewN | apply Kd.V_drew)); exact HO_9.out) hb)
                                      have n2_ := Aside0.mk (Kd.V_below (by (with_reducible repeat (first | apply Kd.V_alloc | apply Kd.V_drewN | apply Kd.V_drew)); exact HO_11.out) hb)
                                      have n3_ := Aside0.mk (Kd.N_below (by (with_reducible repeat (first | apply Kd.N_alloc | apply Kd.N_drewN | apply Kd.N_drew)); exact HO_14.out) hb)
                                      have n4_ := Aside0.mk (Kd.N_below (by (with_reducible repeat (first | apply Kd.N_alloc | apply Kd.N_drewN | apply Kd.N_drew)); exact HO_522000.out) hb)
                                      have n5_ := Aside0.mk (Kd.N_below (by (with_reducible repeat (first | apply Kd.N_alloc | apply Kd.N_drewN | apply Kd.N_drew)); exact HO_522001.out) hb)
                                      have n6_ := Aside0.mk (Kd.V_below (by (with_reducible repeat (first | apply Kd.V_alloc | apply Kd.V_drewN | apply Kd.V_drew)); exact HL541_0.out) hb)
                                      have n7_ := Aside0.mk (Kd.V_below (by (with_reducible repeat (first | apply Kd.V_alloc | apply Kd.V_drewN | apply Kd.V_drew)); exact HL543_0.out) hb)
                                      have n8_ := Aside0.mk (blk_below (g := gb514) (o := .cells #[.slice A1_0 l1_0.length c1_0, .slice A1_1 l1_1.length c1_1] 40 (0, 0)) (by (with_reducible repeat (first | refine blk_drewN ?_ _ | refine blk_drew ?_ | refine blk_alloc ?_ _)); exact BK514.out) hb)
                                      have n9_ := Aside0.mk (blk_below (g := gb521) (o := .cells #[.slice Ao13 t515.length co13, .slice Ao16 t518.length co16] 43 (0, 0)) (by (with_reducible repeat (first | refine blk_drewN ?_ _ | refine blk_drew ?_ | refine blk_alloc ?_ _)); exact BK521.out) hb)
                                      have n10_ := Aside0.mk (Kd.C_below (by repeat (first | (with_reducible exact HR541_0.out) | (with_reducible refine Kd.C_alloc ?_ _) | (with_reducible refine Kd.C_drewN ?_ _) | (with_reducible refine Kd.C_drew ?_) | exact HR541_0.out)) hb)
                                      have n11_ := Aside0.mk (Kd.C_below (by repeat (first | (with_reducible exact HR543_0.out) | (with_reducible refine Kd.C_alloc ?_ _) | (with_reducible refine Kd.C_drewN ?_ _) | (with_reducible refine Kd.C_drew ?_) | exact HR543_0.out)) hb)
                                      have n12_ := Aside0.mk (below_step (by repeat (first | (with_reducible first | exact HB.out | apply below_alloc | apply pw_below_drewN | apply below_drew1 | refine below_set ?_ GE514.out | refine below_set ?_ GE521.out) | exact HB.out)) hb)
                                      clear HO_8
                                      clear HO_9
                                      clear HO_11
                                      clear HO_14
                                      clear HO_522000
                                      clear HO_522001
                                      clear HL541_0
                                      clear HL543_0
                                      clear BK514
                                      clear BK521
                                      clear HR541_0
                                      clear HR543_0
                                      clear HB
                                      have HO_8 := n0_
                                      have HO_9 := n1_
                                      have HO_11 := n2_
                                      have HO_14 := n3_
                                      have HO_522000 := n4_
                                      have HO_522001 := n5_
                                      have HL541_0 := n6_
                                      have HL543_0 := n7_
                                      have BK514 := n8_
                                      have BK521 := n9_
                                      have HR541_0 := n10_
                                      have HR543_0 := n11_
                                      have HB := n12_
                                      clear n0_ n1_ n2_ n3_ n4_ n5_ n6_ n7_ n8_ n9_ n10_ n11_ n12_
                                      (try clear hb)
                                      (try clear hb2)
                                      (try clear hk)
                                      (try clear hi)
                                      refine hK.out _ _ ⟨HS0_, HS1_, HS2_, HS3_⟩ (fun hHeld => ?_)
                                      clear hK K
                                      refine norm_ (a' := ?_) ?_ ?_
                                      rotate_left
                                      · show Act.put _ (some 111) _ = _
                                        simp only [Act.put, List.setIfInBounds_toArray, List.set_cons_zero, List.set_cons_succ, i64_w, i32_w]
                                        rfl
                                      refine pure_ (i := 24) (N := some 87) (v := ?_) (a' := ?_) #[true, true, true, true, true, true, true, true, true, true, true, true, true, true, true, true, true, true, true, true, true, true, true, true, true, false, false, false, false] rfl rfl (any_of HT_.out (by kernel_rfl)) (fun _ _ _ h => h) (Or.inl ⟨by rfl, ?_⟩) ?_ ?_
                                      rotate_left
                                      · intro w'
                                        go_simp
                                        with_reducible rfl
                                      rotate_left
                                      · simp only [Act.put, List.setIfInBounds_toArray, List.set_cons_zero, List.set_cons_succ, i64_w, i32_w]
                                        rfl
                                      refine pure_ (i := 25) (N := some 112) (v := ?_) (a' := ?_) #[true, true, true, true, true, true, true, true, true, true, true, true, true, true, true, true, true, true, true, true, true, true, true, true, true, true, false, false, false] rfl rfl (any_of HT_.out (by kernel_rfl)) (fun _ _ _ h => h) (Or.inl ⟨by rfl, ?_⟩) ?_ ?_
                                      rotate_left
                                      · intro w'
                                        go_simp
                                        with_reducible rfl
                                      rotate_left
                                      · simp only [Act.put, List.setIfInBounds_toArray, List.set_cons_zero, List.set_cons_succ, i64_w, i32_w]
                                        rfl
                                      refine pure_ (i := 26) (N := some 113) (v := ?_) (a' := ?_) #[true, true, true, true, true, true, true, true, true, true, true, true, true, true, true, true, true, true, true, true, true, true, true, true, true, true, true, false, false] rfl rfl (any_of HT_.out (by kernel_rfl)) (fun _ _ _ h => h) (Or.inl ⟨by rfl, ?_⟩) ?_ ?_
                                      rotate_left
                                      · intro w'
                                        go_simp
                                        with_reducible rfl
                                      rotate_left
                                      · simp only [Act.put, List.setIfInBounds_toArray, List.set_cons_zero, List.set_cons_succ, i64_w, i32_w]
                                        rfl
                                      refine pure_ (i := 27) (N := some 18) (v := ?_) (a' := ?_) #[true, true, true, true, true, true, true, true, true, true, true, true, true, true, true, true, true, true, true, true, true, true, true, true, true, true, true, true, false] rfl rfl (any_of HT_.out (by kernel_rfl)) (fun _ _ _ h => h) (Or.inl ⟨by rfl, ?_⟩) ?_ ?_
                                      rotate_left
                                      · intro w'
                                        go_simp
                                        with_reducible rfl
                                      rotate_left
                                      · simp only [Act.put, List.setIfInBounds_toArray, List.set_cons_zero, List.set_cons_succ, i64_w, i32_w]
                                        rfl
                                      refine pure_ (i := 28) (N := some 19) (v := ?_) (a' := ?_) #[true, true, true, true, true, true, true, true, true, true, true, true, true, true, true, true, true, true, true, true, true, true, true, true, true, true, true, true, true] rfl rfl (any_of HT_.out (by kernel_rfl)) (fun _ _ _ h => h) (Or.inl ⟨by rfl, ?_⟩) ?_ ?_
                                      rotate_left
                                      · intro w'
                                        go_simp
                                        with_reducible rfl
                                      rotate_left
                                      · simp only [Act.put, List.setIfInBounds_toArray, List.set_cons_zero, List.set_cons_succ, i64_w, i32_w]
                                        rfl
                                      refine done_ (done_of HT_.out (by kernel_rfl)) ?_
                                      try go_wp2
                                      have n0_ := Aside0.mk (Kd.V_drew HO_8.out)
                                      have n1_ := Aside0.mk (Kd.V_drew HO_9.out)
                                      have n2_ := Aside0.mk (Kd.V_drew HO_11.out)
                                      have n3_ := Aside0.mk (Kd.N_drew HO_14.out)
                                      have n4_ := Aside0.mk (Kd.N_drew HO_522000.out)
                                      have n5_ := Aside0.mk (Kd.N_drew HO_522001.out)
                                      have n6_ := Aside0.mk (Kd.V_drew HL541_0.out)
                                      have n7_ := Aside0.mk (Kd.V_drew HL543_0.out)
                                      have n8_ := Aside0.mk (blk_drew BK514.out)
                                      have n9_ := Aside0.mk (blk_drew BK521.out)
                                      have n10_ := Aside0.mk (Kd.C_drew HR541_0.out)
                                      have n11_ := Aside0.mk (Kd.C_drew HR543_0.out)
                                      have n12_ := Aside0.mk (below_drew1 HB.out)
                                      clear HO_8
                                      clear HO_9
                                      clear HO_11
                                      clear HO_14
                                      clear HO_522000
                                      clear HO_522001
                                      clear HL541_0
                                      clear HL543_0
                                      clear BK514
                                      clear BK521
                                      clear HR541_0
                                      clear HR543_0
                                      clear HB
                                      have HO_8 := n0_
                                      have HO_9 := n1_
                                      have HO_11 := n2_
                                      have HO_14 := n3_
                                      have HO_522000 := n4_
                                      have HO_522001 := n5_
                                      have HL541_0 := n6_
                                      have HL543_0 := n7_
                                      have BK514 := n8_
                                      have BK521 := n9_
                                      have HR541_0 := n10_
                                      have HR543_0 := n11_
                                      have HB := n12_
                                      clear n0_ n1_ n2_ n3_ n4_ n5_ n6_ n7_ n8_ n9_ n10_ n11_ n12_
                                      have p547 : 0 ≤ (x16_2 : Int) := of_decide_eq_true (by first | (with_reducible assumption) | assumption)
                                      have q547 : x16_2 < (y538.length : Int) := of_decide_eq_true (by first | (with_reducible assumption) | assumption)
                                      obtain ⟨ad547, A547_0, c547_0, e547, hx547_0, hl547_0, hi547_0⟩ := at_L7 (Kd.N_reads' HO_14.out).2.2 x16_2 p547 q547
                                      obtain rfl : ad541 = ad547 := (by injection e547)
                                      obtain ⟨ce547, hce547, hMe547, hcc547⟩ := Kd.N_get HO_14.out [] x16_2 p547 (by first | exact q547 | exact of_decide_eq_true (by first | (with_reducible assumption) | assumption) | (have e_ := (Kd.N_reads' HO_14.out).1; omega))
                                      obtain ⟨ua547_0, uc547_0, rfl, ul547_0, ge547_0⟩ := Kd.FK_slice_open hMe547
                                      have hv547_0 := hcc547 0 _ rfl
                                      rw [Nat.add_zero, show ((Kd.slice 4 Kd.bool)).sz = 1 from rfl, Nat.mul_one] at hv547_0
                                      replace hv547_0 := Option.some.inj (hv547_0.symm.trans hx547_0)
                                      injection hv547_0 with hva_ hvn_ hvc_
                                      rw [hva_] at ge547_0
                                      rw [hvc_] at ul547_0
                                      have HL547_0 := Aside0.mk (show Kd.V Kd.bool 4 _ w.heap.size _ _ (rd_L7 y538 x16_2) from Kd.V_mk ul547_0 ge547_0)
                                      clear hva_ hvn_ hvc_ ge547_0 ul547_0
                                      clear hcc547 hce547
                                      have HR547_0 := Aside0.mk hi547_0
                                      have HC547_0 := Aside0.mk hl547_0
                                      clear hi547_0 hl547_0
                                      replace p547 := eq_true p547
                                      replace q547 := eq_true q547
                                      have p548 : 0 ≤ (x16_2 : Int) := of_decide_eq_true (by first | (with_reducible assumption) | assumption)
                                      have q548 : x16_2 < (t525.length : Int) := of_decide_eq_true (by first | (with_reducible assumption) | assumption)
                                      obtain ⟨ad548, e548, hx548_0⟩ := Kd.at_int (Kd.V_reads' HO_9.out).2.2 x16_2 p548 q548
                                      obtain rfl : ad542 = ad548 := (by injection e548)
                                      replace p548 := eq_true p548
                                      replace q548 := eq_true q548
                                      refine start_ (n := 18) (S := fun w' => w'.cell? (ad541.add (x16_2).toNat) = some (.slice A547_0 (rd_L7 y538 x16_2).length c547_0) ∧ w'.cell? (ad542.add (x16_2).toNat) = some (.int .i64 (rd t525 x16_2))) (ds := []) #[false, false, false, false, false, false, false, false, false, false, false, false, false, false, false, false, false, false] (by kernel_rfl) rfl rfl ⟨hx547_0, hx548_0⟩ (fun hHeld => ?_); refine with_tabW foretellkeep_ClaimStuck.tab19 foretellkeep_ClaimStuck.bits19 (fun HT_ HW_ => ?_)
                                      generalize w62.drew = w63 at HO_8 HO_9 HO_11 HO_14 HO_522000 HO_522001 HL541_0 HL543_0 BK514 BK521 HR541_0 HR543_0 HB HL547_0 HR547_0 hx547_0 hx548_0 hHeld ⊢
                                      refine pure_ (i := 0) (N := some 115) (v := ?_) (a' := ?_) #[true, false, false, false, false, false, false, false, false, false, false, false, false, false, false, false, false, false] rfl rfl (any_of HT_.out (by kernel_rfl)) (fun _ _ _ h => h) (Or.inl ⟨by rfl, ?_⟩) ?_ ?_
                                      rotate_left
                                      · intro w'
                                        go_simp
                                        with_reducible rfl
                                      rotate_left
                                      · simp only [Act.put, List.setIfInBounds_toArray, List.set_cons_zero, List.set_cons_succ, i64_w, i32_w]
                                        rfl
                                      refine pure_ (i := 1) (N := some 116) (v := ?_) (a' := ?_) #[true, true, false, false, false, false, false, false, false, false, false, false, false, false, false, false, false, false] rfl rfl (any_of HT_.out (by kernel_rfl)) (fun _ _ _ h => h) (Or.inl ⟨by rfl, ?_⟩) ?_ ?_
                                      rotate_left
                                      · intro w'
                                        go_simp
                                        with_reducible rfl
                                      rotate_left
                                      · simp only [Act.put, List.setIfInBounds_toArray, List.set_cons_zero, List.set_cons_succ, i64_w, i32_w]
                                        rfl
                                      refine pure_ (i := 2) (N := some 117) (v := ?_) (a' := ?_) #[true, true, true, false, false, false, false, false, false, false, false, false, false, false, false, false, false, false] rfl rfl (any_of HT_.out (by kernel_rfl)) (fun _ _ _ h => h) (Or.inl ⟨by rfl, ?_⟩) ?_ ?_
                                      rotate_left
                                      · intro w'
                                        go_simp
                                        with_reducible rfl
                                      rotate_left
                                      · simp only [Act.put, List.setIfInBounds_toArray, List.set_cons_zero, List.set_cons_succ, i64_w, i32_w]
                                        rfl
                                      refine pure_ (i := 3) (N := some 118) (v := ?_) (a' := ?_) #[true, true, true, true, false, false, false, false, false, false, false, false, false, false, false, false, false, false] rfl rfl (any_of HT_.out (by kernel_rfl)) (fun _ _ _ h => h) (Or.inl ⟨by rfl, ?_⟩) ?_ ?_
                                      rotate_left
                                      · intro w'
                                        go_simp
                                        with_reducible rfl
                                      rotate_left
                                      · simp only [Act.put, List.setIfInBounds_toArray, List.set_cons_zero, List.set_cons_succ, i64_w, i32_w]
                                        rfl
                                      refine pure_ (i := 5) (N := some 120) (v := ?_) (a' := ?_) #[true, true, true, true, false, true, false, false, false, false, false, false, false, false, false, false, false, false] rfl rfl (any_of HT_.out (by kernel_rfl)) (fun _ _ _ h => h) (Or.inl ⟨by rfl, ?_⟩) ?_ ?_
                                      rotate_left
                                      · intro w'
                                        go_simp
                                        with_reducible rfl
                                      rotate_left
                                      · simp only [Act.put, List.setIfInBounds_toArray, List.set_cons_zero, List.set_cons_succ, i64_w, i32_w]
                                        rfl
                                      refine pure_ (i := 6) (N := some 121) (v := ?_) (a' := ?_) #[true, true, true, true, false, true, true, false, false, false, false, false, false, false, false, false, false, false] rfl rfl (any_of HT_.out (by kernel_rfl)) (fun _ _ _ h => h) (Or.inl ⟨by rfl, ?_⟩) ?_ ?_
                                      rotate_left
                                      · intro w'
                                        go_simp
                                        with_reducible rfl
                                      rotate_left
                                      · simp only [Act.put, List.setIfInBounds_toArray, List.set_cons_zero, List.set_cons_succ, i64_w, i32_w]
                                        rfl
                                      refine pure_ (i := 7) (N := some 122) (v := ?_) (a' := ?_) #[true, true, true, true, false, true, true, true, false, false, false, false, false, false, false, false, false, false] rfl rfl (any_of HT_.out (by kernel_rfl)) (fun _ _ _ h => h) (Or.inl ⟨by rfl, ?_⟩) ?_ ?_
                                      rotate_left
                                      · intro w'
                                        go_simp
                                        with_reducible rfl
                                      rotate_left
                                      · simp only [Act.put, List.setIfInBounds_toArray, List.set_cons_zero, List.set_cons_succ, i64_w, i32_w]
                                        rfl
                                      refine pure_ (i := 9) (N := some 124) (v := ?_) (a' := ?_) #[true, true, true, true, false, true, true, true, false, true, false, false, false, false, false, false, false, false] rfl rfl (any_of HT_.out (by kernel_rfl)) (fun _ _ _ h => h) (Or.inl ⟨by rfl, ?_⟩) ?_ ?_
                                      rotate_left
                                      · intro w'
                                        go_simp
                                        with_reducible rfl
                                      rotate_left
                                      · simp only [Act.put, List.setIfInBounds_toArray, List.set_cons_zero, List.set_cons_succ, i64_w, i32_w]
                                        rfl
                                      refine pure_ (i := 10) (N := some 125) (v := ?_) (a' := ?_) #[true, true, true, true, false, true, true, true, false, true, true, false, false, false, false, false, false, false] rfl rfl (any_of HT_.out (by kernel_rfl)) (fun _ _ _ h => h) (Or.inl ⟨by rfl, ?_⟩) ?_ ?_
                                      rotate_left
                                      · intro w'
                                        go_simp
                                        with_reducible rfl
                                      rotate_left
                                      · simp only [Act.put, List.setIfInBounds_toArray, List.set_cons_zero, List.set_cons_succ, i64_w, i32_w]
                                        rfl
                                      refine take_ (i := 4) (N := some 119) (v := ?_) (a' := ?_) #[true, true, true, true, true, true, true, true, false, true, true, false, false, false, false, false, false, false] rfl rfl (take_ofW HT_.out HW_.out (by kernel_rfl)) (fun _ _ _ h => h) (Or.inl ⟨by rfl, ?_⟩) hHeld ?_ ?_
                                      rotate_left
                                      · rintro w' ⟨s0, s1⟩
                                        go_simp
                                        with_reducible rfl
                                      rotate_left
                                      · simp only [Act.put, List.setIfInBounds_toArray, List.set_cons_zero, List.set_cons_succ, i64_w, i32_w]
                                        rfl
                                      refine take_ (i := 8) (N := some 123) (v := ?_) (a' := ?_) #[true, true, true, true, true, true, true, true, true, true, true, false, false, false, false, false, false, false] rfl rfl (take_ofW HT_.out HW_.out (by kernel_rfl)) (fun _ _ _ h => h) (Or.inl ⟨by rfl, ?_⟩) hHeld ?_ ?_
                                      rotate_left
                                      · rintro w' ⟨s0, s1⟩
                                        go_simp
                                        with_reducible rfl
                                      rotate_left
                                      · simp only [Act.put, List.setIfInBounds_toArray, List.set_cons_zero, List.set_cons_succ, i64_w, i32_w]
                                        rfl
                                      refine pure_ (i := 11) (N := some 126) (v := ?_) (a' := ?_) #[true, true, true, true, true, true, true, true, true, true, true, true, false, false, false, false, false, false] rfl rfl (any_of HT_.out (by kernel_rfl)) (fun _ _ _ h => h) (Or.inl ⟨by rfl, ?_⟩) ?_ ?_
                                      rotate_left
                                      · intro w'
                                        go_simp
                                        with_reducible rfl
                                      rotate_left
                                      · simp only [Act.put, List.setIfInBounds_toArray, List.set_cons_zero, List.set_cons_succ, i64_w, i32_w]
                                        rfl
                                      refine one_ (i := 12) (N := some 127) #[true, true, true, true, true, true, true, true, true, true, true, true, true, false, false, false, false, false] rfl rfl (one_of HT_.out (by kernel_rfl)) (by decide) (fun K hK => ?_)
                                      refine goes_ Tryd.func22 (by kernel_rfl) rfl #[.slice Ao19 t522.length co19, .slice A547_0 (rd_L7 y538 x16_2).length c547_0, .int .i64 (Go.bits .xor .i64 (rd t525 x16_2) (ji49))] (by rfl) rfl rfl (by (try simp only [List.map_toArray, List.map_cons, List.map_nil]); first | done | (simp only [hji49]; rfl) | rfl | (simp only [List.length_drop, List.length_take]; rfl)) ?_
                                      with_reducible refine (logic_Meets.calls kj40 _ _ t522 _ _ (rd_L7 y538 x16_2) (Go.bits .xor .i64 (rd t525 x16_2) (ji49)) t549 t550 _ ?side1 ?side2 ?side3 ?side4 ?side5 A58.out).mono ?_
                                      (case side1 => repeat (first | exact (Kd.V_reads' HO_8.out).2.2 | (with_reducible refine Kd.C_alloc ?_ _) | (with_reducible refine Kd.C_drewN ?_ _) | (with_reducible refine Kd.C_drew ?_)))
                                      (case side2 => exact (Kd.V_reads' HO_8.out).2.1)
                                      (case side3 => repeat (first | exact (by repeat (first | (with_reducible exact HR547_0.out) | (with_reducible refine Kd.C_alloc ?_ _) | (with_reducible refine Kd.C_drewN ?_ _) | (with_reducible refine Kd.C_drew ?_) | exact HR547_0.out)) | (with_reducible refine Kd.C_alloc ?_ _) | (with_reducible refine Kd.C_drewN ?_ _) | (with_reducible refine Kd.C_drew ?_)))
                                      (case side4 => exact HC547_0.out)
                                      (case side5 => first | exact hG_ | exact Glob.drewN hG_ _ | exact Glob.below hG_ (by repeat (first | (with_reducible first | exact HB.out | apply below_alloc | apply pw_below_drewN | apply below_drew1 | refine below_set ?_ GE514.out | refine below_set ?_ GE521.out) | exact HB.out)))
                                      rintro e w64 ⟨rfl, hb⟩
                                      have HS0_ := (hb.cell (World.block_lt_of_cell? _ _ (hHeld.1))).trans (hHeld.1)
                                      have HS1_ := (hb.cell (World.block_lt_of_cell? _ _ (hHeld.2))).trans (hHeld.2)
                                      refine ⟨_, rfl, ?_⟩
                                      have n0_ := Aside0.mk (Kd.V_below (by (with_reducible repeat (first | apply Kd.V_alloc | apply Kd.V_drewN | apply Kd.V_drew)); exact HO_8.out) hb)
                                      have n1_ := Aside0.mk (Kd.V_below (by (with_reducible repeat (first | apply Kd.V_alloc | apply Kd.V_drewN | apply Kd.V_drew)); exact HO_9.out) hb)
                                      have n2_ := Aside0.mk (Kd.V_below (by (with_reducible repeat (first | apply Kd.V_alloc | apply Kd.V_drewN | apply Kd.V_drew)); exact HO_11.out) hb)
                                      have n3_ := Aside0.mk (Kd.N_below (by (with_reducible repeat (first | apply Kd.N_alloc | apply Kd.N_drewN | apply Kd.N_drew)); exact HO_14.out) hb)
                                      have n4_ := Aside0.mk (Kd.N_below (by (with_reducible repeat (first | apply Kd.N_alloc | apply Kd.N_drewN | apply Kd.N_drew)); exact HO_522000.out) hb)
                                      have n5_ := Aside0.mk (Kd.N_below (by (with_reducible repeat (first | apply Kd.N_alloc | apply Kd.N_drewN | apply Kd.N_drew)); exact HO_522001.out) hb)
                                      have n6_ := Aside0.mk (Kd.V_below (by (with_reducible repeat (first | apply Kd.V_alloc | apply Kd.V_drewN | apply Kd.V_drew)); exact HL541_0.out) hb)
                                      have n7_ := Aside0.mk (Kd.V_below (by (with_reducible repeat (first | apply Kd.V_alloc | apply Kd.V_drewN | apply Kd.V_drew)); exact HL543_0.out) hb)
                                      have n8_ := Aside0.mk (Kd.V_below (by (with_reducible repeat (first | apply Kd.V_alloc | apply Kd.V_drewN | apply Kd.V_drew)); exact HL547_0.out) hb)
                                      have n9_ := Aside0.mk (blk_below (g := gb514) (o := .cells #[.slice A1_0 l1_0.length c1_0, .slice A1_1 l1_1.length c1_1] 40 (0, 0)) (by (with_reducible repeat (first | refine blk_drewN ?_ _ | refine blk_drew ?_ | refine blk_alloc ?_ _)); exact BK514.out) hb)
                                      have n10_ := Aside0.mk (blk_below (g := gb521) (o := .cells #[.slice Ao13 t515.length co13, .slice Ao16 t518.length co16] 43 (0, 0)) (by (with_reducible repeat (first | refine blk_drewN ?_ _ | refine blk_drew ?_ | refine blk_alloc ?_ _)); exact BK521.out) hb)
                                      have n11_ := Aside0.mk (Kd.C_below (by repeat (first | (with_reducible exact HR541_0.out) | (with_reducible refine Kd.C_alloc ?_ _) | (with_reducible refine Kd.C_drewN ?_ _) | (with_reducible refine Kd.C_drew ?_) | exact HR541_0.out)) hb)
                                      have n12_ := Aside0.mk (Kd.C_below (by repeat (first | (with_reducible exact HR543_0.out) | (with_reducible refine Kd.C_alloc ?_ _) | (with_reducible refine Kd.C_drewN ?_ _) | (with_reducible refine Kd.C_drew ?_) | exact HR543_0.out)) hb)
                                      have n13_ := Aside0.mk (Kd.C_below (by repeat (first | (with_reducible exact HR547_0.out) | (with_reducible refine Kd.C_alloc ?_ _) | (with_reducible refine Kd.C_drewN ?_ _) | (with_reducible refine Kd.C_drew ?_) | exact HR547_0.out)) hb)
                                      have n14_ := Aside0.mk (below_step (by repeat (first | (with_reducible first | exact HB.out | apply below_alloc | apply pw_below_drewN | apply below_drew1 | refine below_set ?_ GE514.out | refine below_set ?_ GE521.out) | exact HB.out)) hb)
                                      clear HO_8
                                      clear HO_9
                                      clear HO_11
                                      clear HO_14
                                      clear HO_522000
                                      clear HO_522001
                                      clear HL541_0
                                      clear HL543_0
                                      clear HL547_0
                                      clear BK514
                                      clear BK521
                                      clear HR541_0
                                      clear HR543_0
                                      clear HR547_0
                                      clear HB
                                      have HO_8 := n0_
                                      have HO_9 := n1_
                                      have HO_11 := n2_
                                      have HO_14 := n3_
                                      have HO_522000 := n4_
                                      have HO_522001 := n5_
                                      have HL541_0 := n6_
                                      have HL543_0 := n7_
                                      have HL547_0 := n8_
                                      have BK514 := n9_
                                      have BK521 := n10_
                                      have HR541_0 := n11_
                                      have HR543_0 := n12_
                                      have HR547_0 := n13_
                                      have HB := n14_
                                      clear n0_ n1_ n2_ n3_ n4_ n5_ n6_ n7_ n8_ n9_ n10_ n11_ n12_ n13_ n14_
                                      (try clear hb)
                                      (try clear hb2)
                                      (try clear hk)
                                      (try clear hi)
                                      refine hK.out _ _ ⟨HS0_, HS1_⟩ (fun hHeld => ?_)
                                      clear hK K
                                      refine norm_ (a' := ?_) ?_ ?_
                                      rotate_left
                                      · show Act.put _ (some 127) _ = _
                                        simp only [Act.put, List.setIfInBounds_toArray, List.set_cons_zero, List.set_cons_succ, i64_w, i32_w]
                                        rfl
                                      refine pure_ (i := 13) (N := some 114) (v := ?_) (a' := ?_) #[true, true, true, true, true, true, true, true, true, true, true, true, true, true, false, false, false, false] rfl rfl (any_of HT_.out (by kernel_rfl)) (fun _ _ _ h => h) (Or.inl ⟨by rfl, ?_⟩) ?_ ?_
                                      rotate_left
                                      · intro w'
                                        go_simp
                                        with_reducible rfl
                                      rotate_left
                                      · simp only [Act.put, List.setIfInBounds_toArray, List.set_cons_zero, List.set_cons_succ, i64_w, i32_w]
                                        rfl
                                      refine pure_ (i := 14) (N := some 128) (v := ?_) (a' := ?_) #[true, true, true, true, true, true, true, true, true, true, true, true, true, true, true, false, false, false] rfl rfl (any_of HT_.out (by kernel_rfl)) (fun _ _ _ h => h) (Or.inl ⟨by rfl, ?_⟩) ?_ ?_
                                      rotate_left
                                      · intro w'
                                        go_simp
                                        with_reducible rfl
                                      rotate_left
                                      · simp only [Act.put, List.setIfInBounds_toArray, List.set_cons_zero, List.set_cons_succ, i64_w, i32_w]
                                        rfl
                                      refine pure_ (i := 15) (N := some 129) (v := ?_) (a' := ?_) #[true, true, true, true, true, true, true, true, true, true, true, true, true, true, true, true, false, false] rfl rfl (any_of HT_.out (by kernel_rfl)) (fun _ _ _ h => h) (Or.inl ⟨by rfl, ?_⟩) ?_ ?_
                                      rotate_left
                                      · intro w'
                                        go_simp
                                        with_reducible rfl
                                      rotate_left
                                      · simp only [Act.put, List.setIfInBounds_toArray, List.set_cons_zero, List.set_cons_succ, i64_w, i32_w]
                                        rfl
                                      refine pure_ (i := 16) (N := some 20) (v := ?_) (a' := ?_) #[true, true, true, true, true, true, true, true, true, true, true, true, true, true, true, true, true, false] rfl rfl (any_of HT_.out (by kernel_rfl)) (fun _ _ _ h => h) (Or.inl ⟨by rfl, ?_⟩) ?_ ?_
                                      rotate_left
                                      · intro w'
                                        go_simp
                                        with_reducible rfl
                                      rotate_left
                                      · simp only [Act.put, List.setIfInBounds_toArray, List.set_cons_zero, List.set_cons_succ, i64_w, i32_w]
                                        rfl
                                      refine pure_ (i := 17) (N := some 21) (v := ?_) (a' := ?_) #[true, true, true, true, true, true, true, true, true, true, true, true, true, true, true, true, true, true] rfl rfl (any_of HT_.out (by kernel_rfl)) (fun _ _ _ h => h) (Or.inl ⟨by rfl, ?_⟩) ?_ ?_
                                      rotate_left
                                      · intro w'
                                        go_simp
                                        with_reducible rfl
                                      rotate_left
                                      · simp only [Act.put, List.setIfInBounds_toArray, List.set_cons_zero, List.set_cons_succ, i64_w, i32_w]
                                        rfl
                                      refine done_ (done_of HT_.out (by kernel_rfl)) ?_
                                      go_upto_region 20 with (fail)
                                      go_cut [135] (fun v135 wc => ∃ (kq : Nat) (x135_58 : Bool), v135 = .bool x135_58 ∧ Aside0 (foretellkeep_ClaimStuck.j3 kq t522 t525 t529 t534 y538 x15_2 x16_2 t545 t549 x135_58 t515 t518 = some r) ∧ Aside0 (kq ≤ kj40) ∧ Aside0 (Kd.V k51 51 wc w.heap.size (fun k_ => some k_ ≠ ((.slice (some ad541) y538.length co61) : Value).ownBlock ∧ k_ ≠ gb514 ∧ k_ ≠ gb521) (.slice Ao19 t522.length co19) t522) ∧ Aside0 (Kd.V (Kd.int .i64) 3 wc w.heap.size (fun k_ => some k_ ≠ ((.slice (some ad541) y538.length co61) : Value).ownBlock ∧ k_ ≠ gb514 ∧ k_ ≠ gb521) (.slice (some ad542) t525.length co36) t525) ∧ Aside0 (Kd.V (Kd.int .i64) 3 wc w.heap.size (fun k_ => some k_ ≠ ((.slice (some ad541) y538.length co61) : Value).ownBlock ∧ k_ ≠ gb514 ∧ k_ ≠ gb521) (.slice Ao35 t529.length co35) t529) ∧ Aside0 (Kd.N (Kd.slice 4 Kd.bool) 30 wc w.heap.size (fun k_ => k_ ≠ gb514 ∧ k_ ≠ gb521) (.slice (some ad541) y538.length co61) y538) ∧ Aside0 (Kd.N (Kd.slice 4 Kd.bool) 30 wc w.heap.size (fun k_ => some k_ ≠ ((.slice (some ad541) y538.length co61) : Value).ownBlock ∧ some k_ ≠ ((.slice Ao16 t518.length co16) : Value).ownBlock ∧ k_ ≠ gb514 ∧ k_ ≠ gb521) (.slice Ao13 t515.length co13) t515) ∧ Aside0 (Kd.N (Kd.slice 4 Kd.bool) 30 wc w.heap.size (fun k_ => some k_ ≠ ((.slice (some ad541) y538.length co61) : Value).ownBlock ∧ some k_ ≠ ((.slice Ao13 t515.length co13) : Value).ownBlock ∧ k_ ≠ gb514 ∧ k_ ≠ gb521) (.slice Ao16 t518.length co16) t518) ∧ Aside0 (wc.heap[gb514]? = some (.cells #[(.slice A1_0 l1_0.length c1_0), (.slice A1_1 l1_1.length c1_1)] 40 (0, 0))) ∧ Aside0 (wc.heap[gb521]? = some (.cells #[(.slice Ao13 t515.length co13), (.slice Ao16 t518.length co16)] 43 (0, 0))) ∧ Aside0 (Kd.C Kd.bool wc A541_0 (rd_L7 y538 x16_2).length (rd_L7 y538 x16_2)) ∧ Aside0 (Kd.C Kd.bool wc A543_0 (rd_L7 y538 x17_40).length (rd_L7 y538 x17_40)) ∧ Aside0 (Kd.C Kd.bool wc A547_0 (rd_L7 y538 x16_2).length (rd_L7 y538 x16_2)) ∧ Aside0 (Below w.heap.size w wc))
                                      case first =>
                                        have H := HC59.out
                                        clear HC59
                                        by_cases c65 : t546 = 0
                                        · rw [if_pos c65] at H
                                          have c65b0 : (t546 == 0) = true := beq_iff_eq.mpr c65
                                          have c65b1 : (t546 != 0) = false := bne_eq_false_iff_eq.mpr c65
                                          clear c65
                                          (first | rw [c65b0] | (simp only [i64_w, i32_w]; rw [c65b0]) | skip)
                                          have H' := Aside0.mk H
                                          clear H
                                          go_wp2
                                          go_meet
                                          case rel => exact ⟨_, ((t550 != 0)), (by first | rfl | (simp; done) | (simp [*]; done)), (by first | exact H' | (rw [hji49]; exact H')), ⟨by have := HJ7.out; have := HK2.out; have := HJ40.out; first | omega | exact Nat.le_refl _⟩, ⟨by (with_reducible repeat (first | apply Kd.V_alloc | apply Kd.V_drewN | apply Kd.V_drew)); exact HO_8.out⟩, ⟨by (with_reducible repeat (first | apply Kd.V_alloc | apply Kd.V_drewN | apply Kd.V_drew)); exact HO_9.out⟩, ⟨by (with_reducible repeat (first | apply Kd.V_alloc | apply Kd.V_drewN | apply Kd.V_drew)); exact HO_11.out⟩, ⟨by (with_reducible repeat (first | apply Kd.N_alloc | apply Kd.N_drewN | apply Kd.N_drew)); exact HO_14.out⟩, ⟨by (with_reducible repeat (first | apply Kd.N_alloc | apply Kd.N_drewN | apply Kd.N_drew)); exact HO_522000.out⟩, ⟨by (with_reducible repeat (first | apply Kd.N_alloc | apply Kd.N_drewN | apply Kd.N_drew)); exact HO_522001.out⟩, ⟨by (with_reducible repeat (first | refine blk_drewN ?_ _ | refine blk_drew ?_ | refine blk_alloc ?_ _)); exact BK514.out⟩, ⟨by (with_reducible repeat (first | refine blk_drewN ?_ _ | refine blk_drew ?_ | refine blk_alloc ?_ _)); exact BK521.out⟩, ⟨by repeat (first | (with_reducible exact HR541_0.out) | (with_reducible refine Kd.C_alloc ?_ _) | (with_reducible refine Kd.C_drewN ?_ _) | (with_reducible refine Kd.C_drew ?_) | exact HR541_0.out)⟩, ⟨by repeat (first | (with_reducible exact HR543_0.out) | (with_reducible refine Kd.C_alloc ?_ _) | (with_reducible refine Kd.C_drewN ?_ _) | (with_reducible refine Kd.C_drew ?_) | exact HR543_0.out)⟩, ⟨by repeat (first | (with_reducible exact HR547_0.out) | (with_reducible refine Kd.C_alloc ?_ _) | (with_reducible refine Kd.C_drewN ?_ _) | (with_reducible refine Kd.C_drew ?_) | exact HR547_0.out)⟩, ⟨by repeat (first | (with_reducible first | exact HB.out | apply below_alloc | apply pw_below_drewN | apply below_drew1 | refine below_set ?_ GE514.out | refine below_set ?_ GE521.out) | exact HB.out)⟩⟩
                                        · rw [if_neg c65] at H
                                          have c65b0 : (t546 == 0) = false := beq_eq_false_iff_ne.mpr c65
                                          have c65b1 : (t546 != 0) = true := bne_iff_ne.mpr c65
                                          (first | rw [c65b0] | (simp only [i64_w, i32_w]; rw [c65b0]) | skip)
                                          have H' := Aside0.mk H
                                          clear H
                                          go_wp2
                                          go_meet
                                          case rel => exact ⟨_, (true), (by first | rfl | (simp; done) | (simp [*]; done)), (by first | exact H' | (rw [hji49]; exact H')), ⟨by have := HJ7.out; have := HK2.out; have := HJ40.out; first | omega | exact Nat.le_refl _⟩, ⟨by (with_reducible repeat (first | apply Kd.V_alloc | apply Kd.V_drewN | apply Kd.V_drew)); exact HO_8.out⟩, ⟨by (with_reducible repeat (first | apply Kd.V_alloc | apply Kd.V_drewN | apply Kd.V_drew)); exact HO_9.out⟩, ⟨by (with_reducible repeat (first | apply Kd.V_alloc | apply Kd.V_drewN | apply Kd.V_drew)); exact HO_11.out⟩, ⟨by (with_reducible repeat (first | apply Kd.N_alloc | apply Kd.N_drewN | apply Kd.N_drew)); exact HO_14.out⟩, ⟨by (with_reducible repeat (first | apply Kd.N_alloc | apply Kd.N_drewN | apply Kd.N_drew)); exact HO_522000.out⟩, ⟨by (with_reducible repeat (first | apply Kd.N_alloc | apply Kd.N_drewN | apply Kd.N_drew)); exact HO_522001.out⟩, ⟨by (with_reducible repeat (first | refine blk_drewN ?_ _ | refine blk_drew ?_ | refine blk_alloc ?_ _)); exact BK514.out⟩, ⟨by (with_reducible repeat (first | refine blk_drewN ?_ _ | refine blk_drew ?_ | refine blk_alloc ?_ _)); exact BK521.out⟩, ⟨by repeat (first | (with_reducible exact HR541_0.out) | (with_reducible refine Kd.C_alloc ?_ _) | (with_reducible refine Kd.C_drewN ?_ _) | (with_reducible refine Kd.C_drew ?_) | exact HR541_0.out)⟩, ⟨by repeat (first | (with_reducible exact HR543_0.out) | (with_reducible refine Kd.C_alloc ?_ _) | (with_reducible refine Kd.C_drewN ?_ _) | (with_reducible refine Kd.C_drew ?_) | exact HR543_0.out)⟩, ⟨by repeat (first | (with_reducible exact HR547_0.out) | (with_reducible refine Kd.C_alloc ?_ _) | (with_reducible refine Kd.C_drewN ?_ _) | (with_reducible refine Kd.C_drew ?_) | exact HR547_0.out)⟩, ⟨by repeat (first | (with_reducible first | exact HB.out | apply below_alloc | apply pw_below_drewN | apply below_drew1 | refine below_set ?_ GE514.out | refine below_set ?_ GE521.out) | exact HB.out)⟩⟩
                                      case rest =>
                                        clear HC59
                                        try clear c1
                                        try clear c2
                                        try clear p2
                                        try clear c5
                                        try clear p5
                                        try clear q5
                                        try clear hx5
                                        try clear c6
                                        try clear c22
                                        try clear c28
                                        try clear c54
                                        try clear p54
                                        try clear q54
                                        try clear hx54
                                        try clear c65
                                        try clear c65b0
                                        try clear c65b1
                                        try clear hx541_0
                                        try clear hx542_0
                                        try clear hx543_0
                                        try clear hx544_0
                                        try clear hx547_0
                                        try clear hx548_0
                                        try clear p544
                                        try clear p547
                                        try clear p548
                                        try clear q544
                                        try clear q547
                                        try clear q548
                                        obtain ⟨kq, x135_58, rfl, HA, HJ58, HO_8, HO_9, HO_11, HO_14, HO_522000, HO_522001, BK514, BK521, HR541_0, HR543_0, HR547_0, HB⟩ := hcut
                                        cases kq with
                                        | zero => exact absurd HA.out (by simp [foretellkeep_ClaimStuck.j3])
                                        | succ kj58 =>
                                          have H := HA.out
                                          clear HA
                                          simp only [foretellkeep_ClaimStuck.j3] at H
                                          by_cases c66 : x135_58 = true
                                          · subst c66
                                            have H1 : (some false) = some r := by rw [if_pos rfl] at H; exact H
                                            clear H
                                            have H := H1
                                            clear H1
                                            exact absurd ((Option.some.inj H).trans hr_.out) (by decide)
                                          · replace c66 := Bool.eq_false_iff.mpr c66
                                            subst c66
                                            have H1 : (if t545 = true then (if x16_2 ≥ (t515.length : Int) then (foretellkeep_ClaimStuck.l0 kj58 t522 t525 t529 t534 y538 (Go.bits .or .i64 x15_2 t549) (wrap64 (x16_2 + 1)) t515 t518) else (foretellkeep_ClaimStuck.l0 kj58 t522 t525 t529 t534 y538 x15_2 (wrap64 (x16_2 + 1)) t515 t518)) else (some true)) = some r := by rw [if_neg (show ¬ (false = true) by decide)] at H; exact H
                                            clear H
                                            have H := H1
                                            clear H1
                                            by_cases c67 : t545 = true
                                            · subst c67
                                              have H1 : (if x16_2 ≥ (t515.length : Int) then (foretellkeep_ClaimStuck.l0 kj58 t522 t525 t529 t534 y538 (Go.bits .or .i64 x15_2 t549) (wrap64 (x16_2 + 1)) t515 t518) else (foretellkeep_ClaimStuck.l0 kj58 t522 t525 t529 t534 y538 x15_2 (wrap64 (x16_2 + 1)) t515 t518)) = some r := by rw [if_pos rfl] at H; exact H
                                              clear H
                                              have H := H1
                                              clear H1
                                              by_cases c68 : x16_2 ≥ (t515.length : Int)
                                              · rw [if_pos c68] at H
                                                have c68b0 : decide ((t515.length : Int) ≤ x16_2) = true := decide_eq_true c68
                                                clear c68
                                                have H' := Aside0.mk H
                                                clear H
                                                have hnb69 := NB521_514.out
                                                have hnc69 := NB514_521.out
                                                have hcz70_0 : wc.cell? ⟨gb521, 0, none⟩ = some (.slice Ao13 t515.length co13) := (blk_cell BK521.out 0).trans rfl
                                                have hcz70_1 : wc.cell? ⟨gb521, 1, none⟩ = some (.slice Ao16 t518.length co16) := (blk_cell BK521.out 1).trans rfl
                                                have hfz70_0 := blk_frozen BK521.out 0
                                                have hfz70_1 := blk_frozen BK521.out 1
                                                go_wp2
                                                go_roundg kj58
                                                case measure => have := HJ7.out; have := HK2.out; have := HJ40.out; have := HJ58.out; omega
                                                case rel => exact ⟨(Go.bits .or .i64 x15_2 t549), (wrap64 (x16_2 + 1)), (by first | rfl | (simp; done) | (simp [*]; done)), (by first | rfl | (simp; done) | (simp [*]; done)), (by first | exact H' | (rw [hji49]; exact H')), ⟨by have := HJ7.out; have := HK2.out; have := HJ40.out; have := HJ58.out; omega⟩, ⟨by (with_reducible repeat (first | apply Kd.V_alloc | apply Kd.V_drewN | apply Kd.V_drew)); exact HO_8.out⟩, ⟨by (with_reducible repeat (first | apply Kd.V_alloc | apply Kd.V_drewN | apply Kd.V_drew)); exact HO_9.out⟩, ⟨by (with_reducible repeat (first | apply Kd.V_alloc | apply Kd.V_drewN | apply Kd.V_drew)); exact HO_11.out⟩, ⟨by (with_reducible repeat (first | apply Kd.N_alloc | apply Kd.N_drewN | apply Kd.N_drew)); exact HO_14.out⟩, ⟨by (with_reducible repeat (first | apply Kd.N_alloc | apply Kd.N_drewN | apply Kd.N_drew)); exact HO_522000.out⟩, ⟨by (with_reducible repeat (first | apply Kd.N_alloc | apply Kd.N_drewN | apply Kd.N_drew)); exact HO_522001.out⟩, ⟨by (with_reducible repeat (first | refine blk_drewN ?_ _ | refine blk_drew ?_ | refine blk_alloc ?_ _)); exact BK514.out⟩, ⟨by (with_reducible repeat (first | refine blk_drewN ?_ _ | refine blk_drew ?_ | refine blk_alloc ?_ _)); exact BK521.out⟩, ⟨by repeat (first | (with_reducible first | exact HB.out | apply below_alloc | apply pw_below_drewN | apply below_drew1 | refine below_set ?_ GE514.out | refine below_set ?_ GE521.out) | exact HB.out)⟩⟩
                                              · rw [if_neg c68] at H
                                                have c68b0 : decide ((t515.length : Int) ≤ x16_2) = false := decide_eq_false c68
                                                clear c68
                                                have H' := Aside0.mk H
                                                clear H
                                                have hnb71 := NB521_514.out
                                                have hnc71 := NB514_521.out
                                                have hcz72_0 : wc.cell? ⟨gb521, 0, none⟩ = some (.slice Ao13 t515.length co13) := (blk_cell BK521.out 0).trans rfl
                                                have hcz72_1 : wc.cell? ⟨gb521, 1, none⟩ = some (.slice Ao16 t518.length co16) := (blk_cell BK521.out 1).trans rfl
                                                have hfz72_0 := blk_frozen BK521.out 0
                                                have hfz72_1 := blk_frozen BK521.out 1
                                                go_wp2
                                                go_roundg kj58
                                                case measure => have := HJ7.out; have := HK2.out; have := HJ40.out; have := HJ58.out; omega
                                                case rel => exact ⟨(x15_2), (wrap64 (x16_2 + 1)), (by first | rfl | (simp; done) | (simp [*]; done)), (by first | rfl | (simp; done) | (simp [*]; done)), (by first | exact H' | (rw [hji49]; exact H')), ⟨by have := HJ7.out; have := HK2.out; have := HJ40.out; have := HJ58.out; omega⟩, ⟨by (with_reducible repeat (first | apply Kd.V_alloc | apply Kd.V_drewN | apply Kd.V_drew)); exact HO_8.out⟩, ⟨by (with_reducible repeat (first | apply Kd.V_alloc | apply Kd.V_drewN | apply Kd.V_drew)); exact HO_9.out⟩, ⟨by (with_reducible repeat (first | apply Kd.V_alloc | apply Kd.V_drewN | apply Kd.V_drew)); exact HO_11.out⟩, ⟨by (with_reducible repeat (first | apply Kd.N_alloc | apply Kd.N_drewN | apply Kd.N_drew)); exact HO_14.out⟩, ⟨by (with_reducible repeat (first | apply Kd.N_alloc | apply Kd.N_drewN | apply Kd.N_drew)); exact HO_522000.out⟩, ⟨by (with_reducible repeat (first | apply Kd.N_alloc | apply Kd.N_drewN | apply Kd.N_drew)); exact HO_522001.out⟩, ⟨by (with_reducible repeat (first | refine blk_drewN ?_ _ | refine blk_drew ?_ | refine blk_alloc ?_ _)); exact BK514.out⟩, ⟨by (with_reducible repeat (first | refine blk_drewN ?_ _ | refine blk_drew ?_ | refine blk_alloc ?_ _)); exact BK521.out⟩, ⟨by repeat (first | (with_reducible first | exact HB.out | apply below_alloc | apply pw_below_drewN | apply below_drew1 | refine below_set ?_ GE514.out | refine below_set ?_ GE521.out) | exact HB.out)⟩⟩
                                            · replace c67 := Bool.eq_false_iff.mpr c67
                                              subst c67
                                              have H1 : (some true) = some r := by rw [if_neg (show ¬ (false = true) by decide)] at H; exact H
                                              clear H
                                              have H := H1
                                              clear H1
                                              obtain rfl := Option.some.inj H
                                              go_wp2
                                              go_ret
                                              exact ⟨by first | rfl | (simp [errW_none, errW_some] <;> rfl) | (simp only [← hji49]; first | rfl | (simp [errW_none, errW_some] <;> rfl)) | (simp [*, errW_none, errW_some] <;> rfl), by repeat (first | (with_reducible first | exact HB.out | apply below_alloc | apply pw_below_drewN | apply below_drew1 | refine below_set ?_ GE514.out | refine below_set ?_ GE521.out) | exact HB.out)⟩
                                    · rw [if_neg c52] at H
                                      exact absurd H (by simp)
                                  · rw [if_neg c51] at H
                                    exact absurd H (by simp)
                                · rw [if_neg c50] at H
                                  exact absurd H (by simp)
                              · rw [if_neg c48] at H
                                exact absurd H (by simp)
                            · rw [if_neg c47] at H
                              exact absurd H (by simp)
                          · rw [if_neg c46] at H
                            exact absurd H (by simp)
                        · rw [if_neg c45] at H
                          exact absurd H (by simp)
                  · rw [if_neg c40] at H
                    have c40b0 : decide (x16_2 < (t525.length : Int)) = false := decide_eq_false c40
                    clear c40
                    obtain ⟨ji73, hji73⟩ : ∃ j_ : Int, (shl .i64 1 (t529.length : Int)) = j_ := ⟨_, rfl⟩
                    replace H : (some (x15_2 != (wrap64 ((ji73) - 1)))) = some r := by first | (rw [hji73] at H; exact H) | (simp only [hji73] at H ⊢; exact H)
                    have hji73_ : (IntKind.i64.wrap (1 * 2 ^ min (t529.length : Int).toNat 64)) = ji73 := hji73
                    have hji73z : (t529.length : Int) ≤ 64 → (IntKind.i64.wrap (1 * 2 ^ (t529.length : Int).toNat)) = ji73 := shl_small hji73
                    have hji73p : (IntKind.i64.wrap (1 * 2 ^ min t529.length 64)) = ji73 := hji73_
                    have hji73q : (t529.length : Int) ≤ 64 → (IntKind.i64.wrap (1 * 2 ^ t529.length)) = ji73 := hji73z
                    have hji73r : (IntKind.i64.wrap (2 ^ min t529.length 64)) = ji73 := by have h_ := hji73p; rw [Int.one_mul] at h_; exact h_
                    have hji73s : (t529.length : Int) ≤ 64 → (IntKind.i64.wrap (2 ^ t529.length)) = ji73 := fun hle_ => by have h_ := hji73q hle_; rw [Int.one_mul] at h_; exact h_
                    have hji73u : (IntKind.i64.wrap (2 ^ min (t529.length : Int).toNat 64)) = ji73 := by have h_ := hji73_; rw [Int.one_mul] at h_; exact h_
                    have hji73v : (t529.length : Int) ≤ 64 → (IntKind.i64.wrap (2 ^ (t529.length : Int).toNat)) = ji73 := fun hle_ => by have h_ := hji73z hle_; rw [Int.one_mul] at h_; exact h_
                    have hji73y : (wrap64 (1 * 2 ^ min (t529.length : Int).toNat 64)) = ji73 := (i64_w _).symm.trans hji73_
                    have hji73x : (t529.length : Int) ≤ 64 → (wrap64 (1 * 2 ^ (t529.length : Int).toNat)) = ji73 := fun h_ => (i64_w _).symm.trans (hji73z h_)
                    obtain rfl := Option.some.inj H
                    go_wp2
                    go_ret
                    exact ⟨by first | rfl | (simp [errW_none, errW_some] <;> rfl) | (simp only [← hji73]; first | rfl | (simp [errW_none, errW_some] <;> rfl)) | (simp [*, errW_none, errW_some] <;> rfl), by repeat (first | (with_reducible first | exact HB.out | apply below_alloc | apply pw_below_drewN | apply below_drew1 | refine below_set ?_ GE514.out | refine below_set ?_ GE521.out) | exact HB.out)⟩
            · rw [if_neg c34] at H
              exact absurd H (by simp)
          · rw [if_neg c33] at H
            exact absurd H (by simp)

end Go.Proofs.YtcoaeefmmnohkaaDoor.P
