-- a walk, laid out by a program of this repo over the seat's translation
import Derived.Test.YtcoaeefmmnohkaaDoorF0
import Derived.Test.YtcoaeefmmnohkaaDoorFForm
import Derived.Test.YtcoaeefmmnohkaaDoorFSpell
import Derived.Test.YtcoaeefmmnohkaaDoorFOpen
namespace Go.Proofs.YtcoaeefmmnohkaaDoor.P
open Go.RowKit Go.Proofs.YtcoaeefmmnohkaaDoorW.PrintWords Go.Proofs.YtcoaeefmmnohkaaDoorW.PrintLast Go.Proofs.YtcoaeefmmnohkaaDoorW.PrintMore Go.Proofs.YtcoaeefmmnohkaaDoor.G
attribute [local go_sem] max2_int min2_int max_two min_two max_three min_three max_four min_four   -- for this text's walks alone
set_option linter.unusedVariables false
set_option linter.unusedSimpArgs false

/-! ### foretellkeep_WordLoop: function 6 -/
mutual
def foretellkeep_WordLoop.j0 : Nat → List Bool → List Bool → List Bool → Bool → List (List Bool) → List (List Bool) → Option (Bool)
  | 0, _, _, _, _, _, _ => none
  | k + 1, x7, x9, x11, x78, x405000, x405001 => if x78 = true then (some false) else (foretellkeep_WordLoop.l0 k x7 x9 x11 0 x405000 x405001)
def foretellkeep_WordLoop.l0 : Nat → List Bool → List Bool → List Bool → Int → List (List Bool) → List (List Bool) → Option (Bool)
  | 0, _, _, _, _, _, _ => none
  | k + 1, x7, x9, x11, x13, x405000, x405001 => if x13 < (x7.length : Int) then (foretellkeep_WordLoop.l1 k x7 x9 x11 x13 false true (mn x13 (x405000.length : Int)) x405000 x405001) else (some true)
def foretellkeep_WordLoop.l1 : Nat → List Bool → List Bool → List Bool → Int → Bool → Bool → Int → List (List Bool) → List (List Bool) → Option (Bool)
  | 0, _, _, _, _, _, _, _, _, _ => none
  | k + 1, x7, x9, x11, x13, x14, x15, x16, x405000, x405001 => if x16 < (x7.length : Int) then (if x14 = true then (if x15 = true then (if 0 ≤ x16 then (foretellkeep_WordLoop.l1 k x7 x9 x11 x13 true (rdOf false x7 x16) (wrap64 (x16 + 1)) x405000 x405001) else (none)) else (foretellkeep_WordLoop.l1 k x7 x9 x11 x13 true false (wrap64 (x16 + 1)) x405000 x405001)) else (if 0 ≤ x16 then (if x15 = true then (foretellkeep_WordLoop.l1 k x7 x9 x11 x13 (rdOf false x7 x16) (rdOf false x7 x16) (wrap64 (x16 + 1)) x405000 x405001) else (foretellkeep_WordLoop.l1 k x7 x9 x11 x13 (rdOf false x7 x16) false (wrap64 (x16 + 1)) x405000 x405001)) else (none))) else (if 0 ≤ x13 then (if x13 < (x9.length : Int) then (if ((rdOf false x9 x13) != x14) = true then (some false) else (if x13 < (x11.length : Int) then (if ((rdOf false x11 x13) != x15) = true then (some false) else (foretellkeep_WordLoop.l0 k x7 x9 x11 (wrap64 (x13 + 1)) x405000 x405001)) else (none))) else (none)) else (none))
end
def foretellkeep_WordLoop.f (k : Nat) (l0 : List (S79)) (l1_0 : List Int) (l1_1 : List Int) : Option (Bool) := (foretellkeep_Word.f k l1_0 l1_1).bind fun bt398 => ((foretellkeep_Formula.f k l0 3 2).bind fun t405 => ((word_Moments.f k t405 bt398.1 bt398.2 3).bind fun bt408 => ((foretellkeep_joined.f k 17 (([t405] : List (List (S51))))).bind fun t415 => ((word_Moments.f k t415 bt398.1 bt398.2 3).bind fun bt418 => ((foretellkeep_joined.f k 18 (([t405] : List (List (S51))))).bind fun t425 => ((word_Moments.f k t425 bt398.1 bt398.2 3).bind fun bt428 => (if bt408.2 = 0 then (if bt418.2 = 0 then (if bt428.2 = 0 then (if (bt408.1.length : Int) = (wrap64 ((bt398.1.length : Int) + (bt398.2.length : Int))) then (if (bt418.1.length : Int) = (bt408.1.length : Int) then (foretellkeep_WordLoop.j0 k bt408.1 bt418.1 bt428.1 ((bt428.1.length : Int) != (bt408.1.length : Int)) bt398.1 bt398.2) else (foretellkeep_WordLoop.j0 k bt408.1 bt418.1 bt428.1 true bt398.1 bt398.2)) else (foretellkeep_WordLoop.j0 k bt408.1 bt418.1 bt428.1 true bt398.1 bt398.2)) else (foretellkeep_WordLoop.j0 k bt408.1 bt418.1 bt428.1 true bt398.1 bt398.2)) else (foretellkeep_WordLoop.j0 k bt408.1 bt418.1 bt428.1 true bt398.1 bt398.2)) else (foretellkeep_WordLoop.j0 k bt408.1 bt418.1 bt428.1 true bt398.1 bt398.2))))))))
theorem foretellkeep_WordLoop.mono_l : ∀ k, (∀ y0 y1 y2 y3 y4 y5, LeO (foretellkeep_WordLoop.j0 k y0 y1 y2 y3 y4 y5) (foretellkeep_WordLoop.j0 (k + 1) y0 y1 y2 y3 y4 y5)) ∧ (∀ y0 y1 y2 y3 y4 y5, LeO (foretellkeep_WordLoop.l0 k y0 y1 y2 y3 y4 y5) (foretellkeep_WordLoop.l0 (k + 1) y0 y1 y2 y3 y4 y5)) ∧ (∀ y0 y1 y2 y3 y4 y5 y6 y7 y8, LeO (foretellkeep_WordLoop.l1 k y0 y1 y2 y3 y4 y5 y6 y7 y8) (foretellkeep_WordLoop.l1 (k + 1) y0 y1 y2 y3 y4 y5 y6 y7 y8))
  | 0 => ⟨fun _ _ _ _ _ _ r h => by simp [foretellkeep_WordLoop.j0] at h, fun _ _ _ _ _ _ r h => by simp [foretellkeep_WordLoop.l0] at h, fun _ _ _ _ _ _ _ _ _ r h => by simp [foretellkeep_WordLoop.l1] at h⟩
  | k + 1 => by
    obtain ⟨ih0, ih1, ih2⟩ := foretellkeep_WordLoop.mono_l k
    refine ⟨?_, ?_, ?_⟩
    · intro y0 y1 y2 y3 y4 y5
      unfold foretellkeep_WordLoop.j0
      repeat' first
      | (with_reducible exact ih0 _ _ _ _ _ _)
      | (with_reducible exact ih1 _ _ _ _ _ _)
      | (with_reducible exact ih2 _ _ _ _ _ _ _ _ _)
      | (with_reducible exact foretellkeep_Formula.mono _ _ _ _)
      | (with_reducible exact foretellkeep_Word.mono _ _ _)
      | (with_reducible exact foretellkeep_joined.mono _ _ _)
      | (with_reducible exact word_Moments.mono _ _ _ _ _)
      | (with_reducible exact LeO.refl _)
      | (with_reducible exact LeO.none _)
      | (with_reducible refine LeO.ite ?_ ?_)
      | (with_reducible refine LeO.bind ?_ (fun _ => ?_))
      | exact ih0 _ _ _ _ _ _
      | exact ih1 _ _ _ _ _ _
      | exact ih2 _ _ _ _ _ _ _ _ _
      | exact foretellkeep_Formula.mono _ _ _ _
      | exact foretellkeep_Word.mono _ _ _
      | exact foretellkeep_joined.mono _ _ _
      | exact word_Moments.mono _ _ _ _ _
      | exact LeO.none _
      | refine LeO.ite ?_ ?_
      | refine LeO.bind ?_ (fun _ => ?_)
    · intro y0 y1 y2 y3 y4 y5
      unfold foretellkeep_WordLoop.l0
      repeat' first
      | (with_reducible exact ih0 _ _ _ _ _ _)
      | (with_reducible exact ih1 _ _ _ _ _ _)
      | (with_reducible exact ih2 _ _ _ _ _ _ _ _ _)
      | (with_reducible exact foretellkeep_Formula.mono _ _ _ _)
      | (with_reducible exact foretellkeep_Word.mono _ _ _)
      | (with_reducible exact foretellkeep_joined.mono _ _ _)
      | (with_reducible exact word_Moments.mono _ _ _ _ _)
      | (with_reducible exact LeO.refl _)
      | (with_reducible exact LeO.none _)
      | (with_reducible refine LeO.ite ?_ ?_)
      | (with_reducible refine LeO.bind ?_ (fun _ => ?_))
      | exact ih0 _ _ _ _ _ _
      | exact ih1 _ _ _ _ _ _
      | exact ih2 _ _ _ _ _ _ _ _ _
      | exact foretellkeep_Formula.mono _ _ _ _
      | exact foretellkeep_Word.mono _ _ _
      | exact foretellkeep_joined.mono _ _ _
      | exact word_Moments.mono _ _ _ _ _
      | exact LeO.none _
      | refine LeO.ite ?_ ?_
      | refine LeO.bind ?_ (fun _ => ?_)
    · intro y0 y1 y2 y3 y4 y5 y6 y7 y8
      unfold foretellkeep_WordLoop.l1
      repeat' first
      | (with_reducible exact ih0 _ _ _ _ _ _)
      | (with_reducible exact ih1 _ _ _ _ _ _)
      | (with_reducible exact ih2 _ _ _ _ _ _ _ _ _)
      | (with_reducible exact foretellkeep_Formula.mono _ _ _ _)
      | (with_reducible exact foretellkeep_Word.mono _ _ _)
      | (with_reducible exact foretellkeep_joined.mono _ _ _)
      | (with_reducible exact word_Moments.mono _ _ _ _ _)
      | (with_reducible exact LeO.refl _)
      | (with_reducible exact LeO.none _)
      | (with_reducible refine LeO.ite ?_ ?_)
      | (with_reducible refine LeO.bind ?_ (fun _ => ?_))
      | exact ih0 _ _ _ _ _ _
      | exact ih1 _ _ _ _ _ _
      | exact ih2 _ _ _ _ _ _ _ _ _
      | exact foretellkeep_Formula.mono _ _ _ _
      | exact foretellkeep_Word.mono _ _ _
      | exact foretellkeep_joined.mono _ _ _
      | exact word_Moments.mono _ _ _ _ _
      | exact LeO.none _
      | refine LeO.ite ?_ ?_
      | refine LeO.bind ?_ (fun _ => ?_)
theorem foretellkeep_WordLoop.mono : ∀ a0 a1 a2 k, LeO (foretellkeep_WordLoop.f k a0 a1 a2) (foretellkeep_WordLoop.f (k + 1) a0 a1 a2) := by
  intro a0 a1 a2 k
  obtain ⟨ih0, ih1, ih2⟩ := foretellkeep_WordLoop.mono_l k
  unfold foretellkeep_WordLoop.f
  repeat' first
      | (with_reducible exact ih0 _ _ _ _ _ _)
      | (with_reducible exact ih1 _ _ _ _ _ _)
      | (with_reducible exact ih2 _ _ _ _ _ _ _ _ _)
      | (with_reducible exact foretellkeep_Formula.mono _ _ _ _)
      | (with_reducible exact foretellkeep_Word.mono _ _ _)
      | (with_reducible exact foretellkeep_joined.mono _ _ _)
      | (with_reducible exact word_Moments.mono _ _ _ _ _)
      | (with_reducible exact LeO.refl _)
      | (with_reducible exact LeO.none _)
      | (with_reducible refine LeO.ite ?_ ?_)
      | (with_reducible refine LeO.bind ?_ (fun _ => ?_))
      | exact ih0 _ _ _ _ _ _
      | exact ih1 _ _ _ _ _ _
      | exact ih2 _ _ _ _ _ _ _ _ _
      | exact foretellkeep_Formula.mono _ _ _ _
      | exact foretellkeep_Word.mono _ _ _
      | exact foretellkeep_joined.mono _ _ _
      | exact word_Moments.mono _ _ _ _ _
      | exact LeO.none _
      | refine LeO.ite ?_ ?_
      | refine LeO.bind ?_ (fun _ => ?_)
def foretellkeep_WordLoop.T4 : Bool × List (List Nat × List Nat) := (true, [([], []), ([0], [0]), ([1], [1]), ([], []), ([2, 3, 2], [2, 3]), ([4], [4]), ([5], [5]), ([5], [5]), ([6, 4, 0, 1, 2, 3, 4, 5, 6], [6]), ([7, 8, 0, 1, 2, 3, 4, 5, 6, 7, 8], [7])])
def foretellkeep_WordLoop.B4 : List Nat := [0, 1, 3, 0, 15, 31, 63, 63, 127, 511]
theorem foretellkeep_WordLoop.tab4 : rtab .any (opsOf Tryd.f6 4) = foretellkeep_WordLoop.T4 := by kernel_rfl
theorem foretellkeep_WordLoop.bits4 : waitsOk foretellkeep_WordLoop.T4.2 foretellkeep_WordLoop.B4 = true := by kernel_rfl
def foretellkeep_WordLoop.T5 : Bool × List (List Nat × List Nat) := (true, [([], []), ([0], [0]), ([1], [1]), ([], []), ([2, 3, 2], [2, 3]), ([4], [4]), ([5], [5]), ([5], [5]), ([6, 4, 0, 1, 2, 3, 4, 5, 6], [6]), ([7, 8, 0, 1, 2, 3, 4, 5, 6, 7, 8], [7])])
def foretellkeep_WordLoop.B5 : List Nat := [0, 1, 3, 0, 15, 31, 63, 63, 127, 511]
theorem foretellkeep_WordLoop.tab5 : rtab .any (opsOf Tryd.f6 5) = foretellkeep_WordLoop.T5 := by kernel_rfl
theorem foretellkeep_WordLoop.bits5 : waitsOk foretellkeep_WordLoop.T5.2 foretellkeep_WordLoop.B5 = true := by kernel_rfl
set_option maxHeartbeats 8000000 in
set_option maxRecDepth 100000 in
theorem foretellkeep_WordLoop.calls (k : Nat) (A0 : Option Addr) (c0 : Nat) (l0 : List (S79)) (A1_0 : Option Addr) (c1_0 : Nat) (l1_0 : List Int) (A1_1 : Option Addr) (c1_1 : Nat) (l1_1 : List Int) (r : Bool) (w : World) (hr0 : Kd.C k79 w A0 l0.length l0) (hc0 : l0.length ≤ c0) (hr1_0 : Kd.C (Kd.int .i64) w A1_0 l1_0.length l1_0) (hc1_0 : l1_0.length ≤ c1_0) (hr1_1 : Kd.C (Kd.int .i64) w A1_1 l1_1.length l1_1) (hc1_1 : l1_1.length ≤ c1_1) (hG_ : Glob w) (hr_ : Aside0 (r = true)) (h : foretellkeep_WordLoop.f k l0 l1_0 l1_1 = some r) :
    Calls Tryd.prog 6 #[.slice A0 l0.length c0, .agg #[.slice A1_0 l1_0.length c1_0, .slice A1_1 l1_1.length c1_1]] w fun e w' => e = .returned (.bool r) ∧ Below w.heap.size w w' := by
  have hu40 := Tryd.underlying40
  have hu43 := Tryd.underlying43
  have HR0 := Aside0.mk hr0
  have HC0 := Aside0.mk hc0
  clear hr0 hc0
  have HR1_0 := Aside0.mk hr1_0
  have HC1_0 := Aside0.mk hc1_0
  clear hr1_0 hc1_0
  have HR1_1 := Aside0.mk hr1_1
  have HC1_1 := Aside0.mk hc1_1
  clear hr1_1 hc1_1
  have HB := Aside0.mk (Below.refl w.heap.size w)
  have H : ((foretellkeep_Word.f k l1_0 l1_1).bind fun bt398 => ((foretellkeep_Formula.f k l0 3 2).bind fun t405 => ((word_Moments.f k t405 bt398.1 bt398.2 3).bind fun bt408 => ((foretellkeep_joined.f k 17 (([t405] : List (List (S51))))).bind fun t415 => ((word_Moments.f k t415 bt398.1 bt398.2 3).bind fun bt418 => ((foretellkeep_joined.f k 18 (([t405] : List (List (S51))))).bind fun t425 => ((word_Moments.f k t425 bt398.1 bt398.2 3).bind fun bt428 => (if bt408.2 = 0 then (if bt418.2 = 0 then (if bt428.2 = 0 then (if (bt408.1.length : Int) = (wrap64 ((bt398.1.length : Int) + (bt398.2.length : Int))) then (if (bt418.1.length : Int) = (bt408.1.length : Int) then (foretellkeep_WordLoop.j0 k bt408.1 bt418.1 bt428.1 ((bt428.1.length : Int) != (bt408.1.length : Int)) bt398.1 bt398.2) else (foretellkeep_WordLoop.j0 k bt408.1 bt418.1 bt428.1 true bt398.1 bt398.2)) else (foretellkeep_WordLoop.j0 k bt408.1 bt418.1 bt428.1 true bt398.1 bt398.2)) else (foretellkeep_WordLoop.j0 k bt408.1 bt418.1 bt428.1 true bt398.1 bt398.2)) else (foretellkeep_WordLoop.j0 k bt408.1 bt418.1 bt428.1 true bt398.1 bt398.2)) else (foretellkeep_WordLoop.j0 k bt408.1 bt418.1 bt428.1 true bt398.1 bt398.2))))))))) = some r := h
  clear h
  replace H := Option.bind_eq_some_iff.mp H
  obtain ⟨⟨t398, t401⟩, A30, H⟩ := H
  replace H : ((foretellkeep_Formula.f k l0 3 2).bind fun t405 => ((word_Moments.f k t405 t398 t401 3).bind fun bt408 => ((foretellkeep_joined.f k 17 (([t405] : List (List (S51))))).bind fun t415 => ((word_Moments.f k t415 t398 t401 3).bind fun bt418 => ((foretellkeep_joined.f k 18 (([t405] : List (List (S51))))).bind fun t425 => ((word_Moments.f k t425 t398 t401 3).bind fun bt428 => (if bt408.2 = 0 then (if bt418.2 = 0 then (if bt428.2 = 0 then (if (bt408.1.length : Int) = (wrap64 ((t398.length : Int) + (t401.length : Int))) then (if (bt418.1.length : Int) = (bt408.1.length : Int) then (foretellkeep_WordLoop.j0 k bt408.1 bt418.1 bt428.1 ((bt428.1.length : Int) != (bt408.1.length : Int)) t398 t401) else (foretellkeep_WordLoop.j0 k bt408.1 bt418.1 bt428.1 true t398 t401)) else (foretellkeep_WordLoop.j0 k bt408.1 bt418.1 bt428.1 true t398 t401)) else (foretellkeep_WordLoop.j0 k bt408.1 bt418.1 bt428.1 true t398 t401)) else (foretellkeep_WordLoop.j0 k bt408.1 bt418.1 bt428.1 true t398 t401)) else (foretellkeep_WordLoop.j0 k bt408.1 bt418.1 bt428.1 true t398 t401)))))))) = some r := H
  have A3 := Aside0.mk A30
  clear A30
  replace H := Option.bind_eq_some_iff.mp H
  obtain ⟨t405, A40, H⟩ := H
  replace H : ((word_Moments.f k t405 t398 t401 3).bind fun bt408 => ((foretellkeep_joined.f k 17 (([t405] : List (List (S51))))).bind fun t415 => ((word_Moments.f k t415 t398 t401 3).bind fun bt418 => ((foretellkeep_joined.f k 18 (([t405] : List (List (S51))))).bind fun t425 => ((word_Moments.f k t425 t398 t401 3).bind fun bt428 => (if bt408.2 = 0 then (if bt418.2 = 0 then (if bt428.2 = 0 then (if (bt408.1.length : Int) = (wrap64 ((t398.length : Int) + (t401.length : Int))) then (if (bt418.1.length : Int) = (bt408.1.length : Int) then (foretellkeep_WordLoop.j0 k bt408.1 bt418.1 bt428.1 ((bt428.1.length : Int) != (bt408.1.length : Int)) t398 t401) else (foretellkeep_WordLoop.j0 k bt408.1 bt418.1 bt428.1 true t398 t401)) else (foretellkeep_WordLoop.j0 k bt408.1 bt418.1 bt428.1 true t398 t401)) else (foretellkeep_WordLoop.j0 k bt408.1 bt418.1 bt428.1 true t398 t401)) else (foretellkeep_WordLoop.j0 k bt408.1 bt418.1 bt428.1 true t398 t401)) else (foretellkeep_WordLoop.j0 k bt408.1 bt418.1 bt428.1 true t398 t401))))))) = some r := H
  have A4 := Aside0.mk A40
  clear A40
  replace H := Option.bind_eq_some_iff.mp H
  obtain ⟨⟨t408, t411⟩, A50, H⟩ := H
  replace H : ((foretellkeep_joined.f k 17 (([t405] : List (List (S51))))).bind fun t415 => ((word_Moments.f k t415 t398 t401 3).bind fun bt418 => ((foretellkeep_joined.f k 18 (([t405] : List (List (S51))))).bind fun t425 => ((word_Moments.f k t425 t398 t401 3).bind fun bt428 => (if t411 = 0 then (if bt418.2 = 0 then (if bt428.2 = 0 then (if (t408.length : Int) = (wrap64 ((t398.length : Int) + (t401.length : Int))) then (if (bt418.1.length : Int) = (t408.length : Int) then (foretellkeep_WordLoop.j0 k t408 bt418.1 bt428.1 ((bt428.1.length : Int) != (t408.length : Int)) t398 t401) else (foretellkeep_WordLoop.j0 k t408 bt418.1 bt428.1 true t398 t401)) else (foretellkeep_WordLoop.j0 k t408 bt418.1 bt428.1 true t398 t401)) else (foretellkeep_WordLoop.j0 k t408 bt418.1 bt428.1 true t398 t401)) else (foretellkeep_WordLoop.j0 k t408 bt418.1 bt428.1 true t398 t401)) else (foretellkeep_WordLoop.j0 k t408 bt418.1 bt428.1 true t398 t401)))))) = some r := H
  have A5 := Aside0.mk A50
  clear A50
  obtain ⟨y412, hy412⟩ : ∃ y_ : List (List (S51)), y_ = (([t405] : List (List (S51)))) := ⟨_, rfl⟩
  replace H : ((foretellkeep_joined.f k 17 y412).bind fun t415 => ((word_Moments.f k t415 t398 t401 3).bind fun bt418 => ((foretellkeep_joined.f k 18 (([t405] : List (List (S51))))).bind fun t425 => ((word_Moments.f k t425 t398 t401 3).bind fun bt428 => (if t411 = 0 then (if bt418.2 = 0 then (if bt428.2 = 0 then (if (t408.length : Int) = (wrap64 ((t398.length : Int) + (t401.length : Int))) then (if (bt418.1.length : Int) = (t408.length : Int) then (foretellkeep_WordLoop.j0 k t408 bt418.1 bt428.1 ((bt428.1.length : Int) != (t408.length : Int)) t398 t401) else (foretellkeep_WordLoop.j0 k t408 bt418.1 bt428.1 true t398 t401)) else (foretellkeep_WordLoop.j0 k t408 bt418.1 bt428.1 true t398 t401)) else (foretellkeep_WordLoop.j0 k t408 bt418.1 bt428.1 true t398 t401)) else (foretellkeep_WordLoop.j0 k t408 bt418.1 bt428.1 true t398 t401)) else (foretellkeep_WordLoop.j0 k t408 bt418.1 bt428.1 true t398 t401)))))) = some r := by first | (rw [hy412]; with_reducible exact H) | (have H2_ := (Option.bind_some _ _).symm.trans H; rw [hy412]; with_reducible exact H2_) | (have H2_ := (Option.bind_some _ _).symm.trans H; with_reducible exact H2_) | with_reducible exact H | (rw [hy412]; exact H) | exact H
  have Ny412 := Aside0.mk hy412
  clear hy412
  replace H := Option.bind_eq_some_iff.mp H
  obtain ⟨t415, A60, H⟩ := H
  replace H : ((word_Moments.f k t415 t398 t401 3).bind fun bt418 => ((foretellkeep_joined.f k 18 (([t405] : List (List (S51))))).bind fun t425 => ((word_Moments.f k t425 t398 t401 3).bind fun bt428 => (if t411 = 0 then (if bt418.2 = 0 then (if bt428.2 = 0 then (if (t408.length : Int) = (wrap64 ((t398.length : Int) + (t401.length : Int))) then (if (bt418.1.length : Int) = (t408.length : Int) then (foretellkeep_WordLoop.j0 k t408 bt418.1 bt428.1 ((bt428.1.length : Int) != (t408.length : Int)) t398 t401) else (foretellkeep_WordLoop.j0 k t408 bt418.1 bt428.1 true t398 t401)) else (foretellkeep_WordLoop.j0 k t408 bt418.1 bt428.1 true t398 t401)) else (foretellkeep_WordLoop.j0 k t408 bt418.1 bt428.1 true t398 t401)) else (foretellkeep_WordLoop.j0 k t408 bt418.1 bt428.1 true t398 t401)) else (foretellkeep_WordLoop.j0 k t408 bt418.1 bt428.1 true t398 t401))))) = some r := H
  have A6 := Aside0.mk A60
  clear A60
  replace H := Option.bind_eq_some_iff.mp H
  obtain ⟨⟨t418, t421⟩, A70, H⟩ := H
  replace H : ((foretellkeep_joined.f k 18 (([t405] : List (List (S51))))).bind fun t425 => ((word_Moments.f k t425 t398 t401 3).bind fun bt428 => (if t411 = 0 then (if t421 = 0 then (if bt428.2 = 0 then (if (t408.length : Int) = (wrap64 ((t398.length : Int) + (t401.length : Int))) then (if (t418.length : Int) = (t408.length : Int) then (foretellkeep_WordLoop.j0 k t408 t418 bt428.1 ((bt428.1.length : Int) != (t408.length : Int)) t398 t401) else (foretellkeep_WordLoop.j0 k t408 t418 bt428.1 true t398 t401)) else (foretellkeep_WordLoop.j0 k t408 t418 bt428.1 true t398 t401)) else (foretellkeep_WordLoop.j0 k t408 t418 bt428.1 true t398 t401)) else (foretellkeep_WordLoop.j0 k t408 t418 bt428.1 true t398 t401)) else (foretellkeep_WordLoop.j0 k t408 t418 bt428.1 true t398 t401)))) = some r := H
  have A7 := Aside0.mk A70
  clear A70
  obtain ⟨y422, hy422⟩ : ∃ y_ : List (List (S51)), y_ = (([t405] : List (List (S51)))) := ⟨_, rfl⟩
  replace H : ((foretellkeep_joined.f k 18 y422).bind fun t425 => ((word_Moments.f k t425 t398 t401 3).bind fun bt428 => (if t411 = 0 then (if t421 = 0 then (if bt428.2 = 0 then (if (t408.length : Int) = (wrap64 ((t398.length : Int) + (t401.length : Int))) then (if (t418.length : Int) = (t408.length : Int) then (foretellkeep_WordLoop.j0 k t408 t418 bt428.1 ((bt428.1.length : Int) != (t408.length : Int)) t398 t401) else (foretellkeep_WordLoop.j0 k t408 t418 bt428.1 true t398 t401)) else (foretellkeep_WordLoop.j0 k t408 t418 bt428.1 true t398 t401)) else (foretellkeep_WordLoop.j0 k t408 t418 bt428.1 true t398 t401)) else (foretellkeep_WordLoop.j0 k t408 t418 bt428.1 true t398 t401)) else (foretellkeep_WordLoop.j0 k t408 t418 bt428.1 true t398 t401)))) = some r := by first | (rw [hy422]; with_reducible exact H) | (have H2_ := (Option.bind_some _ _).symm.trans H; rw [hy422]; with_reducible exact H2_) | (have H2_ := (Option.bind_some _ _).symm.trans H; with_reducible exact H2_) | with_reducible exact H | (rw [hy422]; exact H) | exact H
  have Ny422 := Aside0.mk hy422
  clear hy422
  replace H := Option.bind_eq_some_iff.mp H
  obtain ⟨t425, A80, H⟩ := H
  replace H : ((word_Moments.f k t425 t398 t401 3).bind fun bt428 => (if t411 = 0 then (if t421 = 0 then (if bt428.2 = 0 then (if (t408.length : Int) = (wrap64 ((t398.length : Int) + (t401.length : Int))) then (if (t418.length : Int) = (t408.length : Int) then (foretellkeep_WordLoop.j0 k t408 t418 bt428.1 ((bt428.1.length : Int) != (t408.length : Int)) t398 t401) else (foretellkeep_WordLoop.j0 k t408 t418 bt428.1 true t398 t401)) else (foretellkeep_WordLoop.j0 k t408 t418 bt428.1 true t398 t401)) else (foretellkeep_WordLoop.j0 k t408 t418 bt428.1 true t398 t401)) else (foretellkeep_WordLoop.j0 k t408 t418 bt428.1 true t398 t401)) else (foretellkeep_WordLoop.j0 k t408 t418 bt428.1 true t398 t401))) = some r := H
  have A8 := Aside0.mk A80
  clear A80
  replace H := Option.bind_eq_some_iff.mp H
  obtain ⟨⟨t428, t431⟩, A90, H⟩ := H
  replace H : (if t411 = 0 then (if t421 = 0 then (if t431 = 0 then (if (t408.length : Int) = (wrap64 ((t398.length : Int) + (t401.length : Int))) then (if (t418.length : Int) = (t408.length : Int) then (foretellkeep_WordLoop.j0 k t408 t418 t428 ((t428.length : Int) != (t408.length : Int)) t398 t401) else (foretellkeep_WordLoop.j0 k t408 t418 t428 true t398 t401)) else (foretellkeep_WordLoop.j0 k t408 t418 t428 true t398 t401)) else (foretellkeep_WordLoop.j0 k t408 t418 t428 true t398 t401)) else (foretellkeep_WordLoop.j0 k t408 t418 t428 true t398 t401)) else (foretellkeep_WordLoop.j0 k t408 t418 t428 true t398 t401)) = some r := H
  have A9 := Aside0.mk A90
  clear A90
  have HC10 := Aside0.mk H
  clear H
  go_enter Tryd.func6, Tryd.ntmps6
  try go_wp2_with (first | ((with_reducible refine gate_dst (N := 3) rfl ?_); (try (refine gate_guard (by rfl) ?_; dsimp only)); refine box_event ?hg (N := 3) ?hd (cs := #[.slice A1_0 l1_0.length c1_0, .slice A1_1 l1_1.length c1_1]) (t := 40) ?hr ?_; (case hd => rfl); (case hg => rfl); (case hr => first | (go_simp; done) | (go_simp; rfl)); intro gb397 hg w11 hbox hb; have n0_ := Aside0.mk (below_step (by repeat (first | (with_reducible first | exact HB.out | apply below_alloc | apply pw_below_drewN | apply below_drew1) | exact HB.out)) hb); have n1_ := Aside0.mk (hbox); have n2_ := Aside0.mk ((by rw [hg]; exact (below_size (by repeat (first | (with_reducible first | exact HB.out | apply below_alloc | apply pw_below_drewN | apply below_drew1) | exact HB.out))) : w.heap.size ≤ gb397)); have n3_ := Aside0.mk ((by rw [hg]; exact (below_size (by repeat (first | (with_reducible first | exact HB.out | apply below_alloc | apply pw_below_drewN | apply below_drew1) | exact HB.out))) : w.heap.size ≤ gb397)); clear HB; have HB := n0_; have BK397 := n1_; have GW397 := n2_; have GE397 := n3_; clear n0_ n1_ n2_ n3_; clear hb hbox hg; have hcz12_0 : w11.cell? ⟨gb397, 0, none⟩ = some (.slice A1_0 l1_0.length c1_0) := (blk_cell BK397.out 0).trans rfl; have hcz12_1 : w11.cell? ⟨gb397, 1, none⟩ = some (.slice A1_1 l1_1.length c1_1) := (blk_cell BK397.out 1).trans rfl; have hfz12_0 := blk_frozen BK397.out 0; have hfz12_1 := blk_frozen BK397.out 1) | ((with_reducible refine gate_callee (f := 23) rfl ?_); refine goesL_ (some 18) rfl rfl Tryd.func23 (by kernel_rfl) rfl #[.agg #[.slice A1_0 l1_0.length c1_0, .slice A1_1 l1_1.length c1_1]] rfl (by (try simp only [List.map_toArray, List.map_cons, List.map_nil]); first | done | rfl | (simp only [List.length_drop, List.length_take]; rfl)) ?_; (with_reducible refine (foretellkeep_Word.calls k _ _ l1_0 _ _ l1_1 t398 t401 _ ?side1 ?side2 ?side3 ?side4 A3.out).mono ?_); (case side1 => repeat (first | exact (Kd.C_below HR1_0.out HB.out) | (with_reducible refine Kd.C_alloc ?_ _) | (with_reducible refine Kd.C_drewN ?_ _) | (with_reducible refine Kd.C_drew ?_))); (case side2 => exact HC1_0.out); (case side3 => repeat (first | exact (Kd.C_below HR1_1.out HB.out) | (with_reducible refine Kd.C_alloc ?_ _) | (with_reducible refine Kd.C_drewN ?_ _) | (with_reducible refine Kd.C_drew ?_))); (case side4 => exact HC1_1.out); rintro e w13 ⟨v399, v402, rfl, ho0, ho1, hb⟩; refine ⟨_, rfl, ?_⟩; have n0_ := Aside0.mk (Kd.N_lower (Kd.N_mono (ok' := fun k_ => some k_ ≠ (v402 : Value).ownBlock ∧ k_ ≠ gb397) ho0 (fun k_ hk_ => ⟨hk_.2, (Kd.freshB (g := gb397) (o := .cells #[.slice A1_0 l1_0.length c1_0, .slice A1_1 l1_1.length c1_1] 40 (0, 0)) (by (with_reducible repeat (first | refine blk_drewN ?_ _ | refine blk_drew ?_ | refine blk_alloc ?_ _)); exact BK397.out) k_ hk_.1)⟩)) (below_size (by repeat (first | (with_reducible first | exact HB.out | apply below_alloc | apply pw_below_drewN | apply below_drew1 | refine below_set ?_ GE397.out) | exact HB.out)))); have n1_ := Aside0.mk (Kd.N_lower (Kd.N_mono (ok' := fun k_ => some k_ ≠ (v399 : Value).ownBlock ∧ k_ ≠ gb397) ho1 (fun k_ hk_ => ⟨hk_.2, (Kd.freshB (g := gb397) (o := .cells #[.slice A1_0 l1_0.length c1_0, .slice A1_1 l1_1.length c1_1] 40 (0, 0)) (by (with_reducible repeat (first | refine blk_drewN ?_ _ | refine blk_drew ?_ | refine blk_alloc ?_ _)); exact BK397.out) k_ hk_.1)⟩)) (below_size (by repeat (first | (with_reducible first | exact HB.out | apply below_alloc | apply pw_below_drewN | apply below_drew1 | refine below_set ?_ GE397.out) | exact HB.out)))); have n2_ := Aside0.mk (blk_below (g := gb397) (o := .cells #[.slice A1_0 l1_0.length c1_0, .slice A1_1 l1_1.length c1_1] 40 (0, 0)) (by (with_reducible repeat (first | refine blk_drewN ?_ _ | refine blk_drew ?_ | refine blk_alloc ?_ _)); exact BK397.out) hb); have n3_ := Aside0.mk (below_step (by repeat (first | (with_reducible first | exact HB.out | apply below_alloc | apply pw_below_drewN | apply below_drew1 | refine below_set ?_ GE397.out) | exact HB.out)) hb); clear BK397; clear HB; have HO400 := n0_; have HO403 := n1_; have BK397 := n2_; have HB := n3_; clear n0_ n1_ n2_ n3_; (try clear hb); (try clear hb2); (try clear hk); (try clear hi); (try clear ho0); (try clear ho1)) | ((with_reducible refine gate_dst (N := 5) rfl ?_); (try (refine gate_guard (by rfl) ?_; dsimp only)); refine box_event ?hg (N := 5) ?hd (cs := #[.slice none 0 0, .slice none 0 0]) (t := 43) ?hr ?_; (case hd => rfl); (case hg => rfl); (case hr => first | (go_simp; done) | (go_simp; rfl)); intro gb404 hg w14 hbox hb; have n0_ := Aside0.mk (Kd.N_below (Kd.N_elderB (by (with_reducible repeat (first | apply Kd.N_alloc | apply Kd.N_drewN | apply Kd.N_drew)); exact HO400.out) gb404 (Nat.le_of_eq hg.symm)) hb); have n1_ := Aside0.mk (Kd.N_below (Kd.N_elderB (by (with_reducible repeat (first | apply Kd.N_alloc | apply Kd.N_drewN | apply Kd.N_drew)); exact HO403.out) gb404 (Nat.le_of_eq hg.symm)) hb); have n2_ := Aside0.mk (blk_below (g := gb397) (o := .cells #[.slice A1_0 l1_0.length c1_0, .slice A1_1 l1_1.length c1_1] 40 (0, 0)) (by (with_reducible repeat (first | refine blk_drewN ?_ _ | refine blk_drew ?_ | refine blk_alloc ?_ _)); exact BK397.out) hb); have n3_ := Aside0.mk (below_step (by repeat (first | (with_reducible first | exact HB.out | apply below_alloc | apply pw_below_drewN | apply below_drew1 | refine below_set ?_ GE397.out) | exact HB.out)) hb); have n4_ := Aside0.mk (hbox); have n5_ := Aside0.mk ((by rw [hg]; exact (below_size (by repeat (first | (with_reducible first | exact HB.out | apply below_alloc | apply pw_below_drewN | apply below_drew1 | refine below_set ?_ GE397.out) | exact HB.out))) : w.heap.size ≤ gb404)); have n6_ := Aside0.mk ((by rw [hg]; exact (below_size (by repeat (first | (with_reducible first | exact HB.out | apply below_alloc | apply pw_below_drewN | apply below_drew1 | refine below_set ?_ GE397.out) | exact HB.out))) : w.heap.size ≤ gb404)); have n7_ := Aside0.mk ((by rw [hg]; exact Nat.ne_of_lt (blk_lt (g := gb397) (o := .cells #[.slice A1_0 l1_0.length c1_0, .slice A1_1 l1_1.length c1_1] 40 (0, 0)) (by (with_reducible repeat (first | refine blk_drewN ?_ _ | refine blk_drew ?_ | refine blk_alloc ?_ _)); exact BK397.out)) : gb397 ≠ gb404)); have n8_ := Aside0.mk ((by rw [hg]; exact Nat.ne_of_gt (blk_lt (g := gb397) (o := .cells #[.slice A1_0 l1_0.length c1_0, .slice A1_1 l1_1.length c1_1] 40 (0, 0)) (by (with_reducible repeat (first | refine blk_drewN ?_ _ | refine blk_drew ?_ | refine blk_alloc ?_ _)); exact BK397.out)) : gb404 ≠ gb397)); clear HO400; clear HO403; clear BK397; clear HB; have HO400 := n0_; have HO403 := n1_; have BK397 := n2_; have HB := n3_; have BK404 := n4_; have GW404 := n5_; have GE404 := n6_; have NB397_404 := n7_; have NB404_397 := n8_; clear n0_ n1_ n2_ n3_ n4_ n5_ n6_ n7_ n8_; clear hb hbox hg; obtain ⟨Ao15, co15, eo15⟩ := Kd.N_slice HO400.out; subst eo15; have hnb16 := NB404_397.out; have hnc16 := NB397_404.out; have hcz17_0 : w14.cell? ⟨gb404, 0, none⟩ = some (.slice none 0 0) := (blk_cell BK404.out 0).trans rfl; have hcz17_1 : w14.cell? ⟨gb404, 1, none⟩ = some (.slice none 0 0) := (blk_cell BK404.out 1).trans rfl; have hfz17_0 := blk_frozen BK404.out 0; have hfz17_1 := blk_frozen BK404.out 1; obtain ⟨Ao18, co18, eo18⟩ := Kd.N_slice HO403.out; subst eo18) | ((with_reducible refine gate_callee (f := 16) rfl ?_); refine goesL_ (some 20) rfl rfl Tryd.func16 (by kernel_rfl) rfl #[.slice A0 l0.length c0, .int .i64 3, .int .i64 2] rfl (by (try simp only [List.map_toArray, List.map_cons, List.map_nil]); first | done | rfl | (simp only [List.length_drop, List.length_take]; rfl)) ?_; (with_reducible refine (foretellkeep_Formula.calls k _ _ l0 3 2 t405 _ ?side1 ?side2 A4.out).mono ?_); (case side1 => exact Kd.C_below HR0.out (by repeat (first | (with_reducible first | exact HB.out | apply below_alloc | apply pw_below_drewN | apply below_drew1 | refine below_set ?_ GE397.out | refine below_set ?_ GE404.out) | exact HB.out))); (case side2 => exact HC0.out); rintro e w19 ⟨v406, rfl, ho0, hb⟩; refine ⟨_, rfl, ?_⟩; have n0_ := Aside0.mk (Kd.N_below (by (with_reducible repeat (first | apply Kd.N_alloc | apply Kd.N_drewN | apply Kd.N_drew)); exact (Kd.N_mono (Kd.N_far (p := ⟨gb404, 1, none⟩) (Kd.N_far (p := ⟨gb404, 0, none⟩) (Kd.N_mono HO400.out (fun k_ hk => (⟨hk, hk.2⟩ : _ ∧ k_ ≠ gb404))) (fun _ hk => hk.2) (.slice Ao15 t398.length co15)) (fun _ hk => hk.2) (.slice Ao18 t401.length co18)) (fun _ h_ => h_.1))) hb); have n1_ := Aside0.mk (Kd.N_below (by (with_reducible repeat (first | apply Kd.N_alloc | apply Kd.N_drewN | apply Kd.N_drew)); exact (Kd.N_mono (Kd.N_far (p := ⟨gb404, 1, none⟩) (Kd.N_far (p := ⟨gb404, 0, none⟩) (Kd.N_mono HO403.out (fun k_ hk => (⟨hk, hk.2⟩ : _ ∧ k_ ≠ gb404))) (fun _ hk => hk.2) (.slice Ao15 t398.length co15)) (fun _ hk => hk.2) (.slice Ao18 t401.length co18)) (fun _ h_ => h_.1))) hb); have n2_ := Aside0.mk (Kd.V_lower (Kd.V_mono (ok' := fun k_ => k_ ≠ gb397 ∧ k_ ≠ gb404) (Kd.R_V (Kd.R_bound ho0)) (fun k_ hk_ => ⟨(Kd.freshB (g := gb397) (o := .cells #[.slice A1_0 l1_0.length c1_0, .slice A1_1 l1_1.length c1_1] 40 (0, 0)) (by (with_reducible repeat (first | refine blk_drewN ?_ _ | refine blk_drew ?_ | refine blk_alloc ?_ _)); refine blk_far ?_ NB397_404.out _; (with_reducible repeat (first | refine blk_drewN ?_ _ | refine blk_drew ?_ | refine blk_alloc ?_ _)); refine blk_far ?_ NB397_404.out _; (with_reducible repeat (first | refine blk_drewN ?_ _ | refine blk_drew ?_ | refine blk_alloc ?_ _)); exact BK397.out) k_ hk_.2.1), (Kd.freshB (g := gb404) (o := .cells #[.slice Ao15 t398.length co15, .slice Ao18 t401.length co18] 43 (0, 0)) (by (with_reducible repeat (first | refine blk_drewN ?_ _ | refine blk_drew ?_ | refine blk_alloc ?_ _)); refine blk_put (cs := #[.slice Ao15 t398.length co15, .slice none 0 0]) ?_ 1 _ rfl; (with_reducible repeat (first | refine blk_drewN ?_ _ | refine blk_drew ?_ | refine blk_alloc ?_ _)); refine blk_put (cs := #[.slice none 0 0, .slice none 0 0]) ?_ 0 _ rfl; (with_reducible repeat (first | refine blk_drewN ?_ _ | refine blk_drew ?_ | refine blk_alloc ?_ _)); exact BK404.out) k_ hk_.2.1)⟩)) (below_size (by repeat (first | (with_reducible first | exact HB.out | apply below_alloc | apply pw_below_drewN | apply below_drew1 | refine below_set ?_ GE397.out | refine below_set ?_ GE404.out) | exact HB.out)))); have n3_ := Aside0.mk (blk_below (g := gb397) (o := .cells #[.slice A1_0 l1_0.length c1_0, .slice A1_1 l1_1.length c1_1] 40 (0, 0)) (by (with_reducible repeat (first | refine blk_drewN ?_ _ | refine blk_drew ?_ | refine blk_alloc ?_ _)); refine blk_far ?_ NB397_404.out _; (with_reducible repeat (first | refine blk_drewN ?_ _ | refine blk_drew ?_ | refine blk_alloc ?_ _)); refine blk_far ?_ NB397_404.out _; (with_reducible repeat (first | refine blk_drewN ?_ _ | refine blk_drew ?_ | refine blk_alloc ?_ _)); exact BK397.out) hb); have n4_ := Aside0.mk (blk_below (g := gb404) (o := .cells #[.slice Ao15 t398.length co15, .slice Ao18 t401.length co18] 43 (0, 0)) (by (with_reducible repeat (first | refine blk_drewN ?_ _ | refine blk_drew ?_ | refine blk_alloc ?_ _)); refine blk_put (cs := #[.slice Ao15 t398.length co15, .slice none 0 0]) ?_ 1 _ rfl; (with_reducible repeat (first | refine blk_drewN ?_ _ | refine blk_drew ?_ | refine blk_alloc ?_ _)); refine blk_put (cs := #[.slice none 0 0, .slice none 0 0]) ?_ 0 _ rfl; (with_reducible repeat (first | refine blk_drewN ?_ _ | refine blk_drew ?_ | refine blk_alloc ?_ _)); exact BK404.out) hb); have n5_ := Aside0.mk (below_step (by repeat (first | (with_reducible first | exact HB.out | apply below_alloc | apply pw_below_drewN | apply below_drew1 | refine below_set ?_ GE397.out | refine below_set ?_ GE404.out) | exact HB.out)) hb); clear HO400; clear HO403; clear BK397; clear BK404; clear HB; have HO400 := n0_; have HO403 := n1_; have HO407 := n2_; have BK397 := n3_; have BK404 := n4_; have HB := n5_; clear n0_ n1_ n2_ n3_ n4_ n5_; (try clear hb); (try clear hb2); (try clear hk); (try clear hi); (try clear ho0); have hcz20_0 : w19.cell? ⟨gb404, 0, none⟩ = some (.slice Ao15 t398.length co15) := (blk_cell BK404.out 0).trans rfl; have hcz20_1 : w19.cell? ⟨gb404, 1, none⟩ = some (.slice Ao18 t401.length co18) := (blk_cell BK404.out 1).trans rfl; have hfz20_0 := blk_frozen BK404.out 0; have hfz20_1 := blk_frozen BK404.out 1; obtain ⟨Ao21, co21, eo21⟩ := Kd.V_slice HO407.out; subst eo21) | ((with_reducible refine gate_callee (f := 24) rfl ?_); refine goesL_ (some 24) rfl rfl Tryd.func24 (by kernel_rfl) rfl #[.slice Ao21 t405.length co21, .agg #[.slice Ao15 t398.length co15, .slice Ao18 t401.length co18], .int .i64 3] rfl (by (try simp only [List.map_toArray, List.map_cons, List.map_nil]); first | done | rfl | (simp only [List.length_drop, List.length_take]; rfl)) ?_; (with_reducible refine (word_Moments.calls k _ _ t405 _ _ t398 _ _ t401 3 t408 t411 _ ?side1 ?side2 ?side3 ?side4 ?side5 ?side6 ?side7 A5.out).mono ?_); (case side1 => repeat (first | exact (Kd.V_reads' HO407.out).2.2 | (with_reducible refine Kd.C_alloc ?_ _) | (with_reducible refine Kd.C_drewN ?_ _) | (with_reducible refine Kd.C_drew ?_))); (case side2 => exact (Kd.V_reads' HO407.out).2.1); (case side3 => repeat (first | exact (Kd.N_reads' HO400.out).2.2 | (with_reducible refine Kd.C_alloc ?_ _) | (with_reducible refine Kd.C_drewN ?_ _) | (with_reducible refine Kd.C_drew ?_))); (case side4 => exact (Kd.N_reads' HO400.out).2.1); (case side5 => repeat (first | exact (Kd.N_reads' HO403.out).2.2 | (with_reducible refine Kd.C_alloc ?_ _) | (with_reducible refine Kd.C_drewN ?_ _) | (with_reducible refine Kd.C_drew ?_))); (case side6 => exact (Kd.N_reads' HO403.out).2.1); (case side7 => first | exact hG_ | exact Glob.drewN hG_ _ | exact Glob.below hG_ (by repeat (first | (with_reducible first | exact HB.out | apply below_alloc | apply pw_below_drewN | apply below_drew1 | refine below_set ?_ GE397.out | refine below_set ?_ GE404.out) | exact HB.out))); rintro e w22 ⟨v409, rfl, ho0, hb⟩; refine ⟨_, rfl, ?_⟩; have n0_ := Aside0.mk (Kd.N_below (by (with_reducible repeat (first | apply Kd.N_alloc | apply Kd.N_drewN | apply Kd.N_drew)); exact HO400.out) hb); have n1_ := Aside0.mk (Kd.N_below (by (with_reducible repeat (first | apply Kd.N_alloc | apply Kd.N_drewN | apply Kd.N_drew)); exact HO403.out) hb); have n2_ := Aside0.mk (Kd.V_below (by (with_reducible repeat (first | apply Kd.V_alloc | apply Kd.V_drewN | apply Kd.V_drew)); exact HO407.out) hb); have n3_ := Aside0.mk (Kd.V_lower (Kd.V_mono (ok' := fun k_ => k_ ≠ gb397 ∧ k_ ≠ gb404) (Kd.R_V (Kd.R_bound ho0)) (fun k_ hk_ => ⟨(Kd.freshB (g := gb397) (o := .cells #[.slice A1_0 l1_0.length c1_0, .slice A1_1 l1_1.length c1_1] 40 (0, 0)) (by (with_reducible repeat (first | refine blk_drewN ?_ _ | refine blk_drew ?_ | refine blk_alloc ?_ _)); exact BK397.out) k_ hk_.2.1), (Kd.freshB (g := gb404) (o := .cells #[.slice Ao15 t398.length co15, .slice Ao18 t401.length co18] 43 (0, 0)) (by (with_reducible repeat (first | refine blk_drewN ?_ _ | refine blk_drew ?_ | refine blk_alloc ?_ _)); exact BK404.out) k_ hk_.2.1)⟩)) (below_size (by repeat (first | (with_reducible first | exact HB.out | apply below_alloc | apply pw_below_drewN | apply below_drew1 | refine below_set ?_ GE397.out | refine below_set ?_ GE404.out) | exact HB.out)))); have n4_ := Aside0.mk (blk_below (g := gb397) (o := .cells #[.slice A1_0 l1_0.length c1_0, .slice A1_1 l1_1.length c1_1] 40 (0, 0)) (by (with_reducible repeat (first | refine blk_drewN ?_ _ | refine blk_drew ?_ | refine blk_alloc ?_ _)); exact BK397.out) hb); have n5_ := Aside0.mk (blk_below (g := gb404) (o := .cells #[.slice Ao15 t398.length co15, .slice Ao18 t401.length co18] 43 (0, 0)) (by (with_reducible repeat (first | refine blk_drewN ?_ _ | refine blk_drew ?_ | refine blk_alloc ?_ _)); exact BK404.out) hb); have n6_ := Aside0.mk (below_step (by repeat (first | (with_reducible first | exact HB.out | apply below_alloc | apply pw_below_drewN | apply below_drew1 | refine below_set ?_ GE397.out | refine below_set ?_ GE404.out) | exact HB.out)) hb); clear HO400; clear HO403; clear HO407; clear BK397; clear BK404; clear HB; have HO400 := n0_; have HO403 := n1_; have HO407 := n2_; have HO410 := n3_; have BK397 := n4_; have BK404 := n5_; have HB := n6_; clear n0_ n1_ n2_ n3_ n4_ n5_ n6_; (try clear hb); (try clear hb2); (try clear hk); (try clear hi); (try clear ho0); obtain ⟨Ao23, co23, eo23⟩ := Kd.V_slice HO410.out; subst eo23))
  have n0_ := Aside0.mk (Kd.N_drew HO400.out)
  have n1_ := Aside0.mk (Kd.N_drew HO403.out)
  have n2_ := Aside0.mk (Kd.V_drew HO407.out)
  have n3_ := Aside0.mk (Kd.V_drew HO410.out)
  have n4_ := Aside0.mk (blk_drew BK397.out)
  have n5_ := Aside0.mk (blk_drew BK404.out)
  have n6_ := Aside0.mk (below_drew1 HB.out)
  clear HO400
  clear HO403
  clear HO407
  clear HO410
  clear BK397
  clear BK404
  clear HB
  have HO400 := n0_
  have HO403 := n1_
  have HO407 := n2_
  have HO410 := n3_
  have BK397 := n4_
  have BK404 := n5_
  have HB := n6_
  clear n0_ n1_ n2_ n3_ n4_ n5_ n6_
  refine start_ (n := 10) (S := fun w' => w'.cell? ⟨gb404, 0, none⟩ = some (.slice Ao15 t398.length co15) ∧ w'.cell? ⟨gb404, 1, none⟩ = some (.slice Ao18 t401.length co18)) (ds := []) #[false, false, false, false, false, false, false, false, false, false] (by kernel_rfl) rfl rfl ⟨(blk_cell BK404.out 0).trans rfl, (blk_cell BK404.out 1).trans rfl⟩ (fun hHeld => ?_); refine with_tabW foretellkeep_WordLoop.tab4 foretellkeep_WordLoop.bits4 (fun HT_ HW_ => ?_)
  generalize w22.drew = w24 at HO400 HO403 HO407 HO410 BK397 BK404 HB hHeld ⊢
  refine pure_ (i := 0) (N := some 28) (v := ?_) (a' := ?_) #[true, false, false, false, false, false, false, false, false, false] rfl rfl (any_of HT_.out (by kernel_rfl)) (fun _ _ _ h => h) (Or.inl ⟨by rfl, ?_⟩) ?_ ?_
  rotate_left
  · intro w'
    go_simp
    with_reducible rfl
  rotate_left
  · simp only [Act.put, List.setIfInBounds_toArray, List.set_cons_zero, List.set_cons_succ, i64_w, i32_w]
    rfl
  refine take_ (i := 3) (N := some 31) (v := ?_) (a' := ?_) #[true, false, false, true, false, false, false, false, false, false] rfl rfl (take_ofW HT_.out HW_.out (by kernel_rfl)) (fun _ _ _ h => h) (Or.inl ⟨by rfl, ?_⟩) hHeld ?_ ?_
  rotate_left
  · rintro w' ⟨s0, s1⟩
    go_simp
    with_reducible rfl
  rotate_left
  · simp only [Act.put, List.setIfInBounds_toArray, List.set_cons_zero, List.set_cons_succ, i64_w, i32_w]
    rfl
  refine one_ (i := 1) (N := some 29) #[true, true, false, true, false, false, false, false, false, false] rfl rfl (one_of HT_.out (by kernel_rfl)) (by decide) (fun K hK => ?_)
  refine Kd.N_lit_step (Kd.slice 51 k51) _ 23 ?hg (N' := 29) ?hd (xs := ([t405] : List (List (S51)))) (inner := [.slice Ao21 t405.length co21]) (ok := (fun k_ => k_ ≠ gb397 ∧ k_ ≠ gb404)) (okp := (fun k_ => k_ ≠ gb397 ∧ k_ ≠ gb404)) ?hr ?hp (fun _ hk => hk) ((show ∀ k_, w24.heap.size ≤ k_ → (fun k_ => k_ ≠ gb397 ∧ k_ ≠ gb404) k_ from fun k_ hk => ⟨Kd.freshB (g := gb397) (o := .cells #[.slice A1_0 l1_0.length c1_0, .slice A1_1 l1_1.length c1_1] 40 (0, 0)) (by (with_reducible repeat (first | refine blk_drewN ?_ _ | refine blk_drew ?_ | refine blk_alloc ?_ _)); exact BK397.out) k_ hk, Kd.freshB (g := gb404) (o := .cells #[.slice Ao15 t398.length co15, .slice Ao18 t401.length co18] 43 (0, 0)) (by (with_reducible repeat (first | refine blk_drewN ?_ _ | refine blk_drew ?_ | refine blk_alloc ?_ _)); exact BK404.out) k_ hk⟩) _ (Nat.le_refl _)) (Below.refl _ _) (Nat.le_refl _) (by simp) ?_; (case hd => rfl); (case hg => rfl); (case hr => first | (go_simp; done) | (go_simp; rfl)); (case hp => exact (Reps.one (show Kd.FK (Kd.slice 51 k51) _ _ t405 [.slice Ao21 t405.length co21] from (Kd.FK_slice_mk (Kd.V_reads' (Kd.V_mono (ok' := (fun k_ => k_ ≠ gb397 ∧ k_ ≠ gb404)) (HO407.out) (fun k_ hk => by first | exact ⟨hk.1, hk.2⟩ | exact hk))).2.1 (Kd.V_F (Kd.V_mono (ok' := (fun k_ => k_ ≠ gb397 ∧ k_ ≠ gb404)) (HO407.out) (fun k_ hk => by first | exact ⟨hk.1, hk.2⟩ | exact hk))))) (Reps.none _ _)))
  intro v413 w25 ho26 hb hg_ hnew_
  clear hg_ hnew_
  (first | rw [← Ny412.out] at ho26 | (simp only [Int.reduceToNat] at ho26; rw [← Ny412.out] at ho26))
  have n0_ := Aside0.mk (Kd.N_elder' (by (with_reducible repeat (first | apply Kd.N_alloc | apply Kd.N_drewN | apply Kd.N_drew)); exact HO400.out) (by first | exact Kd.N_base ho26 | exact Kd.S_base ho26 | exact Kd.R_base ho26) hb)
  have n1_ := Aside0.mk (Kd.N_elder' (by (with_reducible repeat (first | apply Kd.N_alloc | apply Kd.N_drewN | apply Kd.N_drew)); exact HO403.out) (by first | exact Kd.N_base ho26 | exact Kd.S_base ho26 | exact Kd.R_base ho26) hb)
  have n2_ := Aside0.mk (Kd.V_elder' (by (with_reducible repeat (first | apply Kd.V_alloc | apply Kd.V_drewN | apply Kd.V_drew)); exact HO407.out) (by first | exact Kd.N_base ho26 | exact Kd.S_base ho26 | exact Kd.R_base ho26) hb)
  have n3_ := Aside0.mk (Kd.V_elder' (by (with_reducible repeat (first | apply Kd.V_alloc | apply Kd.V_drewN | apply Kd.V_drew)); exact HO410.out) (by first | exact Kd.N_base ho26 | exact Kd.S_base ho26 | exact Kd.R_base ho26) hb)
  have n4_ := Aside0.mk (Kd.N_lower ho26 (below_size (by repeat (first | (with_reducible first | exact HB.out | apply below_alloc | apply pw_below_drewN | apply below_drew1 | refine below_set ?_ GE397.out | refine below_set ?_ GE404.out) | exact HB.out))))
  have n5_ := Aside0.mk (blk_below (g := gb397) (o := .cells #[.slice A1_0 l1_0.length c1_0, .slice A1_1 l1_1.length c1_1] 40 (0, 0)) (by (with_reducible repeat (first | refine blk_drewN ?_ _ | refine blk_drew ?_ | refine blk_alloc ?_ _)); exact BK397.out) hb)
  have n6_ := Aside0.mk (blk_below (g := gb404) (o := .cells #[.slice Ao15 t398.length co15, .slice Ao18 t401.length co18] 43 (0, 0)) (by (with_reducible repeat (first | refine blk_drewN ?_ _ | refine blk_drew ?_ | refine blk_alloc ?_ _)); exact BK404.out) hb)
  have n7_ := Aside0.mk (below_step (by repeat (first | (with_reducible first | exact HB.out | apply below_alloc | apply pw_below_drewN | apply below_drew1 | refine below_set ?_ GE397.out | refine below_set ?_ GE404.out) | exact HB.out)) hb)
  clear HO400
  clear HO403
  clear HO407
  clear HO410
  clear BK397
  clear BK404
  clear HB
  have HO400 := n0_
  have HO403 := n1_
  have HO407 := n2_
  have HO410 := n3_
  have HO414 := n4_
  have BK397 := n5_
  have BK404 := n6_
  have HB := n7_
  clear n0_ n1_ n2_ n3_ n4_ n5_ n6_ n7_
  clear hb ho26
  obtain ⟨Ao27, co27, eo27⟩ := Kd.N_slice HO414.out
  (first | subst eo27 | (injection eo27 with f1_ f2_ f3_; have f4_ := f1_.symm; have f5_ := f3_.symm; clear f1_ f2_ f3_; subst f4_; subst f5_))
  refine hK.out _ _ ⟨(blk_cell BK404.out 0).trans rfl, (blk_cell BK404.out 1).trans rfl⟩ (fun hHeld => ?_)
  clear hK K
  refine norm_ (a' := ?_) ?_ ?_
  rotate_left
  · show Act.put _ (some 29) _ = _
    simp only [Act.put, List.setIfInBounds_toArray, List.set_cons_zero, List.set_cons_succ, i64_w, i32_w]
    rfl
  refine one_ (i := 2) (N := some 30) #[true, true, true, true, false, false, false, false, false, false] rfl rfl (one_of HT_.out (by kernel_rfl)) (by decide) (fun K hK => ?_)
  refine goes_ Tryd.func21 (by kernel_rfl) rfl #[.int .i64 17, .slice Ao27 y412.length co27] (by rfl) rfl rfl (by (try simp only [List.map_toArray, List.map_cons, List.map_nil]); first | done | rfl | (simp only [List.length_drop, List.length_take]; rfl)) ?_
  with_reducible refine (foretellkeep_joined.calls k 17 _ _ y412 t415 _ ?side1 ?side2 A6.out).mono ?_
  (case side1 => repeat (first | exact (Kd.N_reads' HO414.out).2.2 | (with_reducible refine Kd.C_alloc ?_ _) | (with_reducible refine Kd.C_drewN ?_ _) | (with_reducible refine Kd.C_drew ?_)))
  (case side2 => exact (Kd.N_reads' HO414.out).2.1)
  rintro e w28 ⟨v416, rfl, ho0, hb⟩
  refine ⟨_, rfl, ?_⟩
  have n0_ := Aside0.mk (Kd.N_below (by (with_reducible repeat (first | apply Kd.N_alloc | apply Kd.N_drewN | apply Kd.N_drew)); exact HO400.out) hb)
  have n1_ := Aside0.mk (Kd.N_below (by (with_reducible repeat (first | apply Kd.N_alloc | apply Kd.N_drewN | apply Kd.N_drew)); exact HO403.out) hb)
  have n2_ := Aside0.mk (Kd.V_below (by (with_reducible repeat (first | apply Kd.V_alloc | apply Kd.V_drewN | apply Kd.V_drew)); exact HO407.out) hb)
  have n3_ := Aside0.mk (Kd.V_below (by (with_reducible repeat (first | apply Kd.V_alloc | apply Kd.V_drewN | apply Kd.V_drew)); exact HO410.out) hb)
  have n4_ := Aside0.mk (Kd.N_below (by (with_reducible repeat (first | apply Kd.N_alloc | apply Kd.N_drewN | apply Kd.N_drew)); exact HO414.out) hb)
  have n5_ := Aside0.mk (Kd.V_lower (Kd.V_mono (ok' := fun k_ => k_ ≠ gb397 ∧ k_ ≠ gb404) (Kd.R_V (Kd.R_bound ho0)) (fun k_ hk_ => ⟨(Kd.freshB (g := gb397) (o := .cells #[.slice A1_0 l1_0.length c1_0, .slice A1_1 l1_1.length c1_1] 40 (0, 0)) (by (with_reducible repeat (first | refine blk_drewN ?_ _ | refine blk_drew ?_ | refine blk_alloc ?_ _)); exact BK397.out) k_ hk_.2.1), (Kd.freshB (g := gb404) (o := .cells #[.slice Ao15 t398.length co15, .slice Ao18 t401.length co18] 43 (0, 0)) (by (with_reducible repeat (first | refine blk_drewN ?_ _ | refine blk_drew ?_ | refine blk_alloc ?_ _)); exact BK404.out) k_ hk_.2.1)⟩)) (below_size (by repeat (first | (with_reducible first | exact HB.out | apply below_alloc | apply pw_below_drewN | apply below_drew1 | refine below_set ?_ GE397.out | refine below_set ?_ GE404.out) | exact HB.out))))
  have n6_ := Aside0.mk (blk_below (g := gb397) (o := .cells #[.slice A1_0 l1_0.length c1_0, .slice A1_1 l1_1.length c1_1] 40 (0, 0)) (by (with_reducible repeat (first | refine blk_drewN ?_ _ | refine blk_drew ?_ | refine blk_alloc ?_ _)); exact BK397.out) hb)
  have n7_ := Aside0.mk (blk_below (g := gb404) (o := .cells #[.slice Ao15 t398.length co15, .slice Ao18 t401.length co18] 43 (0, 0)) (by (with_reducible repeat (first | refine blk_drewN ?_ _ | refine blk_drew ?_ | refine blk_alloc ?_ _)); exact BK404.out) hb)
  have n8_ := Aside0.mk (below_step (by repeat (first | (with_reducible first | exact HB.out | apply below_alloc | apply pw_below_drewN | apply below_drew1 | refine below_set ?_ GE397.out | refine below_set ?_ GE404.out) | exact HB.out)) hb)
  clear HO400
  clear HO403
  clear HO407
  clear HO410
  clear HO414
  clear BK397
  clear BK404
  clear HB
  have HO400 := n0_
  have HO403 := n1_
  have HO407 := n2_
  have HO410 := n3_
  have HO414 := n4_
  have HO417 := n5_
  have BK397 := n6_
  have BK404 := n7_
  have HB := n8_
  clear n0_ n1_ n2_ n3_ n4_ n5_ n6_ n7_ n8_
  (try clear hb)
  (try clear hb2)
  (try clear hk)
  (try clear hi)
  (try clear ho0)
  obtain ⟨Ao29, co29, eo29⟩ := Kd.V_slice HO417.out
  (first | subst eo29 | (injection eo29 with f1_ f2_ f3_; have f4_ := f1_.symm; have f5_ := f3_.symm; clear f1_ f2_ f3_; subst f4_; subst f5_))
  refine hK.out _ _ ⟨(blk_cell BK404.out 0).trans rfl, (blk_cell BK404.out 1).trans rfl⟩ (fun hHeld => ?_)
  clear hK K
  refine norm_ (a' := ?_) ?_ ?_
  rotate_left
  · show Act.put _ (some 30) _ = _
    simp only [Act.put, List.setIfInBounds_toArray, List.set_cons_zero, List.set_cons_succ, i64_w, i32_w]
    rfl
  refine one_ (i := 4) (N := some 32) #[true, true, true, true, true, false, false, false, false, false] rfl rfl (one_of HT_.out (by kernel_rfl)) (by decide) (fun K hK => ?_)
  refine goes_ Tryd.func24 (by kernel_rfl) rfl #[.slice Ao29 t415.length co29, .agg #[.slice Ao15 t398.length co15, .slice Ao18 t401.length co18], .int .i64 3] (by rfl) rfl rfl (by (try simp only [List.map_toArray, List.map_cons, List.map_nil]); first | done | rfl | (simp only [List.length_drop, List.length_take]; rfl)) ?_
  with_reducible refine (word_Moments.calls k _ _ t415 _ _ t398 _ _ t401 3 t418 t421 _ ?side1 ?side2 ?side3 ?side4 ?side5 ?side6 ?side7 A7.out).mono ?_
  (case side1 => repeat (first | exact (Kd.V_reads' HO417.out).2.2 | (with_reducible refine Kd.C_alloc ?_ _) | (with_reducible refine Kd.C_drewN ?_ _) | (with_reducible refine Kd.C_drew ?_)))
  (case side2 => exact (Kd.V_reads' HO417.out).2.1)
  (case side3 => repeat (first | exact (Kd.N_reads' HO400.out).2.2 | (with_reducible refine Kd.C_alloc ?_ _) | (with_reducible refine Kd.C_drewN ?_ _) | (with_reducible refine Kd.C_drew ?_)))
  (case side4 => exact (Kd.N_reads' HO400.out).2.1)
  (case side5 => repeat (first | exact (Kd.N_reads' HO403.out).2.2 | (with_reducible refine Kd.C_alloc ?_ _) | (with_reducible refine Kd.C_drewN ?_ _) | (with_reducible refine Kd.C_drew ?_)))
  (case side6 => exact (Kd.N_reads' HO403.out).2.1)
  (case side7 => first | exact hG_ | exact Glob.drewN hG_ _ | exact Glob.below hG_ (by repeat (first | (with_reducible first | exact HB.out | apply below_alloc | apply pw_below_drewN | apply below_drew1 | refine below_set ?_ GE397.out | refine below_set ?_ GE404.out) | exact HB.out)))
  rintro e w30 ⟨v419, rfl, ho0, hb⟩
  refine ⟨_, rfl, ?_⟩
  have n0_ := Aside0.mk (Kd.N_below (by (with_reducible repeat (first | apply Kd.N_alloc | apply Kd.N_drewN | apply Kd.N_drew)); exact HO400.out) hb)
  have n1_ := Aside0.mk (Kd.N_below (by (with_reducible repeat (first | apply Kd.N_alloc | apply Kd.N_drewN | apply Kd.N_drew)); exact HO403.out) hb)
  have n2_ := Aside0.mk (Kd.V_below (by (with_reducible repeat (first | apply Kd.V_alloc | apply Kd.V_drewN | apply Kd.V_drew)); exact HO407.out) hb)
  have n3_ := Aside0.mk (Kd.V_below (by (with_reducible repeat (first | apply Kd.V_alloc | apply Kd.V_drewN | apply Kd.V_drew)); exact HO410.out) hb)
  have n4_ := Aside0.mk (Kd.N_below (by (with_reducible repeat (first | apply Kd.N_alloc | apply Kd.N_drewN | apply Kd.N_drew)); exact HO414.out) hb)
  have n5_ := Aside0.mk (Kd.V_below (by (with_reducible repeat (first | apply Kd.V_alloc | apply Kd.V_drewN | apply Kd.V_drew)); exact HO417.out) hb)
  have n6_ := Aside0.mk (Kd.V_lower (Kd.V_mono (ok' := fun k_ => k_ ≠ gb397 ∧ k_ ≠ gb404) (Kd.R_V (Kd.R_bound ho0)) (fun k_ hk_ => ⟨(Kd.freshB (g := gb397) (o := .cells #[.slice A1_0 l1_0.length c1_0, .slice A1_1 l1_1.length c1_1] 40 (0, 0)) (by (with_reducible repeat (first | refine blk_drewN ?_ _ | refine blk_drew ?_ | refine blk_alloc ?_ _)); exact BK397.out) k_ hk_.2.1), (Kd.freshB (g := gb404) (o := .cells #[.slice Ao15 t398.length co15, .slice Ao18 t401.length co18] 43 (0, 0)) (by (with_reducible repeat (first | refine blk_drewN ?_ _ | refine blk_drew ?_ | refine blk_alloc ?_ _)); exact BK404.out) k_ hk_.2.1)⟩)) (below_size (by repeat (first | (with_reducible first | exact HB.out | apply below_alloc | apply pw_below_drewN | apply below_drew1 | refine below_set ?_ GE397.out | refine below_set ?_ GE404.out) | exact HB.out))))
  have n7_ := Aside0.mk (blk_below (g := gb397) (o := .cells #[.slice A1_0 l1_0.length c1_0, .slice A1_1 l1_1.length c1_1] 40 (0, 0)) (by (with_reducible repeat (first | refine blk_drewN ?_ _ | refine blk_drew ?_ | refine blk_alloc ?_ _)); exact BK397.out) hb)
  have n8_ := Aside0.mk (blk_below (g := gb404) (o := .cells #[.slice Ao15 t398.length co15, .slice Ao18 t401.length co18] 43 (0, 0)) (by (with_reducible repeat (first | refine blk_drewN ?_ _ | refine blk_drew ?_ | refine blk_alloc ?_ _)); exact BK404.out) hb)
  have n9_ := Aside0.mk (below_step (by repeat (first | (with_reducible first | exact HB.out | apply below_alloc | apply pw_below_drewN | apply below_drew1 | refine below_set ?_ GE397.out | refine below_set ?_ GE404.out) | exact HB.out)) hb)
  clear HO400
  clear HO403
  clear HO407
  clear HO410
  clear HO414
  clear HO417
  clear BK397
  clear BK404
  clear HB
  have HO400 := n0_
  have HO403 := n1_
  have HO407 := n2_
  have HO410 := n3_
  have HO414 := n4_
  have HO417 := n5_
  have HO420 := n6_
  have BK397 := n7_
  have BK404 := n8_
  have HB := n9_
  clear n0_ n1_ n2_ n3_ n4_ n5_ n6_ n7_ n8_ n9_
  (try clear hb)
  (try clear hb2)
  (try clear hk)
  (try clear hi)
  (try clear ho0)
  refine hK.out _ _ ⟨(blk_cell BK404.out 0).trans rfl, (blk_cell BK404.out 1).trans rfl⟩ (fun hHeld => ?_)
  clear hK K
  refine norm_ (a' := ?_) ?_ ?_
  rotate_left
  · show Act.put _ (some 32) _ = _
    simp only [Act.put, List.setIfInBounds_toArray, List.set_cons_zero, List.set_cons_succ, i64_w, i32_w]
    rfl
  refine pure_ (i := 5) (N := some 27) (v := ?_) (a' := ?_) #[true, true, true, true, true, true, false, false, false, false] rfl rfl (any_of HT_.out (by kernel_rfl)) (fun _ _ _ h => h) (Or.inl ⟨by rfl, ?_⟩) ?_ ?_
  rotate_left
  · intro w'
    go_simp
    with_reducible rfl
  rotate_left
  · simp only [Act.put, List.setIfInBounds_toArray, List.set_cons_zero, List.set_cons_succ, i64_w, i32_w]
    rfl
  refine pure_ (i := 6) (N := some 33) (v := ?_) (a' := ?_) #[true, true, true, true, true, true, true, false, false, false] rfl rfl (any_of HT_.out (by kernel_rfl)) (fun _ _ _ h => h) (Or.inl ⟨by rfl, ?_⟩) ?_ ?_
  rotate_left
  · intro w'
    go_simp
    with_reducible rfl
  rotate_left
  · simp only [Act.put, List.setIfInBounds_toArray, List.set_cons_zero, List.set_cons_succ, i64_w, i32_w]
    rfl
  refine pure_ (i := 7) (N := some 34) (v := ?_) (a' := ?_) #[true, true, true, true, true, true, true, true, false, false] rfl rfl (any_of HT_.out (by kernel_rfl)) (fun _ _ _ h => h) (Or.inl ⟨by rfl, ?_⟩) ?_ ?_
  rotate_left
  · intro w'
    go_simp
    with_reducible rfl
  rotate_left
  · simp only [Act.put, List.setIfInBounds_toArray, List.set_cons_zero, List.set_cons_succ, i64_w, i32_w]
    rfl
  refine pure_ (i := 8) (N := some 9) (v := ?_) (a' := ?_) #[true, true, true, true, true, true, true, true, true, false] rfl rfl (any_of HT_.out (by kernel_rfl)) (fun _ _ _ h => h) (Or.inl ⟨by rfl, ?_⟩) ?_ ?_
  rotate_left
  · intro w'
    go_simp
    with_reducible rfl
  rotate_left
  · simp only [Act.put, List.setIfInBounds_toArray, List.set_cons_zero, List.set_cons_succ, i64_w, i32_w]
    rfl
  refine pure_ (i := 9) (N := some 10) (v := ?_) (a' := ?_) #[true, true, true, true, true, true, true, true, true, true] rfl rfl (any_of HT_.out (by kernel_rfl)) (fun _ _ _ h => h) (Or.inl ⟨by rfl, ?_⟩) ?_ ?_
  rotate_left
  · intro w'
    go_simp
    with_reducible rfl
  rotate_left
  · simp only [Act.put, List.setIfInBounds_toArray, List.set_cons_zero, List.set_cons_succ, i64_w, i32_w]
    rfl
  refine done_ (done_of HT_.out (by kernel_rfl)) ?_
  obtain ⟨Ao31, co31, eo31⟩ := Kd.V_slice HO420.out
  subst eo31
  try go_wp2
  have n0_ := Aside0.mk (Kd.N_drew HO400.out)
  have n1_ := Aside0.mk (Kd.N_drew HO403.out)
  have n2_ := Aside0.mk (Kd.V_drew HO407.out)
  have n3_ := Aside0.mk (Kd.V_drew HO410.out)
  have n4_ := Aside0.mk (Kd.N_drew HO414.out)
  have n5_ := Aside0.mk (Kd.V_drew HO417.out)
  have n6_ := Aside0.mk (Kd.V_drew HO420.out)
  have n7_ := Aside0.mk (blk_drew BK397.out)
  have n8_ := Aside0.mk (blk_drew BK404.out)
  have n9_ := Aside0.mk (below_drew1 HB.out)
  clear HO400
  clear HO403
  clear HO407
  clear HO410
  clear HO414
  clear HO417
  clear HO420
  clear BK397
  clear BK404
  clear HB
  have HO400 := n0_
  have HO403 := n1_
  have HO407 := n2_
  have HO410 := n3_
  have HO414 := n4_
  have HO417 := n5_
  have HO420 := n6_
  have BK397 := n7_
  have BK404 := n8_
  have HB := n9_
  clear n0_ n1_ n2_ n3_ n4_ n5_ n6_ n7_ n8_ n9_
  refine start_ (n := 10) (S := fun w' => w'.cell? ⟨gb404, 0, none⟩ = some (.slice Ao15 t398.length co15) ∧ w'.cell? ⟨gb404, 1, none⟩ = some (.slice Ao18 t401.length co18)) (ds := []) #[false, false, false, false, false, false, false, false, false, false] (by kernel_rfl) rfl rfl ⟨(blk_cell BK404.out 0).trans rfl, (blk_cell BK404.out 1).trans rfl⟩ (fun hHeld => ?_); refine with_tabW foretellkeep_WordLoop.tab5 foretellkeep_WordLoop.bits5 (fun HT_ HW_ => ?_)
  generalize w30.drew = w32 at HO400 HO403 HO407 HO410 HO414 HO417 HO420 BK397 BK404 HB hHeld ⊢
  refine pure_ (i := 0) (N := some 36) (v := ?_) (a' := ?_) #[true, false, false, false, false, false, false, false, false, false] rfl rfl (any_of HT_.out (by kernel_rfl)) (fun _ _ _ h => h) (Or.inl ⟨by rfl, ?_⟩) ?_ ?_
  rotate_left
  · intro w'
    go_simp
    with_reducible rfl
  rotate_left
  · simp only [Act.put, List.setIfInBounds_toArray, List.set_cons_zero, List.set_cons_succ, i64_w, i32_w]
    rfl
  refine take_ (i := 3) (N := some 39) (v := ?_) (a' := ?_) #[true, false, false, true, false, false, false, false, false, false] rfl rfl (take_ofW HT_.out HW_.out (by kernel_rfl)) (fun _ _ _ h => h) (Or.inl ⟨by rfl, ?_⟩) hHeld ?_ ?_
  rotate_left
  · rintro w' ⟨s0, s1⟩
    go_simp
    with_reducible rfl
  rotate_left
  · simp only [Act.put, List.setIfInBounds_toArray, List.set_cons_zero, List.set_cons_succ, i64_w, i32_w]
    rfl
  refine one_ (i := 1) (N := some 37) #[true, true, false, true, false, false, false, false, false, false] rfl rfl (one_of HT_.out (by kernel_rfl)) (by decide) (fun K hK => ?_)
  refine Kd.N_lit_step (Kd.slice 51 k51) _ 23 ?hg (N' := 37) ?hd (xs := ([t405] : List (List (S51)))) (inner := [.slice Ao21 t405.length co21]) (ok := (fun k_ => some k_ ≠ (.slice Ao27 y412.length co27 : Value).ownBlock ∧ k_ ≠ gb397 ∧ k_ ≠ gb404)) (okp := (fun k_ => some k_ ≠ (.slice Ao27 y412.length co27 : Value).ownBlock ∧ k_ ≠ gb397 ∧ k_ ≠ gb404)) ?hr ?hp (fun _ hk => hk) ((show ∀ k_, w32.heap.size ≤ k_ → (fun k_ => some k_ ≠ (.slice Ao27 y412.length co27 : Value).ownBlock ∧ k_ ≠ gb397 ∧ k_ ≠ gb404) k_ from fun k_ hk => ⟨Kd.fresh' (Kd.N_lt (by (with_reducible repeat (first | apply Kd.N_alloc | apply Kd.N_drewN | apply Kd.N_drew)); exact HO414.out)) k_ hk, Kd.freshB (g := gb397) (o := .cells #[.slice A1_0 l1_0.length c1_0, .slice A1_1 l1_1.length c1_1] 40 (0, 0)) (by (with_reducible repeat (first | refine blk_drewN ?_ _ | refine blk_drew ?_ | refine blk_alloc ?_ _)); exact BK397.out) k_ hk, Kd.freshB (g := gb404) (o := .cells #[.slice Ao15 t398.length co15, .slice Ao18 t401.length co18] 43 (0, 0)) (by (with_reducible repeat (first | refine blk_drewN ?_ _ | refine blk_drew ?_ | refine blk_alloc ?_ _)); exact BK404.out) k_ hk⟩) _ (Nat.le_refl _)) (Below.refl _ _) (Nat.le_refl _) (by simp) ?_; (case hd => rfl); (case hg => rfl); (case hr => first | (go_simp; done) | (go_simp; rfl)); (case hp => exact (Reps.one (show Kd.FK (Kd.slice 51 k51) _ _ t405 [.slice Ao21 t405.length co21] from (Kd.FK_slice_mk (Kd.V_reads' (Kd.V_mono (ok' := (fun k_ => some k_ ≠ (.slice Ao27 y412.length co27 : Value).ownBlock ∧ k_ ≠ gb397 ∧ k_ ≠ gb404)) (HO407.out) (fun k_ hk => ⟨hk.2, ⟨hk.1.1, hk.1.2⟩⟩))).2.1 (Kd.V_F (Kd.V_mono (ok' := (fun k_ => some k_ ≠ (.slice Ao27 y412.length co27 : Value).ownBlock ∧ k_ ≠ gb397 ∧ k_ ≠ gb404)) (HO407.out) (fun k_ hk => ⟨hk.2, ⟨hk.1.1, hk.1.2⟩⟩))))) (Reps.none _ _)))
  intro v423 w33 ho34 hb hg_ hnew_
  clear hg_ hnew_
  (first | rw [← Ny422.out] at ho34 | (simp only [Int.reduceToNat] at ho34; rw [← Ny422.out] at ho34))
  have n0_ := Aside0.mk (Kd.N_elder' (by (with_reducible repeat (first | apply Kd.N_alloc | apply Kd.N_drewN | apply Kd.N_drew)); exact HO400.out) (by first | exact Kd.N_base ho34 | exact Kd.S_base ho34 | exact Kd.R_base ho34) hb)
  have n1_ := Aside0.mk (Kd.N_elder' (by (with_reducible repeat (first | apply Kd.N_alloc | apply Kd.N_drewN | apply Kd.N_drew)); exact HO403.out) (by first | exact Kd.N_base ho34 | exact Kd.S_base ho34 | exact Kd.R_base ho34) hb)
  have n2_ := Aside0.mk (Kd.V_elder' (by (with_reducible repeat (first | apply Kd.V_alloc | apply Kd.V_drewN | apply Kd.V_drew)); exact HO407.out) (by first | exact Kd.N_base ho34 | exact Kd.S_base ho34 | exact Kd.R_base ho34) hb)
  have n3_ := Aside0.mk (Kd.V_elder' (by (with_reducible repeat (first | apply Kd.V_alloc | apply Kd.V_drewN | apply Kd.V_drew)); exact HO410.out) (by first | exact Kd.N_base ho34 | exact Kd.S_base ho34 | exact Kd.R_base ho34) hb)
  have n4_ := Aside0.mk (Kd.N_elder' (by (with_reducible repeat (first | apply Kd.N_alloc | apply Kd.N_drewN | apply Kd.N_drew)); exact HO414.out) (by first | exact Kd.N_base ho34 | exact Kd.S_base ho34 | exact Kd.R_base ho34) hb)
  have n5_ := Aside0.mk (Kd.V_elder' (by (with_reducible repeat (first | apply Kd.V_alloc | apply Kd.V_drewN | apply Kd.V_drew)); exact HO417.out) (by first | exact Kd.N_base ho34 | exact Kd.S_base ho34 | exact Kd.R_base ho34) hb)
  have n6_ := Aside0.mk (Kd.V_elder' (by (with_reducible repeat (first | apply Kd.V_alloc | apply Kd.V_drewN | apply Kd.V_drew)); exact HO420.out) (by first | exact Kd.N_base ho34 | exact Kd.S_base ho34 | exact Kd.R_base ho34) hb)
  have n7_ := Aside0.mk (Kd.N_lower ho34 (below_size (by repeat (first | (with_reducible first | exact HB.out | apply below_alloc | apply pw_below_drewN | apply below_drew1 | refine below_set ?_ GE397.out | refine below_set ?_ GE404.out) | exact HB.out))))
  have n8_ := Aside0.mk (blk_below (g := gb397) (o := .cells #[.slice A1_0 l1_0.length c1_0, .slice A1_1 l1_1.length c1_1] 40 (0, 0)) (by (with_reducible repeat (first | refine blk_drewN ?_ _ | refine blk_drew ?_ | refine blk_alloc ?_ _)); exact BK397.out) hb)
  have n9_ := Aside0.mk (blk_below (g := gb404) (o := .cells #[.slice Ao15 t398.length co15, .slice Ao18 t401.length co18] 43 (0, 0)) (by (with_reducible repeat (first | refine blk_drewN ?_ _ | refine blk_drew ?_ | refine blk_alloc ?_ _)); exact BK404.out) hb)
  have n10_ := Aside0.mk (below_step (by repeat (first | (with_reducible first | exact HB.out | apply below_alloc | apply pw_below_drewN | apply below_drew1 | refine below_set ?_ GE397.out | refine below_set ?_ GE404.out) | exact HB.out)) hb)
  clear HO400
  clear HO403
  clear HO407
  clear HO410
  clear HO414
  clear HO417
  clear HO420
  clear BK397
  clear BK404
  clear HB
  have HO400 := n0_
  have HO403 := n1_
  have HO407 := n2_
  have HO410 := n3_
  have HO414 := n4_
  have HO417 := n5_
  have HO420 := n6_
  have HO424 := n7_
  have BK397 := n8_
  have BK404 := n9_
  have HB := n10_
  clear n0_ n1_ n2_ n3_ n4_ n5_ n6_ n7_ n8_ n9_ n10_
  clear hb ho34
  obtain ⟨Ao35, co35, eo35⟩ := Kd.N_slice HO424.out
  (first | subst eo35 | (injection eo35 with f1_ f2_ f3_; have f4_ := f1_.symm; have f5_ := f3_.symm; clear f1_ f2_ f3_; subst f4_; subst f5_))
  refine hK.out _ _ ⟨(blk_cell BK404.out 0).trans rfl, (blk_cell BK404.out 1).trans rfl⟩ (fun hHeld => ?_)
  clear hK K
  refine norm_ (a' := ?_) ?_ ?_
  rotate_left
  · show Act.put _ (some 37) _ = _
    simp only [Act.put, List.setIfInBounds_toArray, List.set_cons_zero, List.set_cons_succ, i64_w, i32_w]
    rfl
  refine one_ (i := 2) (N := some 38) #[true, true, true, true, false, false, false, false, false, false] rfl rfl (one_of HT_.out (by kernel_rfl)) (by decide) (fun K hK => ?_)
  refine goes_ Tryd.func21 (by kernel_rfl) rfl #[.int .i64 18, .slice Ao35 y422.length co35] (by rfl) rfl rfl (by (try simp only [List.map_toArray, List.map_cons, List.map_nil]); first | done | rfl | (simp only [List.length_drop, List.length_take]; rfl)) ?_
  with_reducible refine (foretellkeep_joined.calls k 18 _ _ y422 t425 _ ?side1 ?side2 A8.out).mono ?_
  (case side1 => repeat (first | exact (Kd.N_reads' HO424.out).2.2 | (with_reducible refine Kd.C_alloc ?_ _) | (with_reducible refine Kd.C_drewN ?_ _) | (with_reducible refine Kd.C_drew ?_)))
  (case side2 => exact (Kd.N_reads' HO424.out).2.1)
  rintro e w36 ⟨v426, rfl, ho0, hb⟩
  refine ⟨_, rfl, ?_⟩
  have n0_ := Aside0.mk (Kd.N_below (by (with_reducible repeat (first | apply Kd.N_alloc | apply Kd.N_drewN | apply Kd.N_drew)); exact HO400.out) hb)
  have n1_ := Aside0.mk (Kd.N_below (by (with_reducible repeat (first | apply Kd.N_alloc | apply Kd.N_drewN | apply Kd.N_drew)); exact HO403.out) hb)
  have n2_ := Aside0.mk (Kd.V_below (by (with_reducible repeat (first | apply Kd.V_alloc | apply Kd.V_drewN | apply Kd.V_drew)); exact HO407.out) hb)
  have n3_ := Aside0.mk (Kd.V_below (by (with_reducible repeat (first | apply Kd.V_alloc | apply Kd.V_drewN | apply Kd.V_drew)); exact HO410.out) hb)
  have n4_ := Aside0.mk (Kd.N_below (by (with_reducible repeat (first | apply Kd.N_alloc | apply Kd.N_drewN | apply Kd.N_drew)); exact HO414.out) hb)
  have n5_ := Aside0.mk (Kd.V_below (by (with_reducible repeat (first | apply Kd.V_alloc | apply Kd.V_drewN | apply Kd.V_drew)); exact HO417.out) hb)
  have n6_ := Aside0.mk (Kd.V_below (by (with_reducible repeat (first | apply Kd.V_alloc | apply Kd.V_drewN | apply Kd.V_drew)); exact HO420.out) hb)
  have n7_ := Aside0.mk (Kd.N_below (by (with_reducible repeat (first | apply Kd.N_alloc | apply Kd.N_drewN | apply Kd.N_drew)); exact HO424.out) hb)
  have n8_ := Aside0.mk (Kd.V_lower (Kd.V_mono (ok' := fun k_ => k_ ≠ gb397 ∧ k_ ≠ gb404) (Kd.R_V (Kd.R_bound ho0)) (fun k_ hk_ => ⟨(Kd.freshB (g := gb397) (o := .cells #[.slice A1_0 l1_0.length c1_0, .slice A1_1 l1_1.length c1_1] 40 (0, 0)) (by (with_reducible repeat (first | refine blk_drewN ?_ _ | refine blk_drew ?_ | refine blk_alloc ?_ _)); exact BK397.out) k_ hk_.2.1), (Kd.freshB (g := gb404) (o := .cells #[.slice Ao15 t398.length co15, .slice Ao18 t401.length co18] 43 (0, 0)) (by (with_reducible repeat (first | refine blk_drewN ?_ _ | refine blk_drew ?_ | refine blk_alloc ?_ _)); exact BK404.out) k_ hk_.2.1)⟩)) (below_size (by repeat (first | (with_reducible first | exact HB.out | apply below_alloc | apply pw_below_drewN | apply below_drew1 | refine below_set ?_ GE397.out | refine below_set ?_ GE404.out) | exact HB.out))))
  have n9_ := Aside0.mk (blk_below (g := gb397) (o := .cells #[.slice A1_0 l1_0.length c1_0, .slice A1_1 l1_1.length c1_1] 40 (0, 0)) (by (with_reducible repeat (first | refine blk_drewN ?_ _ | refine blk_drew ?_ | refine blk_alloc ?_ _)); exact BK397.out) hb)
  have n10_ := Aside0.mk (blk_below (g := gb404) (o := .cells #[.slice Ao15 t398.length co15, .slice Ao18 t401.length co18] 43 (0, 0)) (by (with_reducible repeat (first | refine blk_drewN ?_ _ | refine blk_drew ?_ | refine blk_alloc ?_ _)); exact BK404.out) hb)
  have n11_ := Aside0.mk (below_step (by repeat (first | (with_reducible first | exact HB.out | apply below_alloc | apply pw_below_drewN | apply below_drew1 | refine below_set ?_ GE397.out | refine below_set ?_ GE404.out) | exact HB.out)) hb)
  clear HO400
  clear HO403
  clear HO407
  clear HO410
  clear HO414
  clear HO417
  clear HO420
  clear HO424
  clear BK397
  clear BK404
  clear HB
  have HO400 := n0_
  have HO403 := n1_
  have HO407 := n2_
  have HO410 := n3_
  have HO414 := n4_
  have HO417 := n5_
  have HO420 := n6_
  have HO424 := n7_
  have HO427 := n8_
  have BK397 := n9_
  have BK404 := n10_
  have HB := n11_
  clear n0_ n1_ n2_ n3_ n4_ n5_ n6_ n7_ n8_ n9_ n10_ n11_
  (try clear hb)
  (try clear hb2)
  (try clear hk)
  (try clear hi)
  (try clear ho0)
  obtain ⟨Ao37, co37, eo37⟩ := Kd.V_slice HO427.out
  (first | subst eo37 | (injection eo37 with f1_ f2_ f3_; have f4_ := f1_.symm; have f5_ := f3_.symm; clear f1_ f2_ f3_; subst f4_; subst f5_))
  refine hK.out _ _ ⟨(blk_cell BK404.out 0).trans rfl, (blk_cell BK404.out 1).trans rfl⟩ (fun hHeld => ?_)
  clear hK K
  refine norm_ (a' := ?_) ?_ ?_
  rotate_left
  · show Act.put _ (some 38) _ = _
    simp only [Act.put, List.setIfInBounds_toArray, List.set_cons_zero, List.set_cons_succ, i64_w, i32_w]
    rfl
  refine one_ (i := 4) (N := some 40) #[true, true, true, true, true, false, false, false, false, false] rfl rfl (one_of HT_.out (by kernel_rfl)) (by decide) (fun K hK => ?_)
  refine goes_ Tryd.func24 (by kernel_rfl) rfl #[.slice Ao37 t425.length co37, .agg #[.slice Ao15 t398.length co15, .slice Ao18 t401.length co18], .int .i64 3] (by rfl) rfl rfl (by (try simp only [List.map_toArray, List.map_cons, List.map_nil]); first | done | rfl | (simp only [List.length_drop, List.length_take]; rfl)) ?_
  with_reducible refine (word_Moments.calls k _ _ t425 _ _ t398 _ _ t401 3 t428 t431 _ ?side1 ?side2 ?side3 ?side4 ?side5 ?side6 ?side7 A9.out).mono ?_
  (case side1 => repeat (first | exact (Kd.V_reads' HO427.out).2.2 | (with_reducible refine Kd.C_alloc ?_ _) | (with_reducible refine Kd.C_drewN ?_ _) | (with_reducible refine Kd.C_drew ?_)))
  (case side2 => exact (Kd.V_reads' HO427.out).2.1)
  (case side3 => repeat (first | exact (Kd.N_reads' HO400.out).2.2 | (with_reducible refine Kd.C_alloc ?_ _) | (with_reducible refine Kd.C_drewN ?_ _) | (with_reducible refine Kd.C_drew ?_)))
  (case side4 => exact (Kd.N_reads' HO400.out).2.1)
  (case side5 => repeat (first | exact (Kd.N_reads' HO403.out).2.2 | (with_reducible refine Kd.C_alloc ?_ _) | (with_reducible refine Kd.C_drewN ?_ _) | (with_reducible refine Kd.C_drew ?_)))
  (case side6 => exact (Kd.N_reads' HO403.out).2.1)
  (case side7 => first | exact hG_ | exact Glob.drewN hG_ _ | exact Glob.below hG_ (by repeat (first | (with_reducible first | exact HB.out | apply below_alloc | apply pw_below_drewN | apply below_drew1 | refine below_set ?_ GE397.out | refine below_set ?_ GE404.out) | exact HB.out)))
  rintro e w38 ⟨v429, rfl, ho0, hb⟩
  refine ⟨_, rfl, ?_⟩
  have n0_ := Aside0.mk (Kd.N_below (by (with_reducible repeat (first | apply Kd.N_alloc | apply Kd.N_drewN | apply Kd.N_drew)); exact HO400.out) hb)
  have n1_ := Aside0.mk (Kd.N_below (by (with_reducible repeat (first | apply Kd.N_alloc | apply Kd.N_drewN | apply Kd.N_drew)); exact HO403.out) hb)
  have n2_ := Aside0.mk (Kd.V_below (by (with_reducible repeat (first | apply Kd.V_alloc | apply Kd.V_drewN | apply Kd.V_drew)); exact HO407.out) hb)
  have n3_ := Aside0.mk (Kd.V_below (by (with_reducible repeat (first | apply Kd.V_alloc | apply Kd.V_drewN | apply Kd.V_drew)); exact HO410.out) hb)
  have n4_ := Aside0.mk (Kd.N_below (by (with_reducible repeat (first | apply Kd.N_alloc | apply Kd.N_drewN | apply Kd.N_drew)); exact HO414.out) hb)
  have n5_ := Aside0.mk (Kd.V_below (by (with_reducible repeat (first | apply Kd.V_alloc | apply Kd.V_drewN | apply Kd.V_drew)); exact HO417.out) hb)
  have n6_ := Aside0.mk (Kd.V_below (by (with_reducible repeat (first | apply Kd.V_alloc | apply Kd.V_drewN | apply Kd.V_drew)); exact HO420.out) hb)
  have n7_ := Aside0.mk (Kd.N_below (by (with_reducible repeat (first | apply Kd.N_alloc | apply Kd.N_drewN | apply Kd.N_drew)); exact HO424.out) hb)
  have n8_ := Aside0.mk (Kd.V_below (by (with_reducible repeat (first | apply Kd.V_alloc | apply Kd.V_drewN | apply Kd.V_drew)); exact HO427.out) hb)
  have n9_ := Aside0.mk (Kd.V_lower (Kd.V_mono (ok' := fun k_ => k_ ≠ gb397 ∧ k_ ≠ gb404) (Kd.R_V (Kd.R_bound ho0)) (fun k_ hk_ => ⟨(Kd.freshB (g := gb397) (o := .cells #[.slice A1_0 l1_0.length c1_0, .slice A1_1 l1_1.length c1_1] 40 (0, 0)) (by (with_reducible repeat (first | refine blk_drewN ?_ _ | refine blk_drew ?_ | refine blk_alloc ?_ _)); exact BK397.out) k_ hk_.2.1), (Kd.freshB (g := gb404) (o := .cells #[.slice Ao15 t398.length co15, .slice Ao18 t401.length co18] 43 (0, 0)) (by (with_reducible repeat (first | refine blk_drewN ?_ _ | refine blk_drew ?_ | refine blk_alloc ?_ _)); exact BK404.out) k_ hk_.2.1)⟩)) (below_size (by repeat (first | (with_reducible first | exact HB.out | apply below_alloc | apply pw_below_drewN | apply below_drew1 | refine below_set ?_ GE397.out | refine below_set ?_ GE404.out) | exact HB.out))))
  have n10_ := Aside0.mk (blk_below (g := gb397) (o := .cells #[.slice A1_0 l1_0.length c1_0, .slice A1_1 l1_1.length c1_1] 40 (0, 0)) (by (with_reducible repeat (first | refine blk_drewN ?_ _ | refine blk_drew ?_ | refine blk_alloc ?_ _)); exact BK397.out) hb)
  have n11_ := Aside0.mk (blk_below (g := gb404) (o := .cells #[.slice Ao15 t398.length co15, .slice Ao18 t401.length co18] 43 (0, 0)) (by (with_reducible repeat (first | refine blk_drewN ?_ _ | refine blk_drew ?_ | refine blk_alloc ?_ _)); exact BK404.out) hb)
  have n12_ := Aside0.mk (below_step (by repeat (first | (with_reducible first | exact HB.out | apply below_alloc | apply pw_below_drewN | apply below_drew1 | refine below_set ?_ GE397.out | refine below_set ?_ GE404.out) | exact HB.out)) hb)
  clear HO400
  clear HO403
  clear HO407
  clear HO410
  clear HO414
  clear HO417
  clear HO420
  clear HO424
  clear HO427
  clear BK397
  clear BK404
  clear HB
  have HO400 := n0_
  have HO403 := n1_
  have HO407 := n2_
  have HO410 := n3_
  have HO414 := n4_
  have HO417 := n5_
  have HO420 := n6_
  have HO424 := n7_
  have HO427 := n8_
  have HO430 := n9_
  have BK397 := n10_
  have BK404 := n11_
  have HB := n12_
  clear n0_ n1_ n2_ n3_ n4_ n5_ n6_ n7_ n8_ n9_ n10_ n11_ n12_
  (try clear hb)
  (try clear hb2)
  (try clear hk)
  (try clear hi)
  (try clear ho0)
  refine hK.out _ _ ⟨(blk_cell BK404.out 0).trans rfl, (blk_cell BK404.out 1).trans rfl⟩ (fun hHeld => ?_)
  clear hK K
  refine norm_ (a' := ?_) ?_ ?_
  rotate_left
  · show Act.put _ (some 40) _ = _
    simp only [Act.put, List.setIfInBounds_toArray, List.set_cons_zero, List.set_cons_succ, i64_w, i32_w]
    rfl
  refine pure_ (i := 5) (N := some 35) (v := ?_) (a' := ?_) #[true, true, true, true, true, true, false, false, false, false] rfl rfl (any_of HT_.out (by kernel_rfl)) (fun _ _ _ h => h) (Or.inl ⟨by rfl, ?_⟩) ?_ ?_
  rotate_left
  · intro w'
    go_simp
    with_reducible rfl
  rotate_left
  · simp only [Act.put, List.setIfInBounds_toArray, List.set_cons_zero, List.set_cons_succ, i64_w, i32_w]
    rfl
  refine pure_ (i := 6) (N := some 41) (v := ?_) (a' := ?_) #[true, true, true, true, true, true, true, false, false, false] rfl rfl (any_of HT_.out (by kernel_rfl)) (fun _ _ _ h => h) (Or.inl ⟨by rfl, ?_⟩) ?_ ?_
  rotate_left
  · intro w'
    go_simp
    with_reducible rfl
  rotate_left
  · simp only [Act.put, List.setIfInBounds_toArray, List.set_cons_zero, List.set_cons_succ, i64_w, i32_w]
    rfl
  refine pure_ (i := 7) (N := some 42) (v := ?_) (a' := ?_) #[true, true, true, true, true, true, true, true, false, false] rfl rfl (any_of HT_.out (by kernel_rfl)) (fun _ _ _ h => h) (Or.inl ⟨by rfl, ?_⟩) ?_ ?_
  rotate_left
  · intro w'
    go_simp
    with_reducible rfl
  rotate_left
  · simp only [Act.put, List.setIfInBounds_toArray, List.set_cons_zero, List.set_cons_succ, i64_w, i32_w]
    rfl
  refine pure_ (i := 8) (N := some 11) (v := ?_) (a' := ?_) #[true, true, true, true, true, true, true, true, true, false] rfl rfl (any_of HT_.out (by kernel_rfl)) (fun _ _ _ h => h) (Or.inl ⟨by rfl, ?_⟩) ?_ ?_
  rotate_left
  · intro w'
    go_simp
    with_reducible rfl
  rotate_left
  · simp only [Act.put, List.setIfInBounds_toArray, List.set_cons_zero, List.set_cons_succ, i64_w, i32_w]
    rfl
  refine pure_ (i := 9) (N := some 12) (v := ?_) (a' := ?_) #[true, true, true, true, true, true, true, true, true, true] rfl rfl (any_of HT_.out (by kernel_rfl)) (fun _ _ _ h => h) (Or.inl ⟨by rfl, ?_⟩) ?_ ?_
  rotate_left
  · intro w'
    go_simp
    with_reducible rfl
  rotate_left
  · simp only [Act.put, List.setIfInBounds_toArray, List.set_cons_zero, List.set_cons_succ, i64_w, i32_w]
    rfl
  refine done_ (done_of HT_.out (by kernel_rfl)) ?_
  go_upto_region 6 with (fail)
  go_cut [78] (fun v78 wc => ∃ (kq : Nat) (x78_9 : Bool), v78 = .bool x78_9 ∧ Aside0 (foretellkeep_WordLoop.j0 kq t408 t418 t428 x78_9 t398 t401 = some r) ∧ Aside0 (kq ≤ k) ∧ Aside0 (Kd.V Kd.bool 4 wc w.heap.size (fun k_ => k_ ≠ gb397 ∧ k_ ≠ gb404) (.slice Ao23 t408.length co23) t408) ∧ Aside0 (Kd.V Kd.bool 4 wc w.heap.size (fun k_ => k_ ≠ gb397 ∧ k_ ≠ gb404) (.slice Ao31 t418.length co31) t418) ∧ Aside0 (Kd.V Kd.bool 4 wc w.heap.size (fun k_ => k_ ≠ gb397 ∧ k_ ≠ gb404) v429 t428) ∧ Aside0 (Kd.N (Kd.slice 4 Kd.bool) 30 wc w.heap.size (fun k_ => some k_ ≠ ((.slice Ao18 t401.length co18) : Value).ownBlock ∧ k_ ≠ gb397 ∧ k_ ≠ gb404) (.slice Ao15 t398.length co15) t398) ∧ Aside0 (Kd.N (Kd.slice 4 Kd.bool) 30 wc w.heap.size (fun k_ => some k_ ≠ ((.slice Ao15 t398.length co15) : Value).ownBlock ∧ k_ ≠ gb397 ∧ k_ ≠ gb404) (.slice Ao18 t401.length co18) t401) ∧ Aside0 (wc.heap[gb397]? = some (.cells #[(.slice A1_0 l1_0.length c1_0), (.slice A1_1 l1_1.length c1_1)] 40 (0, 0))) ∧ Aside0 (wc.heap[gb404]? = some (.cells #[(.slice Ao15 t398.length co15), (.slice Ao18 t401.length co18)] 43 (0, 0))) ∧ Aside0 (Below w.heap.size w wc))
  case first =>
    have H := HC10.out
    clear HC10
    by_cases c39 : t411 = 0
    · rw [if_pos c39] at H
      have c39b0 : (t411 == 0) = true := beq_iff_eq.mpr c39
      have c39b1 : (t411 != 0) = false := bne_eq_false_iff_eq.mpr c39
      clear c39
      (first | rw [c39b0] | (simp only [i64_w, i32_w]; rw [c39b0]) | skip)
      by_cases c40 : t421 = 0
      · rw [if_pos c40] at H
        have c40b0 : (t421 == 0) = true := beq_iff_eq.mpr c40
        have c40b1 : (t421 != 0) = false := bne_eq_false_iff_eq.mpr c40
        clear c40
        by_cases c41 : t431 = 0
        · rw [if_pos c41] at H
          have c41b0 : (t431 == 0) = true := beq_iff_eq.mpr c41
          have c41b1 : (t431 != 0) = false := bne_eq_false_iff_eq.mpr c41
          clear c41
          by_cases c42 : (t408.length : Int) = (wrap64 ((t398.length : Int) + (t401.length : Int)))
          · rw [if_pos c42] at H
            have c42b0 : ((t408.length : Int) == (wrap64 ((t398.length : Int) + (t401.length : Int)))) = true := beq_iff_eq.mpr c42
            have c42b1 : ((t408.length : Int) != (wrap64 ((t398.length : Int) + (t401.length : Int)))) = false := bne_eq_false_iff_eq.mpr c42
            clear c42
            by_cases c43 : (t418.length : Int) = (t408.length : Int)
            · rw [if_pos c43] at H
              have c43b0 : ((t418.length : Int) == (t408.length : Int)) = true := beq_iff_eq.mpr c43
              have c43b1 : ((t418.length : Int) != (t408.length : Int)) = false := bne_eq_false_iff_eq.mpr c43
              have c43b2 : (t418.length == t408.length) = true := by first | simpa using c43 | (simp at c43 ⊢; omega)
              clear c43
              have H' := Aside0.mk H
              clear H
              have hnb44 := NB404_397.out
              have hnc44 := NB397_404.out
              have hcz45_0 : w38.cell? ⟨gb404, 0, none⟩ = some (.slice Ao15 t398.length co15) := (blk_cell BK404.out 0).trans rfl
              have hcz45_1 : w38.cell? ⟨gb404, 1, none⟩ = some (.slice Ao18 t401.length co18) := (blk_cell BK404.out 1).trans rfl
              have hfz45_0 := blk_frozen BK404.out 0
              have hfz45_1 := blk_frozen BK404.out 1
              obtain ⟨Ao46, co46, eo46⟩ := Kd.V_slice HO430.out
              subst eo46
              go_wp2
              go_meet
              case rel => exact ⟨_, (((t428.length : Int) != (t408.length : Int))), (by first | rfl | (simp; done) | (simp [*]; done)), H', ⟨by first | omega | exact Nat.le_refl _⟩, ⟨by (with_reducible repeat (first | apply Kd.V_alloc | apply Kd.V_drewN | apply Kd.V_drew)); exact Kd.V_mono HO410.out (fun _ hk => ⟨hk.1.1.1, hk.1.1.2⟩)⟩, ⟨by (with_reducible repeat (first | apply Kd.V_alloc | apply Kd.V_drewN | apply Kd.V_drew)); exact Kd.V_mono HO420.out (fun _ hk => ⟨hk.1.1, hk.1.2⟩)⟩, ⟨by (with_reducible repeat (first | apply Kd.V_alloc | apply Kd.V_drewN | apply Kd.V_drew)); exact HO430.out⟩, ⟨by (with_reducible repeat (first | apply Kd.N_alloc | apply Kd.N_drewN | apply Kd.N_drew)); exact Kd.N_mono HO400.out (fun _ hk => ⟨hk.1.1.1.1, ⟨hk.1.1.1.2, hk.1.1.2⟩⟩)⟩, ⟨by (with_reducible repeat (first | apply Kd.N_alloc | apply Kd.N_drewN | apply Kd.N_drew)); exact Kd.N_mono HO403.out (fun _ hk => ⟨hk.1.1.1.1, ⟨hk.1.1.1.2, hk.1.1.2⟩⟩)⟩, ⟨by (with_reducible repeat (first | refine blk_drewN ?_ _ | refine blk_drew ?_ | refine blk_alloc ?_ _)); exact BK397.out⟩, ⟨by (with_reducible repeat (first | refine blk_drewN ?_ _ | refine blk_drew ?_ | refine blk_alloc ?_ _)); exact BK404.out⟩, ⟨by repeat (first | (with_reducible first | exact HB.out | apply below_alloc | apply pw_below_drewN | apply below_drew1 | refine below_set ?_ GE397.out | refine below_set ?_ GE404.out) | exact HB.out)⟩⟩
            · rw [if_neg c43] at H
              have c43b0 : ((t418.length : Int) == (t408.length : Int)) = false := beq_eq_false_iff_ne.mpr c43
              have c43b1 : ((t418.length : Int) != (t408.length : Int)) = true := bne_iff_ne.mpr c43
              have c43b2 : (t418.length == t408.length) = false := by first | simpa using c43 | (simp at c43 ⊢; omega)
              have H' := Aside0.mk H
              clear H
              have hnb47 := NB404_397.out
              have hnc47 := NB397_404.out
              have hcz48_0 : w38.cell? ⟨gb404, 0, none⟩ = some (.slice Ao15 t398.length co15) := (blk_cell BK404.out 0).trans rfl
              have hcz48_1 : w38.cell? ⟨gb404, 1, none⟩ = some (.slice Ao18 t401.length co18) := (blk_cell BK404.out 1).trans rfl
              have hfz48_0 := blk_frozen BK404.out 0
              have hfz48_1 := blk_frozen BK404.out 1
              go_wp2
              go_meet
              case rel => exact ⟨_, (true), (by first | rfl | (simp; done) | (simp [*]; done)), H', ⟨by first | omega | exact Nat.le_refl _⟩, ⟨by (with_reducible repeat (first | apply Kd.V_alloc | apply Kd.V_drewN | apply Kd.V_drew)); exact Kd.V_mono HO410.out (fun _ hk => ⟨hk.1.1.1, hk.1.1.2⟩)⟩, ⟨by (with_reducible repeat (first | apply Kd.V_alloc | apply Kd.V_drewN | apply Kd.V_drew)); exact Kd.V_mono HO420.out (fun _ hk => ⟨hk.1.1, hk.1.2⟩)⟩, ⟨by (with_reducible repeat (first | apply Kd.V_alloc | apply Kd.V_drewN | apply Kd.V_drew)); exact HO430.out⟩, ⟨by (with_reducible repeat (first | apply Kd.N_alloc | apply Kd.N_drewN | apply Kd.N_drew)); exact Kd.N_mono HO400.out (fun _ hk => ⟨hk.1.1.1.1, ⟨hk.1.1.1.2, hk.1.1.2⟩⟩)⟩, ⟨by (with_reducible repeat (first | apply Kd.N_alloc | apply Kd.N_drewN | apply Kd.N_drew)); exact Kd.N_mono HO403.out (fun _ hk => ⟨hk.1.1.1.1, ⟨hk.1.1.1.2, hk.1.1.2⟩⟩)⟩, ⟨by (with_reducible repeat (first | refine blk_drewN ?_ _ | refine blk_drew ?_ | refine blk_alloc ?_ _)); exact BK397.out⟩, ⟨by (with_reducible repeat (first | refine blk_drewN ?_ _ | refine blk_drew ?_ | refine blk_alloc ?_ _)); exact BK404.out⟩, ⟨by repeat (first | (with_reducible first | exact HB.out | apply below_alloc | apply pw_below_drewN | apply below_drew1 | refine below_set ?_ GE397.out | refine below_set ?_ GE404.out) | exact HB.out)⟩⟩
          · rw [if_neg c42] at H
            have c42b0 : ((t408.length : Int) == (wrap64 ((t398.length : Int) + (t401.length : Int)))) = false := beq_eq_false_iff_ne.mpr c42
            have c42b1 : ((t408.length : Int) != (wrap64 ((t398.length : Int) + (t401.length : Int)))) = true := bne_iff_ne.mpr c42
            have H' := Aside0.mk H
            clear H
            have hnb49 := NB404_397.out
            have hnc49 := NB397_404.out
            have hcz50_0 : w38.cell? ⟨gb404, 0, none⟩ = some (.slice Ao15 t398.length co15) := (blk_cell BK404.out 0).trans rfl
            have hcz50_1 : w38.cell? ⟨gb404, 1, none⟩ = some (.slice Ao18 t401.length co18) := (blk_cell BK404.out 1).trans rfl
            have hfz50_0 := blk_frozen BK404.out 0
            have hfz50_1 := blk_frozen BK404.out 1
            go_wp2
            go_meet
            case rel => exact ⟨_, (true), (by first | rfl | (simp; done) | (simp [*]; done)), H', ⟨by first | omega | exact Nat.le_refl _⟩, ⟨by (with_reducible repeat (first | apply Kd.V_alloc | apply Kd.V_drewN | apply Kd.V_drew)); exact Kd.V_mono HO410.out (fun _ hk => ⟨hk.1.1.1, hk.1.1.2⟩)⟩, ⟨by (with_reducible repeat (first | apply Kd.V_alloc | apply Kd.V_drewN | apply Kd.V_drew)); exact Kd.V_mono HO420.out (fun _ hk => ⟨hk.1.1, hk.1.2⟩)⟩, ⟨by (with_reducible repeat (first | apply Kd.V_alloc | apply Kd.V_drewN | apply Kd.V_drew)); exact HO430.out⟩, ⟨by (with_reducible repeat (first | apply Kd.N_alloc | apply Kd.N_drewN | apply Kd.N_drew)); exact Kd.N_mono HO400.out (fun _ hk => ⟨hk.1.1.1.1, ⟨hk.1.1.1.2, hk.1.1.2⟩⟩)⟩, ⟨by (with_reducible repeat (first | apply Kd.N_alloc | apply Kd.N_drewN | apply Kd.N_drew)); exact Kd.N_mono HO403.out (fun _ hk => ⟨hk.1.1.1.1, ⟨hk.1.1.1.2, hk.1.1.2⟩⟩)⟩, ⟨by (with_reducible repeat (first | refine blk_drewN ?_ _ | refine blk_drew ?_ | refine blk_alloc ?_ _)); exact BK397.out⟩, ⟨by (with_reducible repeat (first | refine blk_drewN ?_ _ | refine blk_drew ?_ | refine blk_alloc ?_ _)); exact BK404.out⟩, ⟨by repeat (first | (with_reducible first | exact HB.out | apply below_alloc | apply pw_below_drewN | apply below_drew1 | refine below_set ?_ GE397.out | refine below_set ?_ GE404.out) | exact HB.out)⟩⟩
        · rw [if_neg c41] at H
          have c41b0 : (t431 == 0) = false := beq_eq_false_iff_ne.mpr c41
          have c41b1 : (t431 != 0) = true := bne_iff_ne.mpr c41
          have H' := Aside0.mk H
          clear H
          go_wp2
          go_meet
          case rel => exact ⟨_, (true), (by first | rfl | (simp; done) | (simp [*]; done)), H', ⟨by first | omega | exact Nat.le_refl _⟩, ⟨by (with_reducible repeat (first | apply Kd.V_alloc | apply Kd.V_drewN | apply Kd.V_drew)); exact Kd.V_mono HO410.out (fun _ hk => ⟨hk.1.1.1, hk.1.1.2⟩)⟩, ⟨by (with_reducible repeat (first | apply Kd.V_alloc | apply Kd.V_drewN | apply Kd.V_drew)); exact Kd.V_mono HO420.out (fun _ hk => ⟨hk.1.1, hk.1.2⟩)⟩, ⟨by (with_reducible repeat (first | apply Kd.V_alloc | apply Kd.V_drewN | apply Kd.V_drew)); exact HO430.out⟩, ⟨by (with_reducible repeat (first | apply Kd.N_alloc | apply Kd.N_drewN | apply Kd.N_drew)); exact Kd.N_mono HO400.out (fun _ hk => ⟨hk.1.1.1.1, ⟨hk.1.1.1.2, hk.1.1.2⟩⟩)⟩, ⟨by (with_reducible repeat (first | apply Kd.N_alloc | apply Kd.N_drewN | apply Kd.N_drew)); exact Kd.N_mono HO403.out (fun _ hk => ⟨hk.1.1.1.1, ⟨hk.1.1.1.2, hk.1.1.2⟩⟩)⟩, ⟨by (with_reducible repeat (first | refine blk_drewN ?_ _ | refine blk_drew ?_ | refine blk_alloc ?_ _)); exact BK397.out⟩, ⟨by (with_reducible repeat (first | refine blk_drewN ?_ _ | refine blk_drew ?_ | refine blk_alloc ?_ _)); exact BK404.out⟩, ⟨by repeat (first | (with_reducible first | exact HB.out | apply below_alloc | apply pw_below_drewN | apply below_drew1 | refine below_set ?_ GE397.out | refine below_set ?_ GE404.out) | exact HB.out)⟩⟩
      · rw [if_neg c40] at H
        have c40b0 : (t421 == 0) = false := beq_eq_false_iff_ne.mpr c40
        have c40b1 : (t421 != 0) = true := bne_iff_ne.mpr c40
        have H' := Aside0.mk H
        clear H
        go_wp2
        go_meet
        case rel => exact ⟨_, (true), (by first | rfl | (simp; done) | (simp [*]; done)), H', ⟨by first | omega | exact Nat.le_refl _⟩, ⟨by (with_reducible repeat (first | apply Kd.V_alloc | apply Kd.V_drewN | apply Kd.V_drew)); exact Kd.V_mono HO410.out (fun _ hk => ⟨hk.1.1.1, hk.1.1.2⟩)⟩, ⟨by (with_reducible repeat (first | apply Kd.V_alloc | apply Kd.V_drewN | apply Kd.V_drew)); exact Kd.V_mono HO420.out (fun _ hk => ⟨hk.1.1, hk.1.2⟩)⟩, ⟨by (with_reducible repeat (first | apply Kd.V_alloc | apply Kd.V_drewN | apply Kd.V_drew)); exact HO430.out⟩, ⟨by (with_reducible repeat (first | apply Kd.N_alloc | apply Kd.N_drewN | apply Kd.N_drew)); exact Kd.N_mono HO400.out (fun _ hk => ⟨hk.1.1.1.1, ⟨hk.1.1.1.2, hk.1.1.2⟩⟩)⟩, ⟨by (with_reducible repeat (first | apply Kd.N_alloc | apply Kd.N_drewN | apply Kd.N_drew)); exact Kd.N_mono HO403.out (fun _ hk => ⟨hk.1.1.1.1, ⟨hk.1.1.1.2, hk.1.1.2⟩⟩)⟩, ⟨by (with_reducible repeat (first | refine blk_drewN ?_ _ | refine blk_drew ?_ | refine blk_alloc ?_ _)); exact BK397.out⟩, ⟨by (with_reducible repeat (first | refine blk_drewN ?_ _ | refine blk_drew ?_ | refine blk_alloc ?_ _)); exact BK404.out⟩, ⟨by repeat (first | (with_reducible first | exact HB.out | apply below_alloc | apply pw_below_drewN | apply below_drew1 | refine below_set ?_ GE397.out | refine below_set ?_ GE404.out) | exact HB.out)⟩⟩
    · rw [if_neg c39] at H
      have c39b0 : (t411 == 0) = false := beq_eq_false_iff_ne.mpr c39
      have c39b1 : (t411 != 0) = true := bne_iff_ne.mpr c39
      (first | rw [c39b0] | (simp only [i64_w, i32_w]; rw [c39b0]) | skip)
      have H' := Aside0.mk H
      clear H
      go_wp2
      go_meet
      case rel => exact ⟨_, (true), (by first | rfl | (simp; done) | (simp [*]; done)), H', ⟨by first | omega | exact Nat.le_refl _⟩, ⟨by (with_reducible repeat (first | apply Kd.V_alloc | apply Kd.V_drewN | apply Kd.V_drew)); exact Kd.V_mono HO410.out (fun _ hk => ⟨hk.1.1.1, hk.1.1.2⟩)⟩, ⟨by (with_reducible repeat (first | apply Kd.V_alloc | apply Kd.V_drewN | apply Kd.V_drew)); exact Kd.V_mono HO420.out (fun _ hk => ⟨hk.1.1, hk.1.2⟩)⟩, ⟨by (with_reducible repeat (first | apply Kd.V_alloc | apply Kd.V_drewN | apply Kd.V_drew)); exact HO430.out⟩, ⟨by (with_reducible repeat (first | apply Kd.N_alloc | apply Kd.N_drewN | apply Kd.N_drew)); exact Kd.N_mono HO400.out (fun _ hk => ⟨hk.1.1.1.1, ⟨hk.1.1.1.2, hk.1.1.2⟩⟩)⟩, ⟨by (with_reducible repeat (first | apply Kd.N_alloc | apply Kd.N_drewN | apply Kd.N_drew)); exact Kd.N_mono HO403.out (fun _ hk => ⟨hk.1.1.1.1, ⟨hk.1.1.1.2, hk.1.1.2⟩⟩)⟩, ⟨by (with_reducible repeat (first | refine blk_drewN ?_ _ | refine blk_drew ?_ | refine blk_alloc ?_ _)); exact BK397.out⟩, ⟨by (with_reducible repeat (first | refine blk_drewN ?_ _ | refine blk_drew ?_ | refine blk_alloc ?_ _)); exact BK404.out⟩, ⟨by repeat (first | (with_reducible first | exact HB.out | apply below_alloc | apply pw_below_drewN | apply below_drew1 | refine below_set ?_ GE397.out | refine below_set ?_ GE404.out) | exact HB.out)⟩⟩
  case rest =>
    clear HC10
    try clear c1
    try clear c2
    try clear p2
    try clear c3
    try clear c4
    try clear c6
    try clear p6
    try clear c16
    try clear c21
    try clear c23
    try clear c24
    try clear c39
    try clear c39b0
    try clear c39b1
    try clear c40
    try clear c40b0
    try clear c40b1
    try clear c41
    try clear c41b0
    try clear c41b1
    try clear c42
    try clear c42b0
    try clear c42b1
    try clear c43
    try clear c43b0
    try clear c43b1
    try clear c43b2
    try clear c44
    try clear c47
    try clear c49
    try clear hcz12_0
    try clear hcz12_1
    try clear hcz17_0
    try clear hcz17_1
    try clear hcz20_0
    try clear hcz20_1
    try clear hcz45_0
    try clear hcz45_1
    try clear hcz48_0
    try clear hcz48_1
    try clear hcz50_0
    try clear hcz50_1
    try clear hfz12_0
    try clear hfz12_1
    try clear hfz17_0
    try clear hfz17_1
    try clear hfz20_0
    try clear hfz20_1
    try clear hfz45_0
    try clear hfz45_1
    try clear hfz48_0
    try clear hfz48_1
    try clear hfz50_0
    try clear hfz50_1
    obtain ⟨kq, x78_9, rfl, HA, HJ9, HO_7, HO_9, HO_11, HO_405000, HO_405001, BK397, BK404, HB⟩ := hcut
    cases kq with
    | zero => exact absurd HA.out (by simp [foretellkeep_WordLoop.j0])
    | succ kj9 =>
      have H := HA.out
      clear HA
      simp only [foretellkeep_WordLoop.j0] at H
      by_cases c51 : x78_9 = true
      · subst c51
        have H1 : (some false) = some r := by rw [if_pos rfl] at H; exact H
        clear H
        have H := H1
        clear H1
        exact absurd ((Option.some.inj H).trans hr_.out) (by decide)
      · replace c51 := Bool.eq_false_iff.mpr c51
        subst c51
        have H1 : (foretellkeep_WordLoop.l0 kj9 t408 t418 t428 0 t398 t401) = some r := by rw [if_neg (show ¬ (false = true) by decide)] at H; exact H
        clear H
        have H := H1
        clear H1
        have H' := Aside0.mk H
        clear H
        go_wp2
        go_loopg [13] kj9 (fun kq v13 w' => ∃ (x13_2 : Int), v13 = .int .i64 x13_2 ∧ Aside0 (foretellkeep_WordLoop.l0 kq t408 t418 t428 x13_2 t398 t401 = some r) ∧ Aside0 (kq ≤ kj9) ∧ Aside0 (Kd.V Kd.bool 4 w' w.heap.size (fun k_ => k_ ≠ gb397 ∧ k_ ≠ gb404) (.slice Ao23 t408.length co23) t408) ∧ Aside0 (Kd.V Kd.bool 4 w' w.heap.size (fun k_ => k_ ≠ gb397 ∧ k_ ≠ gb404) (.slice Ao31 t418.length co31) t418) ∧ Aside0 (Kd.V Kd.bool 4 w' w.heap.size (fun k_ => k_ ≠ gb397 ∧ k_ ≠ gb404) v429 t428) ∧ Aside0 (Kd.N (Kd.slice 4 Kd.bool) 30 w' w.heap.size (fun k_ => some k_ ≠ ((.slice Ao18 t401.length co18) : Value).ownBlock ∧ k_ ≠ gb397 ∧ k_ ≠ gb404) (.slice Ao15 t398.length co15) t398) ∧ Aside0 (Kd.N (Kd.slice 4 Kd.bool) 30 w' w.heap.size (fun k_ => some k_ ≠ ((.slice Ao15 t398.length co15) : Value).ownBlock ∧ k_ ≠ gb397 ∧ k_ ≠ gb404) (.slice Ao18 t401.length co18) t401) ∧ Aside0 (w'.heap[gb397]? = some (.cells #[(.slice A1_0 l1_0.length c1_0), (.slice A1_1 l1_1.length c1_1)] 40 (0, 0))) ∧ Aside0 (w'.heap[gb404]? = some (.cells #[(.slice Ao15 t398.length co15), (.slice Ao18 t401.length co18)] 43 (0, 0))) ∧ Aside0 (Below w.heap.size w w'))
        case atStart => exact ⟨(0), (by first | rfl | (simp; done) | (simp [*]; done)), H', ⟨Nat.le_refl _⟩, ⟨by (with_reducible repeat (first | apply Kd.V_alloc | apply Kd.V_drewN | apply Kd.V_drew)); exact HO_7.out⟩, ⟨by (with_reducible repeat (first | apply Kd.V_alloc | apply Kd.V_drewN | apply Kd.V_drew)); exact HO_9.out⟩, ⟨by (with_reducible repeat (first | apply Kd.V_alloc | apply Kd.V_drewN | apply Kd.V_drew)); exact HO_11.out⟩, ⟨by (with_reducible repeat (first | apply Kd.N_alloc | apply Kd.N_drewN | apply Kd.N_drew)); exact HO_405000.out⟩, ⟨by (with_reducible repeat (first | apply Kd.N_alloc | apply Kd.N_drewN | apply Kd.N_drew)); exact HO_405001.out⟩, ⟨by (with_reducible repeat (first | refine blk_drewN ?_ _ | refine blk_drew ?_ | refine blk_alloc ?_ _)); exact BK397.out⟩, ⟨by (with_reducible repeat (first | refine blk_drewN ?_ _ | refine blk_drew ?_ | refine blk_alloc ?_ _)); exact BK404.out⟩, ⟨by repeat (first | (with_reducible first | exact HB.out | apply below_alloc | apply pw_below_drewN | apply below_drew1 | refine below_set ?_ GE397.out | refine below_set ?_ GE404.out) | exact HB.out)⟩⟩
        case round =>
          clear H'
          try clear c1
          try clear c2
          try clear p2
          try clear c3
          try clear c4
          try clear c5
          try clear c6
          try clear p6
          try clear c16
          try clear c21
          try clear c23
          try clear c24
          try clear c39
          try clear c39b0
          try clear c39b1
          try clear c40
          try clear c40b0
          try clear c40b1
          try clear c41
          try clear c41b0
          try clear c41b1
          try clear c42
          try clear c42b0
          try clear c42b1
          try clear c43
          try clear c43b0
          try clear c43b1
          try clear c43b2
          try clear c44
          try clear c47
          try clear c49
          try clear c51
          try clear hcz12_0
          try clear hcz12_1
          try clear hcz17_0
          try clear hcz17_1
          try clear hcz20_0
          try clear hcz20_1
          try clear hcz45_0
          try clear hcz45_1
          try clear hcz48_0
          try clear hcz48_1
          try clear hcz50_0
          try clear hcz50_1
          try clear hfz12_0
          try clear hfz12_1
          try clear hfz17_0
          try clear hfz17_1
          try clear hfz20_0
          try clear hfz20_1
          try clear hfz45_0
          try clear hfz45_1
          try clear hfz48_0
          try clear hfz48_1
          try clear hfz50_0
          try clear hfz50_1
          try clear p2
          try clear p6
          obtain ⟨x13_2, rfl, HA, HK2, HO_7, HO_9, HO_11, HO_405000, HO_405001, BK397, BK404, HB⟩ := hrel
          cases gk with
          | zero => exact absurd HA.out (by simp [foretellkeep_WordLoop.l0])
          | succ k2 =>
            have H := HA.out
            clear HA
            simp only [foretellkeep_WordLoop.l0] at H
            by_cases c52 : x13_2 < (t408.length : Int)
            · rw [if_pos c52] at H
              have c52b0 : decide (x13_2 < (t408.length : Int)) = true := decide_eq_true c52
              clear c52
              obtain ⟨ji53, hji53⟩ : ∃ j_ : Int, (mn x13_2 (t398.length : Int)) = j_ := ⟨_, rfl⟩
              replace H : (foretellkeep_WordLoop.l1 k2 t408 t418 t428 x13_2 false true ji53 t398 t401) = some r := by first | (rw [hji53] at H; exact H) | (simp only [hji53] at H ⊢; exact H)
              have hji53_ : (if (t398.length : Int) < x13_2 then (t398.length : Int) else x13_2) = ji53 := hji53
              have H' := Aside0.mk H
              clear H
              have hnb54 := NB404_397.out
              have hnc54 := NB397_404.out
              have hcz55_0 : wr.cell? ⟨gb404, 0, none⟩ = some (.slice Ao15 t398.length co15) := (blk_cell BK404.out 0).trans rfl
              have hcz55_1 : wr.cell? ⟨gb404, 1, none⟩ = some (.slice Ao18 t401.length co18) := (blk_cell BK404.out 1).trans rfl
              have hfz55_0 := blk_frozen BK404.out 0
              have hfz55_1 := blk_frozen BK404.out 1
              go_wp2
              go_loopg [14, 15, 16] k2 (fun kq v14 v15 v16 w' => ∃ (x14_3 : Bool) (x15_3 : Bool) (x16_3 : Int), v14 = .bool x14_3 ∧ v15 = .bool x15_3 ∧ v16 = .int .i64 x16_3 ∧ Aside0 (foretellkeep_WordLoop.l1 kq t408 t418 t428 x13_2 x14_3 x15_3 x16_3 t398 t401 = some r) ∧ Aside0 (kq ≤ k2) ∧ Aside0 (Kd.V Kd.bool 4 w' w.heap.size (fun k_ => k_ ≠ gb397 ∧ k_ ≠ gb404) (.slice Ao23 t408.length co23) t408) ∧ Aside0 (Kd.V Kd.bool 4 w' w.heap.size (fun k_ => k_ ≠ gb397 ∧ k_ ≠ gb404) (.slice Ao31 t418.length co31) t418) ∧ Aside0 (Kd.V Kd.bool 4 w' w.heap.size (fun k_ => k_ ≠ gb397 ∧ k_ ≠ gb404) v429 t428) ∧ Aside0 (Kd.N (Kd.slice 4 Kd.bool) 30 w' w.heap.size (fun k_ => some k_ ≠ ((.slice Ao18 t401.length co18) : Value).ownBlock ∧ k_ ≠ gb397 ∧ k_ ≠ gb404) (.slice Ao15 t398.length co15) t398) ∧ Aside0 (Kd.N (Kd.slice 4 Kd.bool) 30 w' w.heap.size (fun k_ => some k_ ≠ ((.slice Ao15 t398.length co15) : Value).ownBlock ∧ k_ ≠ gb397 ∧ k_ ≠ gb404) (.slice Ao18 t401.length co18) t401) ∧ Aside0 (w'.heap[gb397]? = some (.cells #[(.slice A1_0 l1_0.length c1_0), (.slice A1_1 l1_1.length c1_1)] 40 (0, 0))) ∧ Aside0 (w'.heap[gb404]? = some (.cells #[(.slice Ao15 t398.length co15), (.slice Ao18 t401.length co18)] 43 (0, 0))) ∧ Aside0 (Below w.heap.size w w'))
              case atStart => exact ⟨(false), (true), (ji53), (by first | rfl | (simp; done) | (simp [*]; done)), (by first | rfl | (simp; done) | (simp [*]; done)), (by first | rfl | (simp; done) | (simp only [← hji53] <;> (first | rfl | simp)) | (simp [*]; done)), H', ⟨Nat.le_refl _⟩, ⟨by (with_reducible repeat (first | apply Kd.V_alloc | apply Kd.V_drewN | apply Kd.V_drew)); exact HO_7.out⟩, ⟨by (with_reducible repeat (first | apply Kd.V_alloc | apply Kd.V_drewN | apply Kd.V_drew)); exact HO_9.out⟩, ⟨by (with_reducible repeat (first | apply Kd.V_alloc | apply Kd.V_drewN | apply Kd.V_drew)); exact HO_11.out⟩, ⟨by (with_reducible repeat (first | apply Kd.N_alloc | apply Kd.N_drewN | apply Kd.N_drew)); exact HO_405000.out⟩, ⟨by (with_reducible repeat (first | apply Kd.N_alloc | apply Kd.N_drewN | apply Kd.N_drew)); exact HO_405001.out⟩, ⟨by (with_reducible repeat (first | refine blk_drewN ?_ _ | refine blk_drew ?_ | refine blk_alloc ?_ _)); exact BK397.out⟩, ⟨by (with_reducible repeat (first | refine blk_drewN ?_ _ | refine blk_drew ?_ | refine blk_alloc ?_ _)); exact BK404.out⟩, ⟨by repeat (first | (with_reducible first | exact HB.out | apply below_alloc | apply pw_below_drewN | apply below_drew1 | refine below_set ?_ GE397.out | refine below_set ?_ GE404.out) | exact HB.out)⟩⟩
              case round =>
                clear H'
                try clear c1
                try clear c2
                try clear p2
                try clear c3
                try clear c4
                try clear c5
                try clear c6
                try clear p6
                try clear c16
                try clear c21
                try clear c23
                try clear c24
                try clear c39
                try clear c39b0
                try clear c39b1
                try clear c40
                try clear c40b0
                try clear c40b1
                try clear c41
                try clear c41b0
                try clear c41b1
                try clear c42
                try clear c42b0
                try clear c42b1
                try clear c43
                try clear c43b0
                try clear c43b1
                try clear c43b2
                try clear c44
                try clear c47
                try clear c49
                try clear c51
                try clear c52
                try clear c52b0
                try clear c54
                try clear hcz12_0
                try clear hcz12_1
                try clear hcz17_0
                try clear hcz17_1
                try clear hcz20_0
                try clear hcz20_1
                try clear hcz45_0
                try clear hcz45_1
                try clear hcz48_0
                try clear hcz48_1
                try clear hcz50_0
                try clear hcz50_1
                try clear hcz55_0
                try clear hcz55_1
                try clear hfz12_0
                try clear hfz12_1
                try clear hfz17_0
                try clear hfz17_1
                try clear hfz20_0
                try clear hfz20_1
                try clear hfz45_0
                try clear hfz45_1
                try clear hfz48_0
                try clear hfz48_1
                try clear hfz50_0
                try clear hfz50_1
                try clear hfz55_0
                try clear hfz55_1
                try clear p2
                try clear p6
                obtain ⟨x14_3, x15_3, x16_3, rfl, rfl, rfl, HA, HK3, HO_7, HO_9, HO_11, HO_405000, HO_405001, BK397, BK404, HB⟩ := hrel
                cases gk with
                | zero => exact absurd HA.out (by simp [foretellkeep_WordLoop.l1])
                | succ k3 =>
                  have H := HA.out
                  clear HA
                  simp only [foretellkeep_WordLoop.l1] at H
                  by_cases c56 : x16_3 < (t408.length : Int)
                  · rw [if_pos c56] at H
                    have c56b0 : decide (x16_3 < (t408.length : Int)) = true := decide_eq_true c56
                    clear c56
                    by_cases c57 : x14_3 = true
                    · subst c57
                      have H1 : (if x15_3 = true then (if 0 ≤ x16_3 then (foretellkeep_WordLoop.l1 k3 t408 t418 t428 x13_2 true (rdOf false t408 x16_3) (wrap64 (x16_3 + 1)) t398 t401) else (none)) else (foretellkeep_WordLoop.l1 k3 t408 t418 t428 x13_2 true false (wrap64 (x16_3 + 1)) t398 t401)) = some r := by rw [if_pos rfl] at H; exact H
                      clear H
                      have H := H1
                      clear H1
                      by_cases c58 : x15_3 = true
                      · subst c58
                        have H1 : (if 0 ≤ x16_3 then (foretellkeep_WordLoop.l1 k3 t408 t418 t428 x13_2 true (rdOf false t408 x16_3) (wrap64 (x16_3 + 1)) t398 t401) else (none)) = some r := by rw [if_pos rfl] at H; exact H
                        clear H
                        have H := H1
                        clear H1
                        by_cases c59 : 0 ≤ x16_3
                        · rw [if_pos c59] at H
                          have c59b0 : decide (0 ≤ x16_3) = true := decide_eq_true c59
                          clear c59
                          have H' := Aside0.mk H
                          clear H
                          have p432 : 0 ≤ (x16_3 : Int) := of_decide_eq_true (by first | (with_reducible assumption) | assumption)
                          have q432 : x16_3 < (t408.length : Int) := of_decide_eq_true (by first | (with_reducible assumption) | assumption)
                          obtain ⟨ad432, e432, hx432_0⟩ := Kd.at_bool (Kd.V_reads' HO_7.out).2.2 x16_3 p432 q432
                          cases e432
                          replace p432 := eq_true p432
                          replace q432 := eq_true q432
                          go_wp2
                          go_roundg k3
                          case measure => have := HJ9.out; have := HK2.out; have := HK3.out; omega
                          case rel => exact ⟨(true), (rdOf false t408 x16_3), (wrap64 (x16_3 + 1)), (by first | rfl | (simp; done) | (simp [*]; done)), (by first | rfl | (simp; done) | (simp [*]; done)), (by first | rfl | (simp; done) | (simp [*]; done)), (by first | exact H' | (rw [hji53]; exact H')), ⟨by have := HJ9.out; have := HK2.out; have := HK3.out; omega⟩, ⟨by (with_reducible repeat (first | apply Kd.V_alloc | apply Kd.V_drewN | apply Kd.V_drew)); exact HO_7.out⟩, ⟨by (with_reducible repeat (first | apply Kd.V_alloc | apply Kd.V_drewN | apply Kd.V_drew)); exact HO_9.out⟩, ⟨by (with_reducible repeat (first | apply Kd.V_alloc | apply Kd.V_drewN | apply Kd.V_drew)); exact HO_11.out⟩, ⟨by (with_reducible repeat (first | apply Kd.N_alloc | apply Kd.N_drewN | apply Kd.N_drew)); exact HO_405000.out⟩, ⟨by (with_reducible repeat (first | apply Kd.N_alloc | apply Kd.N_drewN | apply Kd.N_drew)); exact HO_405001.out⟩, ⟨by (with_reducible repeat (first | refine blk_drewN ?_ _ | refine blk_drew ?_ | refine blk_alloc ?_ _)); exact BK397.out⟩, ⟨by (with_reducible repeat (first | refine blk_drewN ?_ _ | refine blk_drew ?_ | refine blk_alloc ?_ _)); exact BK404.out⟩, ⟨by repeat (first | (with_reducible first | exact HB.out | apply below_alloc | apply pw_below_drewN | apply below_drew1 | refine below_set ?_ GE397.out | refine below_set ?_ GE404.out) | exact HB.out)⟩⟩
                        · rw [if_neg c59] at H
                          exact absurd H (by simp)
                      · replace c58 := Bool.eq_false_iff.mpr c58
                        subst c58
                        have H1 : (foretellkeep_WordLoop.l1 k3 t408 t418 t428 x13_2 true false (wrap64 (x16_3 + 1)) t398 t401) = some r := by rw [if_neg (show ¬ (false = true) by decide)] at H; exact H
                        clear H
                        have H := H1
                        clear H1
                        have H' := Aside0.mk H
                        clear H
                        go_wp2
                        go_roundg k3
                        case measure => have := HJ9.out; have := HK2.out; have := HK3.out; omega
                        case rel => exact ⟨(true), (false), (wrap64 (x16_3 + 1)), (by first | rfl | (simp; done) | (simp [*]; done)), (by first | rfl | (simp; done) | (simp [*]; done)), (by first | rfl | (simp; done) | (simp [*]; done)), (by first | exact H' | (rw [hji53]; exact H')), ⟨by have := HJ9.out; have := HK2.out; have := HK3.out; omega⟩, ⟨by (with_reducible repeat (first | apply Kd.V_alloc | apply Kd.V_drewN | apply Kd.V_drew)); exact HO_7.out⟩, ⟨by (with_reducible repeat (first | apply Kd.V_alloc | apply Kd.V_drewN | apply Kd.V_drew)); exact HO_9.out⟩, ⟨by (with_reducible repeat (first | apply Kd.V_alloc | apply Kd.V_drewN | apply Kd.V_drew)); exact HO_11.out⟩, ⟨by (with_reducible repeat (first | apply Kd.N_alloc | apply Kd.N_drewN | apply Kd.N_drew)); exact HO_405000.out⟩, ⟨by (with_reducible repeat (first | apply Kd.N_alloc | apply Kd.N_drewN | apply Kd.N_drew)); exact HO_405001.out⟩, ⟨by (with_reducible repeat (first | refine blk_drewN ?_ _ | refine blk_drew ?_ | refine blk_alloc ?_ _)); exact BK397.out⟩, ⟨by (with_reducible repeat (first | refine blk_drewN ?_ _ | refine blk_drew ?_ | refine blk_alloc ?_ _)); exact BK404.out⟩, ⟨by repeat (first | (with_reducible first | exact HB.out | apply below_alloc | apply pw_below_drewN | apply below_drew1 | refine below_set ?_ GE397.out | refine below_set ?_ GE404.out) | exact HB.out)⟩⟩
                    · replace c57 := Bool.eq_false_iff.mpr c57
                      subst c57
                      have H1 : (if 0 ≤ x16_3 then (if x15_3 = true then (foretellkeep_WordLoop.l1 k3 t408 t418 t428 x13_2 (rdOf false t408 x16_3) (rdOf false t408 x16_3) (wrap64 (x16_3 + 1)) t398 t401) else (foretellkeep_WordLoop.l1 k3 t408 t418 t428 x13_2 (rdOf false t408 x16_3) false (wrap64 (x16_3 + 1)) t398 t401)) else (none)) = some r := by rw [if_neg (show ¬ (false = true) by decide)] at H; exact H
                      clear H
                      have H := H1
                      clear H1
                      by_cases c60 : 0 ≤ x16_3
                      · rw [if_pos c60] at H
                        have c60b0 : decide (0 ≤ x16_3) = true := decide_eq_true c60
                        clear c60
                        by_cases c61 : x15_3 = true
                        · subst c61
                          have H1 : (foretellkeep_WordLoop.l1 k3 t408 t418 t428 x13_2 (rdOf false t408 x16_3) (rdOf false t408 x16_3) (wrap64 (x16_3 + 1)) t398 t401) = some r := by rw [if_pos rfl] at H; exact H
                          clear H
                          have H := H1
                          clear H1
                          have H' := Aside0.mk H
                          clear H
                          have p433 : 0 ≤ (x16_3 : Int) := of_decide_eq_true (by first | (with_reducible assumption) | assumption)
                          have q433 : x16_3 < (t408.length : Int) := of_decide_eq_true (by first | (with_reducible assumption) | assumption)
                          obtain ⟨ad433, e433, hx433_0⟩ := Kd.at_bool (Kd.V_reads' HO_7.out).2.2 x16_3 p433 q433
                          cases e433
                          replace p433 := eq_true p433
                          replace q433 := eq_true q433
                          have p434 : 0 ≤ (x16_3 : Int) := of_decide_eq_true (by first | (with_reducible assumption) | assumption)
                          have q434 : x16_3 < (t408.length : Int) := of_decide_eq_true (by first | (with_reducible assumption) | assumption)
                          obtain ⟨ad434, e434, hx434_0⟩ := Kd.at_bool (Kd.V_reads' HO_7.out).2.2 x16_3 p434 q434
                          obtain rfl : ad433 = ad434 := (by injection e434)
                          replace p434 := eq_true p434
                          replace q434 := eq_true q434
                          go_wp2
                          go_roundg k3
                          case measure => have := HJ9.out; have := HK2.out; have := HK3.out; omega
                          case rel => exact ⟨(rdOf false t408 x16_3), (rdOf false t408 x16_3), (wrap64 (x16_3 + 1)), (by first | rfl | (simp; done) | (simp [*]; done)), (by first | rfl | (simp; done) | (simp [*]; done)), (by first | rfl | (simp; done) | (simp [*]; done)), (by first | exact H' | (rw [hji53]; exact H')), ⟨by have := HJ9.out; have := HK2.out; have := HK3.out; omega⟩, ⟨by (with_reducible repeat (first | apply Kd.V_alloc | apply Kd.V_drewN | apply Kd.V_drew)); exact HO_7.out⟩, ⟨by (with_reducible repeat (first | apply Kd.V_alloc | apply Kd.V_drewN | apply Kd.V_drew)); exact HO_9.out⟩, ⟨by (with_reducible repeat (first | apply Kd.V_alloc | apply Kd.V_drewN | apply Kd.V_drew)); exact HO_11.out⟩, ⟨by (with_reducible repeat (first | apply Kd.N_alloc | apply Kd.N_drewN | apply Kd.N_drew)); exact HO_405000.out⟩, ⟨by (with_reducible repeat (first | apply Kd.N_alloc | apply Kd.N_drewN | apply Kd.N_drew)); exact HO_405001.out⟩, ⟨by (with_reducible repeat (first | refine blk_drewN ?_ _ | refine blk_drew ?_ | refine blk_alloc ?_ _)); exact BK397.out⟩, ⟨by (with_reducible repeat (first | refine blk_drewN ?_ _ | refine blk_drew ?_ | refine blk_alloc ?_ _)); exact BK404.out⟩, ⟨by repeat (first | (with_reducible first | exact HB.out | apply below_alloc | apply pw_below_drewN | apply below_drew1 | refine below_set ?_ GE397.out | refine below_set ?_ GE404.out) | exact HB.out)⟩⟩
                        · replace c61 := Bool.eq_false_iff.mpr c61
                          subst c61
                          have H1 : (foretellkeep_WordLoop.l1 k3 t408 t418 t428 x13_2 (rdOf false t408 x16_3) false (wrap64 (x16_3 + 1)) t398 t401) = some r := by rw [if_neg (show ¬ (false = true) by decide)] at H; exact H
                          clear H
                          have H := H1
                          clear H1
                          have H' := Aside0.mk H
                          clear H
                          have p433 : 0 ≤ (x16_3 : Int) := of_decide_eq_true (by first | (with_reducible assumption) | assumption)
                          have q433 : x16_3 < (t408.length : Int) := of_decide_eq_true (by first | (with_reducible assumption) | assumption)
                          obtain ⟨ad433, e433, hx433_0⟩ := Kd.at_bool (Kd.V_reads' HO_7.out).2.2 x16_3 p433 q433
                          cases e433
                          replace p433 := eq_true p433
                          replace q433 := eq_true q433
                          go_wp2
                          go_roundg k3
                          case measure => have := HJ9.out; have := HK2.out; have := HK3.out; omega
                          case rel => exact ⟨(rdOf false t408 x16_3), (false), (wrap64 (x16_3 + 1)), (by first | rfl | (simp; done) | (simp [*]; done)), (by first | rfl | (simp; done) | (simp [*]; done)), (by first | rfl | (simp; done) | (simp [*]; done)), (by first | exact H' | (rw [hji53]; exact H')), ⟨by have := HJ9.out; have := HK2.out; have := HK3.out; omega⟩, ⟨by (with_reducible repeat (first | apply Kd.V_alloc | apply Kd.V_drewN | apply Kd.V_drew)); exact HO_7.out⟩, ⟨by (with_reducible repeat (first | apply Kd.V_alloc | apply Kd.V_drewN | apply Kd.V_drew)); exact HO_9.out⟩, ⟨by (with_reducible repeat (first | apply Kd.V_alloc | apply Kd.V_drewN | apply Kd.V_drew)); exact HO_11.out⟩, ⟨by (with_reducible repeat (first | apply Kd.N_alloc | apply Kd.N_drewN | apply Kd.N_drew)); exact HO_405000.out⟩, ⟨by (with_reducible repeat (first | apply Kd.N_alloc | apply Kd.N_drewN | apply Kd.N_drew)); exact HO_405001.out⟩, ⟨by (with_reducible repeat (first | refine blk_drewN ?_ _ | refine blk_drew ?_ | refine blk_alloc ?_ _)); exact BK397.out⟩, ⟨by (with_reducible repeat (first | refine blk_drewN ?_ _ | refine blk_drew ?_ | refine blk_alloc ?_ _)); exact BK404.out⟩, ⟨by repeat (first | (with_reducible first | exact HB.out | apply below_alloc | apply pw_below_drewN | apply below_drew1 | refine below_set ?_ GE397.out | refine below_set ?_ GE404.out) | exact HB.out)⟩⟩
                      · rw [if_neg c60] at H
                        exact absurd H (by simp)
                  · rw [if_neg c56] at H
                    have c56b0 : decide (x16_3 < (t408.length : Int)) = false := decide_eq_false c56
                    clear c56
                    by_cases c62 : 0 ≤ x13_2
                    · rw [if_pos c62] at H
                      have c62b0 : decide (0 ≤ x13_2) = true := decide_eq_true c62
                      clear c62
                      by_cases c63 : x13_2 < (t418.length : Int)
                      · rw [if_pos c63] at H
                        have c63b0 : decide (x13_2 < (t418.length : Int)) = true := decide_eq_true c63
                        clear c63
                        by_cases c64 : ((rdOf false t418 x13_2) != x14_3) = true
                        · rw [if_pos c64] at H
                          exact absurd ((Option.some.inj H).trans hr_.out) (by decide)
                        · rw [if_neg c64] at H
                          have c64b0 : ((rdOf false t418 x13_2) != x14_3) = false := by simpa using c64
                          (try (have c64b1 : decide ((rdOf false t418 x13_2) = x14_3) = true := by simpa using c64))
                          (try (have c64b2 : ((rdOf false t418 x13_2) == x14_3) = true := by simpa using c64))
                          clear c64
                          by_cases c65 : x13_2 < (t428.length : Int)
                          · rw [if_pos c65] at H
                            have c65b0 : decide (x13_2 < (t428.length : Int)) = true := decide_eq_true c65
                            clear c65
                            by_cases c66 : ((rdOf false t428 x13_2) != x15_3) = true
                            · rw [if_pos c66] at H
                              exact absurd ((Option.some.inj H).trans hr_.out) (by decide)
                            · rw [if_neg c66] at H
                              have c66b0 : ((rdOf false t428 x13_2) != x15_3) = false := by simpa using c66
                              (try (have c66b1 : decide ((rdOf false t428 x13_2) = x15_3) = true := by simpa using c66))
                              (try (have c66b2 : ((rdOf false t428 x13_2) == x15_3) = true := by simpa using c66))
                              clear c66
                              have H' := Aside0.mk H
                              clear H
                              have p435 : 0 ≤ (x13_2 : Int) := of_decide_eq_true (by first | (with_reducible assumption) | assumption)
                              have q435 : x13_2 < (t418.length : Int) := of_decide_eq_true (by first | (with_reducible assumption) | assumption)
                              obtain ⟨ad435, e435, hx435_0⟩ := Kd.at_bool (Kd.V_reads' HO_9.out).2.2 x13_2 p435 q435
                              cases e435
                              replace p435 := eq_true p435
                              replace q435 := eq_true q435
                              obtain ⟨Ao67, co67, eo67⟩ := Kd.V_slice HO_11.out
                              subst eo67
                              have p436 : 0 ≤ (x13_2 : Int) := of_decide_eq_true (by first | (with_reducible assumption) | assumption)
                              have q436 : x13_2 < (t428.length : Int) := of_decide_eq_true (by first | (with_reducible assumption) | assumption)
                              obtain ⟨ad436, e436, hx436_0⟩ := Kd.at_bool (Kd.V_reads' HO_11.out).2.2 x13_2 p436 q436
                              cases e436
                              replace p436 := eq_true p436
                              replace q436 := eq_true q436
                              go_wp2
                              go_roundg k3
                              case measure => have := HJ9.out; have := HK2.out; have := HK3.out; omega
                              case rel => exact ⟨(wrap64 (x13_2 + 1)), (by first | rfl | (simp; done) | (simp [*]; done)), (by first | exact H' | (rw [hji53]; exact H')), ⟨by have := HJ9.out; have := HK2.out; have := HK3.out; omega⟩, ⟨by (with_reducible repeat (first | apply Kd.V_alloc | apply Kd.V_drewN | apply Kd.V_drew)); exact HO_7.out⟩, ⟨by (with_reducible repeat (first | apply Kd.V_alloc | apply Kd.V_drewN | apply Kd.V_drew)); exact HO_9.out⟩, ⟨by (with_reducible repeat (first | apply Kd.V_alloc | apply Kd.V_drewN | apply Kd.V_drew)); exact HO_11.out⟩, ⟨by (with_reducible repeat (first | apply Kd.N_alloc | apply Kd.N_drewN | apply Kd.N_drew)); exact HO_405000.out⟩, ⟨by (with_reducible repeat (first | apply Kd.N_alloc | apply Kd.N_drewN | apply Kd.N_drew)); exact HO_405001.out⟩, ⟨by (with_reducible repeat (first | refine blk_drewN ?_ _ | refine blk_drew ?_ | refine blk_alloc ?_ _)); exact BK397.out⟩, ⟨by (with_reducible repeat (first | refine blk_drewN ?_ _ | refine blk_drew ?_ | refine blk_alloc ?_ _)); exact BK404.out⟩, ⟨by repeat (first | (with_reducible first | exact HB.out | apply below_alloc | apply pw_below_drewN | apply below_drew1 | refine below_set ?_ GE397.out | refine below_set ?_ GE404.out) | exact HB.out)⟩⟩
                          · rw [if_neg c65] at H
                            exact absurd H (by simp)
                      · rw [if_neg c63] at H
                        exact absurd H (by simp)
                    · rw [if_neg c62] at H
                      exact absurd H (by simp)
            · rw [if_neg c52] at H
              have c52b0 : decide (x13_2 < (t408.length : Int)) = false := decide_eq_false c52
              clear c52
              obtain rfl := Option.some.inj H
              go_wp2
              go_ret
              exact ⟨by first | rfl | (simp [errW_none, errW_some] <;> rfl) | (simp [*, errW_none, errW_some] <;> rfl), by repeat (first | (with_reducible first | exact HB.out | apply below_alloc | apply pw_below_drewN | apply below_drew1 | refine below_set ?_ GE397.out | refine below_set ?_ GE404.out) | exact HB.out)⟩

end Go.Proofs.YtcoaeefmmnohkaaDoor.P
