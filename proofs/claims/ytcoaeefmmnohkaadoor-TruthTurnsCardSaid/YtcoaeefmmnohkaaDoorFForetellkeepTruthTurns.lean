-- a walk, laid out by a program of this repo over the seat's translation
import Derived.Test.YtcoaeefmmnohkaaDoorF0
import Derived.Test.YtcoaeefmmnohkaaDoorFForetellkeepPicked
import Derived.Test.YtcoaeefmmnohkaaDoorFForetellkeepFormula
import Derived.Test.YtcoaeefmmnohkaaDoorFLogicAhead
import Derived.Test.YtcoaeefmmnohkaaDoorFLogicTruths
import Derived.Test.YtcoaeefmmnohkaaDoorFForetellkeepLetter
import Derived.Test.YtcoaeefmmnohkaaDoorFForetellkeepJoined
namespace Go.Proofs.YtcoaeefmmnohkaaDoor.P
open Go.RowKit Go.Proofs.YtcoaeefmmnohkaaDoorW.PrintWords Go.Proofs.YtcoaeefmmnohkaaDoorW.PrintLast Go.Proofs.YtcoaeefmmnohkaaDoorW.PrintMore Go.Proofs.YtcoaeefmmnohkaaDoor.G
attribute [local go_sem] max2_int min2_int max_two min_two max_three min_three max_four min_four   -- for this text's walks alone
set_option linter.unusedVariables false
set_option linter.unusedSimpArgs false

/-! ### foretellkeep_TruthTurns: function 3 -/
mutual
def foretellkeep_TruthTurns.j0 : Nat → List Int → Int → List Bool → List Bool → Bool → Option (Bool)
  | 0, _, _, _, _, _ => none
  | k + 1, x8, x10, x11, x13, x80 => if x80 = true then (some false) else (foretellkeep_TruthTurns.l0 k x8 x10 x11 x13 0)
def foretellkeep_TruthTurns.l0 : Nat → List Int → Int → List Bool → List Bool → Int → Option (Bool)
  | 0, _, _, _, _, _ => none
  | k + 1, x8, x10, x11, x13, x15 => if x15 < (x8.length : Int) then (if 0 ≤ x15 then (if 0 ≤ (rd x8 x15) then (if (rd x8 x15) < (x11.length : Int) then (if ((rdOf false x11 (rd x8 x15)) != ((Go.bits .and .i64 (shr .i64 x10 x15) 1) == 1)) = true then (some false) else (foretellkeep_TruthTurns.l0 k x8 x10 x11 x13 (wrap64 (x15 + 1)))) else (none)) else (none)) else (none)) else (foretellkeep_TruthTurns.l1 k x11 x13 0)
def foretellkeep_TruthTurns.l1 : Nat → List Bool → List Bool → Int → Option (Bool)
  | 0, _, _, _ => none
  | k + 1, x11, x13, x16 => if x16 < (x11.length : Int) then (if 0 ≤ x16 then (if 0 ≤ (wrap64 (x16 + 1)) then (if (wrap64 (x16 + 1)) < (x13.length : Int) then (if ((rdOf false x11 x16) != (rdOf false x13 (wrap64 (x16 + 1)))) = true then (some false) else (foretellkeep_TruthTurns.l1 k x11 x13 (wrap64 (x16 + 1)))) else (none)) else (none)) else (none)) else (some true)
end
def foretellkeep_TruthTurns.f (k : Nat) (l0 : List (S79)) (a1 : Int) (a2 : Int) : Option (Bool) := (foretellkeep_Formula.f k l0 3 4).bind fun t131 => ((logic_Ahead.f k t131 3).bind fun bt134 => ((foretellkeep_picked.f a2 (shl .i64 1 (bt134.1.length : Int))).bind fun t138 => ((foretellkeep_letter.f a1).bind fun t139 => ((logic_Truths.f k t131 t139 t138).bind fun bt142 => ((foretellkeep_joined.f k 10 (([t131] : List (List (S51))))).bind fun t149 => ((foretellkeep_letter.f a1).bind fun t152 => ((logic_Truths.f k t149 t152 t138).bind fun bt155 => (if bt134.2 = 0 then (if bt142.2 = 0 then (if bt155.2 = 0 then (if (bt142.1.length : Int) = (t131.length : Int) then (if (bt155.1.length : Int) = (wrap64 ((t131.length : Int) + 1)) then (if 0 < (bt155.1.length : Int) then (if 0 < (bt142.1.length : Int) then (foretellkeep_TruthTurns.j0 k bt134.1 t138 bt142.1 bt155.1 ((rdOf false bt155.1 0) == (rdOf false bt142.1 0))) else (none)) else (none)) else (foretellkeep_TruthTurns.j0 k bt134.1 t138 bt142.1 bt155.1 true)) else (foretellkeep_TruthTurns.j0 k bt134.1 t138 bt142.1 bt155.1 true)) else (foretellkeep_TruthTurns.j0 k bt134.1 t138 bt142.1 bt155.1 true)) else (foretellkeep_TruthTurns.j0 k bt134.1 t138 bt142.1 bt155.1 true)) else (foretellkeep_TruthTurns.j0 k bt134.1 t138 bt142.1 bt155.1 true)))))))))
theorem foretellkeep_TruthTurns.mono_l : ∀ k, (∀ y0 y1 y2 y3 y4, LeO (foretellkeep_TruthTurns.j0 k y0 y1 y2 y3 y4) (foretellkeep_TruthTurns.j0 (k + 1) y0 y1 y2 y3 y4)) ∧ (∀ y0 y1 y2 y3 y4, LeO (foretellkeep_TruthTurns.l0 k y0 y1 y2 y3 y4) (foretellkeep_TruthTurns.l0 (k + 1) y0 y1 y2 y3 y4)) ∧ (∀ y0 y1 y2, LeO (foretellkeep_TruthTurns.l1 k y0 y1 y2) (foretellkeep_TruthTurns.l1 (k + 1) y0 y1 y2))
  | 0 => ⟨fun _ _ _ _ _ r h => by simp [foretellkeep_TruthTurns.j0] at h, fun _ _ _ _ _ r h => by simp [foretellkeep_TruthTurns.l0] at h, fun _ _ _ r h => by simp [foretellkeep_TruthTurns.l1] at h⟩
  | k + 1 => by
    obtain ⟨ih0, ih1, ih2⟩ := foretellkeep_TruthTurns.mono_l k
    refine ⟨?_, ?_, ?_⟩
    · intro y0 y1 y2 y3 y4
      unfold foretellkeep_TruthTurns.j0
      repeat' first
      | (with_reducible exact ih0 _ _ _ _ _)
      | (with_reducible exact ih1 _ _ _ _ _)
      | (with_reducible exact ih2 _ _ _)
      | (with_reducible exact foretellkeep_Formula.mono _ _ _ _)
      | (with_reducible exact foretellkeep_joined.mono _ _ _)
      | (with_reducible exact logic_Ahead.mono _ _ _)
      | (with_reducible exact logic_Truths.mono _ _ _ _)
      | (with_reducible exact LeO.refl _)
      | (with_reducible exact LeO.none _)
      | (with_reducible refine LeO.ite ?_ ?_)
      | (with_reducible refine LeO.bind ?_ (fun _ => ?_))
      | exact ih0 _ _ _ _ _
      | exact ih1 _ _ _ _ _
      | exact ih2 _ _ _
      | exact foretellkeep_Formula.mono _ _ _ _
      | exact foretellkeep_joined.mono _ _ _
      | exact logic_Ahead.mono _ _ _
      | exact logic_Truths.mono _ _ _ _
      | exact LeO.none _
      | refine LeO.ite ?_ ?_
      | refine LeO.bind ?_ (fun _ => ?_)
    · intro y0 y1 y2 y3 y4
      unfold foretellkeep_TruthTurns.l0
      repeat' first
      | (with_reducible exact ih0 _ _ _ _ _)
      | (with_reducible exact ih1 _ _ _ _ _)
      | (with_reducible exact ih2 _ _ _)
      | (with_reducible exact foretellkeep_Formula.mono _ _ _ _)
      | (with_reducible exact foretellkeep_joined.mono _ _ _)
      | (with_reducible exact logic_Ahead.mono _ _ _)
      | (with_reducible exact logic_Truths.mono _ _ _ _)
      | (with_reducible exact LeO.refl _)
      | (with_reducible exact LeO.none _)
      | (with_reducible refine LeO.ite ?_ ?_)
      | (with_reducible refine LeO.bind ?_ (fun _ => ?_))
      | exact ih0 _ _ _ _ _
      | exact ih1 _ _ _ _ _
      | exact ih2 _ _ _
      | exact foretellkeep_Formula.mono _ _ _ _
      | exact foretellkeep_joined.mono _ _ _
      | exact logic_Ahead.mono _ _ _
      | exact logic_Truths.mono _ _ _ _
      | exact LeO.none _
      | refine LeO.ite ?_ ?_
      | refine LeO.bind ?_ (fun _ => ?_)
    · intro y0 y1 y2
      unfold foretellkeep_TruthTurns.l1
      repeat' first
      | (with_reducible exact ih0 _ _ _ _ _)
      | (with_reducible exact ih1 _ _ _ _ _)
      | (with_reducible exact ih2 _ _ _)
      | (with_reducible exact foretellkeep_Formula.mono _ _ _ _)
      | (with_reducible exact foretellkeep_joined.mono _ _ _)
      | (with_reducible exact logic_Ahead.mono _ _ _)
      | (with_reducible exact logic_Truths.mono _ _ _ _)
      | (with_reducible exact LeO.refl _)
      | (with_reducible exact LeO.none _)
      | (with_reducible refine LeO.ite ?_ ?_)
      | (with_reducible refine LeO.bind ?_ (fun _ => ?_))
      | exact ih0 _ _ _ _ _
      | exact ih1 _ _ _ _ _
      | exact ih2 _ _ _
      | exact foretellkeep_Formula.mono _ _ _ _
      | exact foretellkeep_joined.mono _ _ _
      | exact logic_Ahead.mono _ _ _
      | exact logic_Truths.mono _ _ _ _
      | exact LeO.none _
      | refine LeO.ite ?_ ?_
      | refine LeO.bind ?_ (fun _ => ?_)
theorem foretellkeep_TruthTurns.mono : ∀ a0 a1 a2 k, LeO (foretellkeep_TruthTurns.f k a0 a1 a2) (foretellkeep_TruthTurns.f (k + 1) a0 a1 a2) := by
  intro a0 a1 a2 k
  obtain ⟨ih0, ih1, ih2⟩ := foretellkeep_TruthTurns.mono_l k
  unfold foretellkeep_TruthTurns.f
  repeat' first
      | (with_reducible exact ih0 _ _ _ _ _)
      | (with_reducible exact ih1 _ _ _ _ _)
      | (with_reducible exact ih2 _ _ _)
      | (with_reducible exact foretellkeep_Formula.mono _ _ _ _)
      | (with_reducible exact foretellkeep_joined.mono _ _ _)
      | (with_reducible exact logic_Ahead.mono _ _ _)
      | (with_reducible exact logic_Truths.mono _ _ _ _)
      | (with_reducible exact LeO.refl _)
      | (with_reducible exact LeO.none _)
      | (with_reducible refine LeO.ite ?_ ?_)
      | (with_reducible refine LeO.bind ?_ (fun _ => ?_))
      | exact ih0 _ _ _ _ _
      | exact ih1 _ _ _ _ _
      | exact ih2 _ _ _
      | exact foretellkeep_Formula.mono _ _ _ _
      | exact foretellkeep_joined.mono _ _ _
      | exact logic_Ahead.mono _ _ _
      | exact logic_Truths.mono _ _ _ _
      | exact LeO.none _
      | refine LeO.ite ?_ ?_
      | refine LeO.bind ?_ (fun _ => ?_)
set_option maxHeartbeats 8000000 in
set_option maxRecDepth 100000 in
theorem foretellkeep_TruthTurns.calls (k : Nat) (A0 : Option Addr) (c0 : Nat) (l0 : List (S79)) (a1 : Int) (a2 : Int) (r : Bool) (w : World) (hr0 : Kd.C k79 w A0 l0.length l0) (hc0 : l0.length ≤ c0) (hG_ : Glob w) (hr_ : Aside0 (r = true)) (h : foretellkeep_TruthTurns.f k l0 a1 a2 = some r) :
    Calls Tryd.prog 3 #[.slice A0 l0.length c0, .int .i64 a1, .int .i64 a2] w fun e w' => e = .returned (.bool r) ∧ Below w.heap.size w w' := by
  have HR0 := Aside0.mk hr0
  have HC0 := Aside0.mk hc0
  clear hr0 hc0
  have HB := Aside0.mk (Below.refl w.heap.size w)
  have H : ((foretellkeep_Formula.f k l0 3 4).bind fun t131 => ((logic_Ahead.f k t131 3).bind fun bt134 => ((foretellkeep_picked.f a2 (shl .i64 1 (bt134.1.length : Int))).bind fun t138 => ((foretellkeep_letter.f a1).bind fun t139 => ((logic_Truths.f k t131 t139 t138).bind fun bt142 => ((foretellkeep_joined.f k 10 (([t131] : List (List (S51))))).bind fun t149 => ((foretellkeep_letter.f a1).bind fun t152 => ((logic_Truths.f k t149 t152 t138).bind fun bt155 => (if bt134.2 = 0 then (if bt142.2 = 0 then (if bt155.2 = 0 then (if (bt142.1.length : Int) = (t131.length : Int) then (if (bt155.1.length : Int) = (wrap64 ((t131.length : Int) + 1)) then (if 0 < (bt155.1.length : Int) then (if 0 < (bt142.1.length : Int) then (foretellkeep_TruthTurns.j0 k bt134.1 t138 bt142.1 bt155.1 ((rdOf false bt155.1 0) == (rdOf false bt142.1 0))) else (none)) else (none)) else (foretellkeep_TruthTurns.j0 k bt134.1 t138 bt142.1 bt155.1 true)) else (foretellkeep_TruthTurns.j0 k bt134.1 t138 bt142.1 bt155.1 true)) else (foretellkeep_TruthTurns.j0 k bt134.1 t138 bt142.1 bt155.1 true)) else (foretellkeep_TruthTurns.j0 k bt134.1 t138 bt142.1 bt155.1 true)) else (foretellkeep_TruthTurns.j0 k bt134.1 t138 bt142.1 bt155.1 true)))))))))) = some r := h
  clear h
  replace H := Option.bind_eq_some_iff.mp H
  obtain ⟨t131, A40, H⟩ := H
  replace H : ((logic_Ahead.f k t131 3).bind fun bt134 => ((foretellkeep_picked.f a2 (shl .i64 1 (bt134.1.length : Int))).bind fun t138 => ((foretellkeep_letter.f a1).bind fun t139 => ((logic_Truths.f k t131 t139 t138).bind fun bt142 => ((foretellkeep_joined.f k 10 (([t131] : List (List (S51))))).bind fun t149 => ((foretellkeep_letter.f a1).bind fun t152 => ((logic_Truths.f k t149 t152 t138).bind fun bt155 => (if bt134.2 = 0 then (if bt142.2 = 0 then (if bt155.2 = 0 then (if (bt142.1.length : Int) = (t131.length : Int) then (if (bt155.1.length : Int) = (wrap64 ((t131.length : Int) + 1)) then (if 0 < (bt155.1.length : Int) then (if 0 < (bt142.1.length : Int) then (foretellkeep_TruthTurns.j0 k bt134.1 t138 bt142.1 bt155.1 ((rdOf false bt155.1 0) == (rdOf false bt142.1 0))) else (none)) else (none)) else (foretellkeep_TruthTurns.j0 k bt134.1 t138 bt142.1 bt155.1 true)) else (foretellkeep_TruthTurns.j0 k bt134.1 t138 bt142.1 bt155.1 true)) else (foretellkeep_TruthTurns.j0 k bt134.1 t138 bt142.1 bt155.1 true)) else (foretellkeep_TruthTurns.j0 k bt134.1 t138 bt142.1 bt155.1 true)) else (foretellkeep_TruthTurns.j0 k bt134.1 t138 bt142.1 bt155.1 true))))))))) = some r := H
  have A4 := Aside0.mk A40
  clear A40
  replace H := Option.bind_eq_some_iff.mp H
  obtain ⟨⟨t134, t135⟩, A50, H⟩ := H
  replace H : ((foretellkeep_picked.f a2 (shl .i64 1 (t134.length : Int))).bind fun t138 => ((foretellkeep_letter.f a1).bind fun t139 => ((logic_Truths.f k t131 t139 t138).bind fun bt142 => ((foretellkeep_joined.f k 10 (([t131] : List (List (S51))))).bind fun t149 => ((foretellkeep_letter.f a1).bind fun t152 => ((logic_Truths.f k t149 t152 t138).bind fun bt155 => (if t135 = 0 then (if bt142.2 = 0 then (if bt155.2 = 0 then (if (bt142.1.length : Int) = (t131.length : Int) then (if (bt155.1.length : Int) = (wrap64 ((t131.length : Int) + 1)) then (if 0 < (bt155.1.length : Int) then (if 0 < (bt142.1.length : Int) then (foretellkeep_TruthTurns.j0 k t134 t138 bt142.1 bt155.1 ((rdOf false bt155.1 0) == (rdOf false bt142.1 0))) else (none)) else (none)) else (foretellkeep_TruthTurns.j0 k t134 t138 bt142.1 bt155.1 true)) else (foretellkeep_TruthTurns.j0 k t134 t138 bt142.1 bt155.1 true)) else (foretellkeep_TruthTurns.j0 k t134 t138 bt142.1 bt155.1 true)) else (foretellkeep_TruthTurns.j0 k t134 t138 bt142.1 bt155.1 true)) else (foretellkeep_TruthTurns.j0 k t134 t138 bt142.1 bt155.1 true)))))))) = some r := H
  have A5 := Aside0.mk A50
  clear A50
  obtain ⟨ji6, hji6⟩ : ∃ j_ : Int, (shl .i64 1 (t134.length : Int)) = j_ := ⟨_, rfl⟩
  replace H : ((foretellkeep_picked.f a2 (ji6)).bind fun t138 => ((foretellkeep_letter.f a1).bind fun t139 => ((logic_Truths.f k t131 t139 t138).bind fun bt142 => ((foretellkeep_joined.f k 10 (([t131] : List (List (S51))))).bind fun t149 => ((foretellkeep_letter.f a1).bind fun t152 => ((logic_Truths.f k t149 t152 t138).bind fun bt155 => (if t135 = 0 then (if bt142.2 = 0 then (if bt155.2 = 0 then (if (bt142.1.length : Int) = (t131.length : Int) then (if (bt155.1.length : Int) = (wrap64 ((t131.length : Int) + 1)) then (if 0 < (bt155.1.length : Int) then (if 0 < (bt142.1.length : Int) then (foretellkeep_TruthTurns.j0 k t134 t138 bt142.1 bt155.1 ((rdOf false bt155.1 0) == (rdOf false bt142.1 0))) else (none)) else (none)) else (foretellkeep_TruthTurns.j0 k t134 t138 bt142.1 bt155.1 true)) else (foretellkeep_TruthTurns.j0 k t134 t138 bt142.1 bt155.1 true)) else (foretellkeep_TruthTurns.j0 k t134 t138 bt142.1 bt155.1 true)) else (foretellkeep_TruthTurns.j0 k t134 t138 bt142.1 bt155.1 true)) else (foretellkeep_TruthTurns.j0 k t134 t138 bt142.1 bt155.1 true)))))))) = some r := by first | (rw [hji6] at H; exact H) | (simp only [hji6] at H ⊢; exact H)
  (try rw [hji6] at A4)
  (try rw [hji6] at A5)
  have hji6_ : (IntKind.i64.wrap (1 * 2 ^ min (t134.length : Int).toNat 64)) = ji6 := hji6
  have hji6z : (t134.length : Int) ≤ 64 → (IntKind.i64.wrap (1 * 2 ^ (t134.length : Int).toNat)) = ji6 := shl_small hji6
  have hji6p : (IntKind.i64.wrap (1 * 2 ^ min t134.length 64)) = ji6 := hji6_
  have hji6q : (t134.length : Int) ≤ 64 → (IntKind.i64.wrap (1 * 2 ^ t134.length)) = ji6 := hji6z
  have hji6r : (IntKind.i64.wrap (2 ^ min t134.length 64)) = ji6 := by have h_ := hji6p; rw [Int.one_mul] at h_; exact h_
  have hji6s : (t134.length : Int) ≤ 64 → (IntKind.i64.wrap (2 ^ t134.length)) = ji6 := fun hle_ => by have h_ := hji6q hle_; rw [Int.one_mul] at h_; exact h_
  have hji6u : (IntKind.i64.wrap (2 ^ min (t134.length : Int).toNat 64)) = ji6 := by have h_ := hji6_; rw [Int.one_mul] at h_; exact h_
  have hji6v : (t134.length : Int) ≤ 64 → (IntKind.i64.wrap (2 ^ (t134.length : Int).toNat)) = ji6 := fun hle_ => by have h_ := hji6z hle_; rw [Int.one_mul] at h_; exact h_
  have hji6y : (wrap64 (1 * 2 ^ min (t134.length : Int).toNat 64)) = ji6 := (i64_w _).symm.trans hji6_
  have hji6x : (t134.length : Int) ≤ 64 → (wrap64 (1 * 2 ^ (t134.length : Int).toNat)) = ji6 := fun h_ => (i64_w _).symm.trans (hji6z h_)
  replace H := Option.bind_eq_some_iff.mp H
  obtain ⟨t138, A70, H⟩ := H
  replace H : ((foretellkeep_letter.f a1).bind fun t139 => ((logic_Truths.f k t131 t139 t138).bind fun bt142 => ((foretellkeep_joined.f k 10 (([t131] : List (List (S51))))).bind fun t149 => ((foretellkeep_letter.f a1).bind fun t152 => ((logic_Truths.f k t149 t152 t138).bind fun bt155 => (if t135 = 0 then (if bt142.2 = 0 then (if bt155.2 = 0 then (if (bt142.1.length : Int) = (t131.length : Int) then (if (bt155.1.length : Int) = (wrap64 ((t131.length : Int) + 1)) then (if 0 < (bt155.1.length : Int) then (if 0 < (bt142.1.length : Int) then (foretellkeep_TruthTurns.j0 k t134 t138 bt142.1 bt155.1 ((rdOf false bt155.1 0) == (rdOf false bt142.1 0))) else (none)) else (none)) else (foretellkeep_TruthTurns.j0 k t134 t138 bt142.1 bt155.1 true)) else (foretellkeep_TruthTurns.j0 k t134 t138 bt142.1 bt155.1 true)) else (foretellkeep_TruthTurns.j0 k t134 t138 bt142.1 bt155.1 true)) else (foretellkeep_TruthTurns.j0 k t134 t138 bt142.1 bt155.1 true)) else (foretellkeep_TruthTurns.j0 k t134 t138 bt142.1 bt155.1 true))))))) = some r := H
  have A7 := Aside0.mk A70
  clear A70
  replace H := Option.bind_eq_some_iff.mp H
  obtain ⟨t139, A80, H⟩ := H
  replace H : ((logic_Truths.f k t131 t139 t138).bind fun bt142 => ((foretellkeep_joined.f k 10 (([t131] : List (List (S51))))).bind fun t149 => ((foretellkeep_letter.f a1).bind fun t152 => ((logic_Truths.f k t149 t152 t138).bind fun bt155 => (if t135 = 0 then (if bt142.2 = 0 then (if bt155.2 = 0 then (if (bt142.1.length : Int) = (t131.length : Int) then (if (bt155.1.length : Int) = (wrap64 ((t131.length : Int) + 1)) then (if 0 < (bt155.1.length : Int) then (if 0 < (bt142.1.length : Int) then (foretellkeep_TruthTurns.j0 k t134 t138 bt142.1 bt155.1 ((rdOf false bt155.1 0) == (rdOf false bt142.1 0))) else (none)) else (none)) else (foretellkeep_TruthTurns.j0 k t134 t138 bt142.1 bt155.1 true)) else (foretellkeep_TruthTurns.j0 k t134 t138 bt142.1 bt155.1 true)) else (foretellkeep_TruthTurns.j0 k t134 t138 bt142.1 bt155.1 true)) else (foretellkeep_TruthTurns.j0 k t134 t138 bt142.1 bt155.1 true)) else (foretellkeep_TruthTurns.j0 k t134 t138 bt142.1 bt155.1 true)))))) = some r := H
  have A8 := Aside0.mk A80
  clear A80
  replace H := Option.bind_eq_some_iff.mp H
  obtain ⟨⟨t142, t143⟩, A90, H⟩ := H
  replace H : ((foretellkeep_joined.f k 10 (([t131] : List (List (S51))))).bind fun t149 => ((foretellkeep_letter.f a1).bind fun t152 => ((logic_Truths.f k t149 t152 t138).bind fun bt155 => (if t135 = 0 then (if t143 = 0 then (if bt155.2 = 0 then (if (t142.length : Int) = (t131.length : Int) then (if (bt155.1.length : Int) = (wrap64 ((t131.length : Int) + 1)) then (if 0 < (bt155.1.length : Int) then (if 0 < (t142.length : Int) then (foretellkeep_TruthTurns.j0 k t134 t138 t142 bt155.1 ((rdOf false bt155.1 0) == (rdOf false t142 0))) else (none)) else (none)) else (foretellkeep_TruthTurns.j0 k t134 t138 t142 bt155.1 true)) else (foretellkeep_TruthTurns.j0 k t134 t138 t142 bt155.1 true)) else (foretellkeep_TruthTurns.j0 k t134 t138 t142 bt155.1 true)) else (foretellkeep_TruthTurns.j0 k t134 t138 t142 bt155.1 true)) else (foretellkeep_TruthTurns.j0 k t134 t138 t142 bt155.1 true))))) = some r := H
  have A9 := Aside0.mk A90
  clear A90
  obtain ⟨y146, hy146⟩ : ∃ y_ : List (List (S51)), y_ = (([t131] : List (List (S51)))) := ⟨_, rfl⟩
  replace H : ((foretellkeep_joined.f k 10 y146).bind fun t149 => ((foretellkeep_letter.f a1).bind fun t152 => ((logic_Truths.f k t149 t152 t138).bind fun bt155 => (if t135 = 0 then (if t143 = 0 then (if bt155.2 = 0 then (if (t142.length : Int) = (t131.length : Int) then (if (bt155.1.length : Int) = (wrap64 ((t131.length : Int) + 1)) then (if 0 < (bt155.1.length : Int) then (if 0 < (t142.length : Int) then (foretellkeep_TruthTurns.j0 k t134 t138 t142 bt155.1 ((rdOf false bt155.1 0) == (rdOf false t142 0))) else (none)) else (none)) else (foretellkeep_TruthTurns.j0 k t134 t138 t142 bt155.1 true)) else (foretellkeep_TruthTurns.j0 k t134 t138 t142 bt155.1 true)) else (foretellkeep_TruthTurns.j0 k t134 t138 t142 bt155.1 true)) else (foretellkeep_TruthTurns.j0 k t134 t138 t142 bt155.1 true)) else (foretellkeep_TruthTurns.j0 k t134 t138 t142 bt155.1 true))))) = some r := by first | (rw [hy146]; with_reducible exact H) | (have H2_ := (Option.bind_some _ _).symm.trans H; rw [hy146]; with_reducible exact H2_) | (have H2_ := (Option.bind_some _ _).symm.trans H; with_reducible exact H2_) | with_reducible exact H | (rw [hy146]; exact H) | exact H
  have Ny146 := Aside0.mk hy146
  clear hy146
  replace H := Option.bind_eq_some_iff.mp H
  obtain ⟨t149, A100, H⟩ := H
  replace H : ((foretellkeep_letter.f a1).bind fun t152 => ((logic_Truths.f k t149 t152 t138).bind fun bt155 => (if t135 = 0 then (if t143 = 0 then (if bt155.2 = 0 then (if (t142.length : Int) = (t131.length : Int) then (if (bt155.1.length : Int) = (wrap64 ((t131.length : Int) + 1)) then (if 0 < (bt155.1.length : Int) then (if 0 < (t142.length : Int) then (foretellkeep_TruthTurns.j0 k t134 t138 t142 bt155.1 ((rdOf false bt155.1 0) == (rdOf false t142 0))) else (none)) else (none)) else (foretellkeep_TruthTurns.j0 k t134 t138 t142 bt155.1 true)) else (foretellkeep_TruthTurns.j0 k t134 t138 t142 bt155.1 true)) else (foretellkeep_TruthTurns.j0 k t134 t138 t142 bt155.1 true)) else (foretellkeep_TruthTurns.j0 k t134 t138 t142 bt155.1 true)) else (foretellkeep_TruthTurns.j0 k t134 t138 t142 bt155.1 true)))) = some r := H
  have A10 := Aside0.mk A100
  clear A100
  replace H := Option.bind_eq_some_iff.mp H
  obtain ⟨t152, A110, H⟩ := H
  replace H : ((logic_Truths.f k t149 t152 t138).bind fun bt155 => (if t135 = 0 then (if t143 = 0 then (if bt155.2 = 0 then (if (t142.length : Int) = (t131.length : Int) then (if (bt155.1.length : Int) = (wrap64 ((t131.length : Int) + 1)) then (if 0 < (bt155.1.length : Int) then (if 0 < (t142.length : Int) then (foretellkeep_TruthTurns.j0 k t134 t138 t142 bt155.1 ((rdOf false bt155.1 0) == (rdOf false t142 0))) else (none)) else (none)) else (foretellkeep_TruthTurns.j0 k t134 t138 t142 bt155.1 true)) else (foretellkeep_TruthTurns.j0 k t134 t138 t142 bt155.1 true)) else (foretellkeep_TruthTurns.j0 k t134 t138 t142 bt155.1 true)) else (foretellkeep_TruthTurns.j0 k t134 t138 t142 bt155.1 true)) else (foretellkeep_TruthTurns.j0 k t134 t138 t142 bt155.1 true))) = some r := H
  have A11 := Aside0.mk A110
  clear A110
  replace H := Option.bind_eq_some_iff.mp H
  obtain ⟨⟨t155, t156⟩, A120, H⟩ := H
  replace H : (if t135 = 0 then (if t143 = 0 then (if t156 = 0 then (if (t142.length : Int) = (t131.length : Int) then (if (t155.length : Int) = (wrap64 ((t131.length : Int) + 1)) then (if 0 < (t155.length : Int) then (if 0 < (t142.length : Int) then (foretellkeep_TruthTurns.j0 k t134 t138 t142 t155 ((rdOf false t155 0) == (rdOf false t142 0))) else (none)) else (none)) else (foretellkeep_TruthTurns.j0 k t134 t138 t142 t155 true)) else (foretellkeep_TruthTurns.j0 k t134 t138 t142 t155 true)) else (foretellkeep_TruthTurns.j0 k t134 t138 t142 t155 true)) else (foretellkeep_TruthTurns.j0 k t134 t138 t142 t155 true)) else (foretellkeep_TruthTurns.j0 k t134 t138 t142 t155 true)) = some r := H
  have A12 := Aside0.mk A120
  clear A120
  have HC13 := Aside0.mk H
  clear H
  go_enter Tryd.func3, Tryd.ntmps3
  go_upto_region 6 with (first | (go_at_call 16; (with_reducible refine (foretellkeep_Formula.calls k _ _ l0 3 4 t131 _ ?side1 ?side2 A4.out).mono ?_); (case side1 => repeat (first | exact HR0.out | (with_reducible refine Kd.C_alloc ?_ _) | (with_reducible refine Kd.C_drewN ?_ _) | (with_reducible refine Kd.C_drew ?_))); (case side2 => exact HC0.out); rintro e w14 ⟨v132, rfl, ho0, hb⟩; have n0_ := Aside0.mk (Kd.R_lower ho0 (below_size (by repeat (first | (with_reducible first | exact HB.out | apply below_alloc | apply pw_below_drewN | apply below_drew1) | exact HB.out)))); have n1_ := Aside0.mk (below_step (by repeat (first | (with_reducible first | exact HB.out | apply below_alloc | apply pw_below_drewN | apply below_drew1) | exact HB.out)) hb); clear HB; have HO133 := n0_; have HB := n1_; clear n0_ n1_; (try clear hb); (try clear hb2); (try clear hk); (try clear hi); (try clear ho0); obtain ⟨Ao15, co15, eo15⟩ := Kd.R_slice HO133.out; subst eo15) | (go_at_call 17; (with_reducible refine (logic_Ahead.calls k _ _ t131 3 t134 t135 _ ?side1 ?side2 ?side3 A5.out).mono ?_); (case side1 => repeat (first | exact (Kd.R_reads' HO133.out).2.2 | (with_reducible refine Kd.C_alloc ?_ _) | (with_reducible refine Kd.C_drewN ?_ _) | (with_reducible refine Kd.C_drew ?_))); (case side2 => exact (Kd.R_reads' HO133.out).2.1); (case side3 => first | exact hG_ | exact Glob.drewN hG_ _ | exact Glob.below hG_ (by repeat (first | (with_reducible first | exact HB.out | apply below_alloc | apply pw_below_drewN | apply below_drew1) | exact HB.out))); rintro e w16 ⟨v136, rfl, ho0, hb⟩; have n0_ := Aside0.mk (Kd.R_below (by (with_reducible repeat (first | apply Kd.R_alloc | apply Kd.R_drewN | apply Kd.R_drew)); exact HO133.out) hb); have n1_ := Aside0.mk (Kd.R_lower ho0 (below_size (by repeat (first | (with_reducible first | exact HB.out | apply below_alloc | apply pw_below_drewN | apply below_drew1) | exact HB.out)))); have n2_ := Aside0.mk (below_step (by repeat (first | (with_reducible first | exact HB.out | apply below_alloc | apply pw_below_drewN | apply below_drew1) | exact HB.out)) hb); clear HO133; clear HB; have HO133 := n0_; have HO137 := n1_; have HB := n2_; clear n0_ n1_ n2_; (try clear hb); (try clear hb2); (try clear hk); (try clear hi); (try clear ho0); obtain ⟨Ao17, co17, eo17⟩ := Kd.R_slice HO137.out; subst eo17) | (go_at_call 18; (with_reducible refine (foretellkeep_picked.calls a2 ji6 t138 _ A7.out).mono ?_); rintro e w' ⟨rfl, ⟨nd, rfl⟩⟩; (try first | exact ⟨rfl, _, World.drewN_drewN _ _ _⟩ | exact ⟨rfl, _, Eq.trans (World.drewN_drewN _ _ _) (congrArg (World.drewN _) (Nat.add_assoc _ _ _))⟩)) | (go_at_call 20; (with_reducible refine (foretellkeep_letter.calls a1 t139 _ A8.out).mono ?_); rintro e w18 ⟨v140, rfl, ho0, hb⟩; have n0_ := Aside0.mk (Kd.R_below (by (with_reducible repeat (first | apply Kd.R_alloc | apply Kd.R_drewN | apply Kd.R_drew)); exact HO133.out) hb); have n1_ := Aside0.mk (Kd.R_below (by (with_reducible repeat (first | apply Kd.R_alloc | apply Kd.R_drewN | apply Kd.R_drew)); exact HO137.out) hb); have n2_ := Aside0.mk (Kd.R_lower ho0 (below_size (by repeat (first | (with_reducible first | exact HB.out | apply below_alloc | apply pw_below_drewN | apply below_drew1) | exact HB.out)))); have n3_ := Aside0.mk (below_step (by repeat (first | (with_reducible first | exact HB.out | apply below_alloc | apply pw_below_drewN | apply below_drew1) | exact HB.out)) hb); clear HO133; clear HO137; clear HB; have HO133 := n0_; have HO137 := n1_; have HO141 := n2_; have HB := n3_; clear n0_ n1_ n2_ n3_; (try clear hb); (try clear hb2); (try clear hk); (try clear hi); (try clear ho0); obtain ⟨Ao19, co19, eo19⟩ := Kd.R_slice HO141.out; subst eo19) | (go_at_call 19; (with_reducible refine (logic_Truths.calls k _ _ t131 _ _ t139 t138 t142 t143 _ ?side1 ?side2 ?side3 ?side4 ?side5 A9.out).mono ?_); (case side1 => repeat (first | exact (Kd.R_reads' HO133.out).2.2 | (with_reducible refine Kd.C_alloc ?_ _) | (with_reducible refine Kd.C_drewN ?_ _) | (with_reducible refine Kd.C_drew ?_))); (case side2 => exact (Kd.R_reads' HO133.out).2.1); (case side3 => repeat (first | exact (Kd.R_reads' HO141.out).2.2 | (with_reducible refine Kd.C_alloc ?_ _) | (with_reducible refine Kd.C_drewN ?_ _) | (with_reducible refine Kd.C_drew ?_))); (case side4 => exact (Kd.R_reads' HO141.out).2.1); (case side5 => first | exact hG_ | exact Glob.drewN hG_ _ | exact Glob.below hG_ (by repeat (first | (with_reducible first | exact HB.out | apply below_alloc | apply pw_below_drewN | apply below_drew1) | exact HB.out))); rintro e w20 ⟨v144, rfl, ho0, hb⟩; have n0_ := Aside0.mk (Kd.R_below (by (with_reducible repeat (first | apply Kd.R_alloc | apply Kd.R_drewN | apply Kd.R_drew)); exact HO133.out) hb); have n1_ := Aside0.mk (Kd.R_below (by (with_reducible repeat (first | apply Kd.R_alloc | apply Kd.R_drewN | apply Kd.R_drew)); exact HO137.out) hb); have n2_ := Aside0.mk (Kd.R_elder' (by (with_reducible repeat (first | apply Kd.R_alloc | apply Kd.R_drewN | apply Kd.R_drew)); exact HO141.out) (Kd.R_base ho0) hb); have n3_ := Aside0.mk (Kd.R_lower (Kd.R_new' ho0 (Kd.R_lt (by (with_reducible repeat (first | apply Kd.R_alloc | apply Kd.R_drewN | apply Kd.R_drew)); exact HO141.out))) (below_size (by repeat (first | (with_reducible first | exact HB.out | apply below_alloc | apply pw_below_drewN | apply below_drew1) | exact HB.out)))); have n4_ := Aside0.mk (below_step (by repeat (first | (with_reducible first | exact HB.out | apply below_alloc | apply pw_below_drewN | apply below_drew1) | exact HB.out)) hb); clear HO133; clear HO137; clear HO141; clear HB; have HO133 := n0_; have HO137 := n1_; have HO141 := n2_; have HO145 := n3_; have HB := n4_; clear n0_ n1_ n2_ n3_ n4_; (try clear hb); (try clear hb2); (try clear hk); (try clear hi); (try clear ho0)) | ((with_reducible refine gate_dst (N := 39) rfl ?_); (try (refine gate_guard (by rfl) ?_; dsimp only)); refine Kd.N_lit (Kd.slice 51 k51) _ 23 ?hg (N' := 39) ?hd (xs := ([t131] : List (List (S51)))) (inner := [.slice Ao15 t131.length co15]) (ok := (fun k_ => some k_ ≠ (.slice Ao17 t134.length co17 : Value).ownBlock ∧ some k_ ≠ (.slice Ao19 t139.length co19 : Value).ownBlock ∧ some k_ ≠ (v144 : Value).ownBlock)) (okp := (fun k_ => some k_ ≠ (.slice Ao17 t134.length co17 : Value).ownBlock ∧ some k_ ≠ (.slice Ao19 t139.length co19 : Value).ownBlock ∧ some k_ ≠ (v144 : Value).ownBlock)) ?hr ?hp (fun _ hk => hk) ((show ∀ k_, w20.heap.size ≤ k_ → (fun k_ => some k_ ≠ (.slice Ao17 t134.length co17 : Value).ownBlock ∧ some k_ ≠ (.slice Ao19 t139.length co19 : Value).ownBlock ∧ some k_ ≠ (v144 : Value).ownBlock) k_ from fun k_ hk => ⟨Kd.fresh' (Kd.R_lt (by (with_reducible repeat (first | apply Kd.R_alloc | apply Kd.R_drewN | apply Kd.R_drew)); exact HO137.out)) k_ hk, Kd.fresh' (Kd.R_lt (by (with_reducible repeat (first | apply Kd.R_alloc | apply Kd.R_drewN | apply Kd.R_drew)); exact HO141.out)) k_ hk, Kd.fresh' (Kd.R_lt (by (with_reducible repeat (first | apply Kd.R_alloc | apply Kd.R_drewN | apply Kd.R_drew)); exact HO145.out)) k_ hk⟩) _ (Nat.le_refl _)) (Below.refl _ _) (Nat.le_refl _) (by simp) ?_; (case hd => rfl); (case hg => rfl); (case hr => first | (go_simp; done) | (go_simp; rfl)); (case hp => exact (Reps.one (show Kd.FK (Kd.slice 51 k51) _ _ t131 [.slice Ao15 t131.length co15] from (Kd.FK_slice_mk (Kd.R_reads' (Kd.R_mono (ok' := (fun k_ => some k_ ≠ (.slice Ao17 t134.length co17 : Value).ownBlock ∧ some k_ ≠ (.slice Ao19 t139.length co19 : Value).ownBlock ∧ some k_ ≠ (v144 : Value).ownBlock)) (Kd.R_apart' (Kd.R_apart' (Kd.R_apart' (HO133.out) (Kd.R_typed HO137.out) (by decide)) (Kd.R_typed HO141.out) (by decide)) (Kd.R_typed HO145.out) (by decide)) (fun k_ hk => ⟨hk.1.1.2, ⟨hk.1.2, hk.2⟩⟩))).2.1 (Kd.R_F (Kd.R_mono (ok' := (fun k_ => some k_ ≠ (.slice Ao17 t134.length co17 : Value).ownBlock ∧ some k_ ≠ (.slice Ao19 t139.length co19 : Value).ownBlock ∧ some k_ ≠ (v144 : Value).ownBlock)) (Kd.R_apart' (Kd.R_apart' (Kd.R_apart' (HO133.out) (Kd.R_typed HO137.out) (by decide)) (Kd.R_typed HO141.out) (by decide)) (Kd.R_typed HO145.out) (by decide)) (fun k_ hk => ⟨hk.1.1.2, ⟨hk.1.2, hk.2⟩⟩))))) (Reps.none _ _))); intro v147 w21 ho22 hb hg_ hnew_; clear hg_ hnew_; (first | rw [← Ny146.out] at ho22 | (simp only [Int.reduceToNat] at ho22; rw [← Ny146.out] at ho22)); have n0_ := Aside0.mk (Kd.R_below (by (with_reducible repeat (first | apply Kd.R_alloc | apply Kd.R_drewN | apply Kd.R_drew)); exact HO137.out) hb); have n1_ := Aside0.mk (Kd.R_below (by (with_reducible repeat (first | apply Kd.R_alloc | apply Kd.R_drewN | apply Kd.R_drew)); exact HO141.out) hb); have n2_ := Aside0.mk (Kd.R_below (by (with_reducible repeat (first | apply Kd.R_alloc | apply Kd.R_drewN | apply Kd.R_drew)); exact HO145.out) hb); have n3_ := Aside0.mk (Kd.N_lower ho22 (below_size (by repeat (first | (with_reducible first | exact HB.out | apply below_alloc | apply pw_below_drewN | apply below_drew1) | exact HB.out)))); have n4_ := Aside0.mk (below_step (by repeat (first | (with_reducible first | exact HB.out | apply below_alloc | apply pw_below_drewN | apply below_drew1) | exact HB.out)) hb); clear HO137; clear HO141; clear HO145; clear HB; clear HO133; have HO137 := n0_; have HO141 := n1_; have HO145 := n2_; have HO148 := n3_; have HB := n4_; clear n0_ n1_ n2_ n3_ n4_; clear hb ho22; obtain ⟨Ao23, co23, eo23⟩ := Kd.N_slice HO148.out; subst eo23) | (go_at_call 21; (with_reducible refine (foretellkeep_joined.calls k 10 _ _ y146 t149 _ ?side1 ?side2 A10.out).mono ?_); (case side1 => repeat (first | exact (Kd.N_reads' HO148.out).2.2 | (with_reducible refine Kd.C_alloc ?_ _) | (with_reducible refine Kd.C_drewN ?_ _) | (with_reducible refine Kd.C_drew ?_))); (case side2 => exact (Kd.N_reads' HO148.out).2.1); rintro e w24 ⟨v150, rfl, ho0, hb⟩; have n0_ := Aside0.mk (Kd.R_below (by (with_reducible repeat (first | apply Kd.R_alloc | apply Kd.R_drewN | apply Kd.R_drew)); exact HO137.out) hb); have n1_ := Aside0.mk (Kd.R_below (by (with_reducible repeat (first | apply Kd.R_alloc | apply Kd.R_drewN | apply Kd.R_drew)); exact HO141.out) hb); have n2_ := Aside0.mk (Kd.R_below (by (with_reducible repeat (first | apply Kd.R_alloc | apply Kd.R_drewN | apply Kd.R_drew)); exact HO145.out) hb); have n3_ := Aside0.mk (Kd.N_elder' (by (with_reducible repeat (first | apply Kd.N_alloc | apply Kd.N_drewN | apply Kd.N_drew)); exact HO148.out) (Kd.R_base ho0) hb); have n4_ := Aside0.mk (Kd.R_lower ho0 (below_size (by repeat (first | (with_reducible first | exact HB.out | apply below_alloc | apply pw_below_drewN | apply below_drew1) | exact HB.out)))); have n5_ := Aside0.mk (below_step (by repeat (first | (with_reducible first | exact HB.out | apply below_alloc | apply pw_below_drewN | apply below_drew1) | exact HB.out)) hb); clear HO137; clear HO141; clear HO145; clear HO148; clear HB; have HO137 := n0_; have HO141 := n1_; have HO145 := n2_; have HO148 := n3_; have HO151 := n4_; have HB := n5_; clear n0_ n1_ n2_ n3_ n4_ n5_; (try clear hb); (try clear hb2); (try clear hk); (try clear hi); (try clear ho0)) | (go_at_call 20; (with_reducible refine (foretellkeep_letter.calls a1 t152 _ A11.out).mono ?_); rintro e w25 ⟨v153, rfl, ho0, hb⟩; have n0_ := Aside0.mk (Kd.R_below (by (with_reducible repeat (first | apply Kd.R_alloc | apply Kd.R_drewN | apply Kd.R_drew)); exact HO137.out) hb); have n1_ := Aside0.mk (Kd.R_elder' (by (with_reducible repeat (first | apply Kd.R_alloc | apply Kd.R_drewN | apply Kd.R_drew)); exact HO141.out) (Kd.R_base ho0) hb); have n2_ := Aside0.mk (Kd.R_elder' (by (with_reducible repeat (first | apply Kd.R_alloc | apply Kd.R_drewN | apply Kd.R_drew)); exact HO145.out) (Kd.R_base ho0) hb); have n3_ := Aside0.mk (Kd.N_elder' (by (with_reducible repeat (first | apply Kd.N_alloc | apply Kd.N_drewN | apply Kd.N_drew)); exact HO148.out) (Kd.R_base ho0) hb); have n4_ := Aside0.mk (Kd.R_below (by (with_reducible repeat (first | apply Kd.R_alloc | apply Kd.R_drewN | apply Kd.R_drew)); exact HO151.out) hb); have n5_ := Aside0.mk (Kd.R_lower (Kd.R_new' (Kd.R_new' ho0 (Kd.R_lt (by (with_reducible repeat (first | apply Kd.R_alloc | apply Kd.R_drewN | apply Kd.R_drew)); exact HO141.out))) (Kd.R_lt (by (with_reducible repeat (first | apply Kd.R_alloc | apply Kd.R_drewN | apply Kd.R_drew)); exact HO145.out))) (below_size (by repeat (first | (with_reducible first | exact HB.out | apply below_alloc | apply pw_below_drewN | apply below_drew1) | exact HB.out)))); have n6_ := Aside0.mk (below_step (by repeat (first | (with_reducible first | exact HB.out | apply below_alloc | apply pw_below_drewN | apply below_drew1) | exact HB.out)) hb); clear HO137; clear HO141; clear HO145; clear HO148; clear HO151; clear HB; have HO137 := n0_; have HO141 := n1_; have HO145 := n2_; have HO148 := n3_; have HO151 := n4_; have HO154 := n5_; have HB := n6_; clear n0_ n1_ n2_ n3_ n4_ n5_ n6_; (try clear hb); (try clear hb2); (try clear hk); (try clear hi); (try clear ho0); obtain ⟨Ao26, co26, eo26⟩ := Kd.R_slice HO151.out; subst eo26; obtain ⟨Ao27, co27, eo27⟩ := Kd.R_slice HO154.out; subst eo27) | (go_at_call 19; (with_reducible refine (logic_Truths.calls k _ _ t149 _ _ t152 t138 t155 t156 _ ?side1 ?side2 ?side3 ?side4 ?side5 A12.out).mono ?_); (case side1 => repeat (first | exact (Kd.R_reads' HO151.out).2.2 | (with_reducible refine Kd.C_alloc ?_ _) | (with_reducible refine Kd.C_drewN ?_ _) | (with_reducible refine Kd.C_drew ?_))); (case side2 => exact (Kd.R_reads' HO151.out).2.1); (case side3 => repeat (first | exact (Kd.R_reads' HO154.out).2.2 | (with_reducible refine Kd.C_alloc ?_ _) | (with_reducible refine Kd.C_drewN ?_ _) | (with_reducible refine Kd.C_drew ?_))); (case side4 => exact (Kd.R_reads' HO154.out).2.1); (case side5 => first | exact hG_ | exact Glob.drewN hG_ _ | exact Glob.below hG_ (by repeat (first | (with_reducible first | exact HB.out | apply below_alloc | apply pw_below_drewN | apply below_drew1) | exact HB.out))); rintro e w28 ⟨v157, rfl, ho0, hb⟩; have n0_ := Aside0.mk (Kd.R_below (by (with_reducible repeat (first | apply Kd.R_alloc | apply Kd.R_drewN | apply Kd.R_drew)); exact HO137.out) hb); have n1_ := Aside0.mk (Kd.R_elder' (by (with_reducible repeat (first | apply Kd.R_alloc | apply Kd.R_drewN | apply Kd.R_drew)); exact HO141.out) (Kd.R_base ho0) hb); have n2_ := Aside0.mk (Kd.R_elder' (by (with_reducible repeat (first | apply Kd.R_alloc | apply Kd.R_drewN | apply Kd.R_drew)); exact HO145.out) (Kd.R_base ho0) hb); have n3_ := Aside0.mk (Kd.N_elder' (by (with_reducible repeat (first | apply Kd.N_alloc | apply Kd.N_drewN | apply Kd.N_drew)); exact HO148.out) (Kd.R_base ho0) hb); have n4_ := Aside0.mk (Kd.R_below (by (with_reducible repeat (first | apply Kd.R_alloc | apply Kd.R_drewN | apply Kd.R_drew)); exact HO151.out) hb); have n5_ := Aside0.mk (Kd.R_elder' (by (with_reducible repeat (first | apply Kd.R_alloc | apply Kd.R_drewN | apply Kd.R_drew)); exact HO154.out) (Kd.R_base ho0) hb); have n6_ := Aside0.mk (Kd.R_lower (Kd.R_new' (Kd.R_new' (Kd.R_new' ho0 (Kd.R_lt (by (with_reducible repeat (first | apply Kd.R_alloc | apply Kd.R_drewN | apply Kd.R_drew)); exact HO141.out))) (Kd.R_lt (by (with_reducible repeat (first | apply Kd.R_alloc | apply Kd.R_drewN | apply Kd.R_drew)); exact HO145.out))) (Kd.R_lt (by (with_reducible repeat (first | apply Kd.R_alloc | apply Kd.R_drewN | apply Kd.R_drew)); exact HO154.out))) (below_size (by repeat (first | (with_reducible first | exact HB.out | apply below_alloc | apply pw_below_drewN | apply below_drew1) | exact HB.out)))); have n7_ := Aside0.mk (below_step (by repeat (first | (with_reducible first | exact HB.out | apply below_alloc | apply pw_below_drewN | apply below_drew1) | exact HB.out)) hb); clear HO137; clear HO141; clear HO145; clear HO148; clear HO151; clear HO154; clear HB; have HO137 := n0_; have HO141 := n1_; have HO145 := n2_; have HO148 := n3_; have HO151 := n4_; have HO154 := n5_; have HO158 := n6_; have HB := n7_; clear n0_ n1_ n2_ n3_ n4_ n5_ n6_ n7_; (try clear hb); (try clear hb2); (try clear hk); (try clear hi); (try clear ho0)))
  repeat (go_quiet (first | (go_at_call 16; (with_reducible refine (foretellkeep_Formula.calls k _ _ l0 3 4 t131 _ ?side1 ?side2 A4.out).mono ?_); (case side1 => repeat (first | exact HR0.out | (with_reducible refine Kd.C_alloc ?_ _) | (with_reducible refine Kd.C_drewN ?_ _) | (with_reducible refine Kd.C_drew ?_))); (case side2 => exact HC0.out); rintro e w14 ⟨v132, rfl, ho0, hb⟩; have n0_ := Aside0.mk (Kd.R_lower ho0 (below_size (by repeat (first | (with_reducible first | exact HB.out | apply below_alloc | apply pw_below_drewN | apply below_drew1) | exact HB.out)))); have n1_ := Aside0.mk (below_step (by repeat (first | (with_reducible first | exact HB.out | apply below_alloc | apply pw_below_drewN | apply below_drew1) | exact HB.out)) hb); clear HB; have HO133 := n0_; have HB := n1_; clear n0_ n1_; (try clear hb); (try clear hb2); (try clear hk); (try clear hi); (try clear ho0); obtain ⟨Ao15, co15, eo15⟩ := Kd.R_slice HO133.out; subst eo15) | (go_at_call 17; (with_reducible refine (logic_Ahead.calls k _ _ t131 3 t134 t135 _ ?side1 ?side2 ?side3 A5.out).mono ?_); (case side1 => repeat (first | exact (Kd.R_reads' HO133.out).2.2 | (with_reducible refine Kd.C_alloc ?_ _) | (with_reducible refine Kd.C_drewN ?_ _) | (with_reducible refine Kd.C_drew ?_))); (case side2 => exact (Kd.R_reads' HO133.out).2.1); (case side3 => first | exact hG_ | exact Glob.drewN hG_ _ | exact Glob.below hG_ (by repeat (first | (with_reducible first | exact HB.out | apply below_alloc | apply pw_below_drewN | apply below_drew1) | exact HB.out))); rintro e w16 ⟨v136, rfl, ho0, hb⟩; have n0_ := Aside0.mk (Kd.R_below (by (with_reducible repeat (first | apply Kd.R_alloc | apply Kd.R_drewN | apply Kd.R_drew)); exact HO133.out) hb); have n1_ := Aside0.mk (Kd.R_lower ho0 (below_size (by repeat (first | (with_reducible first | exact HB.out | apply below_alloc | apply pw_below_drewN | apply below_drew1) | exact HB.out)))); have n2_ := Aside0.mk (below_step (by repeat (first | (with_reducible first | exact HB.out | apply below_alloc | apply pw_below_drewN | apply below_drew1) | exact HB.out)) hb); clear HO133; clear HB; have HO133 := n0_; have HO137 := n1_; have HB := n2_; clear n0_ n1_ n2_; (try clear hb); (try clear hb2); (try clear hk); (try clear hi); (try clear ho0); obtain ⟨Ao17, co17, eo17⟩ := Kd.R_slice HO137.out; subst eo17) | (go_at_call 18; (with_reducible refine (foretellkeep_picked.calls a2 ji6 t138 _ A7.out).mono ?_); rintro e w' ⟨rfl, ⟨nd, rfl⟩⟩; (try first | exact ⟨rfl, _, World.drewN_drewN _ _ _⟩ | exact ⟨rfl, _, Eq.trans (World.drewN_drewN _ _ _) (congrArg (World.drewN _) (Nat.add_assoc _ _ _))⟩)) | (go_at_call 20; (with_reducible refine (foretellkeep_letter.calls a1 t139 _ A8.out).mono ?_); rintro e w18 ⟨v140, rfl, ho0, hb⟩; have n0_ := Aside0.mk (Kd.R_below (by (with_reducible repeat (first | apply Kd.R_alloc | apply Kd.R_drewN | apply Kd.R_drew)); exact HO133.out) hb); have n1_ := Aside0.mk (Kd.R_below (by (with_reducible repeat (first | apply Kd.R_alloc | apply Kd.R_drewN | apply Kd.R_drew)); exact HO137.out) hb); have n2_ := Aside0.mk (Kd.R_lower ho0 (below_size (by repeat (first | (with_reducible first | exact HB.out | apply below_alloc | apply pw_below_drewN | apply below_drew1) | exact HB.out)))); have n3_ := Aside0.mk (below_step (by repeat (first | (with_reducible first | exact HB.out | apply below_alloc | apply pw_below_drewN | apply below_drew1) | exact HB.out)) hb); clear HO133; clear HO137; clear HB; have HO133 := n0_; have HO137 := n1_; have HO141 := n2_; have HB := n3_; clear n0_ n1_ n2_ n3_; (try clear hb); (try clear hb2); (try clear hk); (try clear hi); (try clear ho0); obtain ⟨Ao19, co19, eo19⟩ := Kd.R_slice HO141.out; subst eo19) | (go_at_call 19; (with_reducible refine (logic_Truths.calls k _ _ t131 _ _ t139 t138 t142 t143 _ ?side1 ?side2 ?side3 ?side4 ?side5 A9.out).mono ?_); (case side1 => repeat (first | exact (Kd.R_reads' HO133.out).2.2 | (with_reducible refine Kd.C_alloc ?_ _) | (with_reducible refine Kd.C_drewN ?_ _) | (with_reducible refine Kd.C_drew ?_))); (case side2 => exact (Kd.R_reads' HO133.out).2.1); (case side3 => repeat (first | exact (Kd.R_reads' HO141.out).2.2 | (with_reducible refine Kd.C_alloc ?_ _) | (with_reducible refine Kd.C_drewN ?_ _) | (with_reducible refine Kd.C_drew ?_))); (case side4 => exact (Kd.R_reads' HO141.out).2.1); (case side5 => first | exact hG_ | exact Glob.drewN hG_ _ | exact Glob.below hG_ (by repeat (first | (with_reducible first | exact HB.out | apply below_alloc | apply pw_below_drewN | apply below_drew1) | exact HB.out))); rintro e w20 ⟨v144, rfl, ho0, hb⟩; have n0_ := Aside0.mk (Kd.R_below (by (with_reducible repeat (first | apply Kd.R_alloc | apply Kd.R_drewN | apply Kd.R_drew)); exact HO133.out) hb); have n1_ := Aside0.mk (Kd.R_below (by (with_reducible repeat (first | apply Kd.R_alloc | apply Kd.R_drewN | apply Kd.R_drew)); exact HO137.out) hb); have n2_ := Aside0.mk (Kd.R_elder' (by (with_reducible repeat (first | apply Kd.R_alloc | apply Kd.R_drewN | apply Kd.R_drew)); exact HO141.out) (Kd.R_base ho0) hb); have n3_ := Aside0.mk (Kd.R_lower (Kd.R_new' ho0 (Kd.R_lt (by (with_reducible repeat (first | apply Kd.R_alloc | apply Kd.R_drewN | apply Kd.R_drew)); exact HO141.out))) (below_size (by repeat (first | (with_reducible first | exact HB.out | apply below_alloc | apply pw_below_drewN | apply below_drew1) | exact HB.out)))); have n4_ := Aside0.mk (below_step (by repeat (first | (with_reducible first | exact HB.out | apply below_alloc | apply pw_below_drewN | apply below_drew1) | exact HB.out)) hb); clear HO133; clear HO137; clear HO141; clear HB; have HO133 := n0_; have HO137 := n1_; have HO141 := n2_; have HO145 := n3_; have HB := n4_; clear n0_ n1_ n2_ n3_ n4_; (try clear hb); (try clear hb2); (try clear hk); (try clear hi); (try clear ho0)) | ((with_reducible refine gate_dst (N := 39) rfl ?_); (try (refine gate_guard (by rfl) ?_; dsimp only)); refine Kd.N_lit (Kd.slice 51 k51) _ 23 ?hg (N' := 39) ?hd (xs := ([t131] : List (List (S51)))) (inner := [.slice Ao15 t131.length co15]) (ok := (fun k_ => some k_ ≠ (.slice Ao17 t134.length co17 : Value).ownBlock ∧ some k_ ≠ (.slice Ao19 t139.length co19 : Value).ownBlock ∧ some k_ ≠ (v144 : Value).ownBlock)) (okp := (fun k_ => some k_ ≠ (.slice Ao17 t134.length co17 : Value).ownBlock ∧ some k_ ≠ (.slice Ao19 t139.length co19 : Value).ownBlock ∧ some k_ ≠ (v144 : Value).ownBlock)) ?hr ?hp (fun _ hk => hk) ((show ∀ k_, w20.heap.size ≤ k_ → (fun k_ => some k_ ≠ (.slice Ao17 t134.length co17 : Value).ownBlock ∧ some k_ ≠ (.slice Ao19 t139.length co19 : Value).ownBlock ∧ some k_ ≠ (v144 : Value).ownBlock) k_ from fun k_ hk => ⟨Kd.fresh' (Kd.R_lt (by (with_reducible repeat (first | apply Kd.R_alloc | apply Kd.R_drewN | apply Kd.R_drew)); exact HO137.out)) k_ hk, Kd.fresh' (Kd.R_lt (by (with_reducible repeat (first | apply Kd.R_alloc | apply Kd.R_drewN | apply Kd.R_drew)); exact HO141.out)) k_ hk, Kd.fresh' (Kd.R_lt (by (with_reducible repeat (first | apply Kd.R_alloc | apply Kd.R_drewN | apply Kd.R_drew)); exact HO145.out)) k_ hk⟩) _ (Nat.le_refl _)) (Below.refl _ _) (Nat.le_refl _) (by simp) ?_; (case hd => rfl); (case hg => rfl); (case hr => first | (go_simp; done) | (go_simp; rfl)); (case hp => exact (Reps.one (show Kd.FK (Kd.slice 51 k51) _ _ t131 [.slice Ao15 t131.length co15] from (Kd.FK_slice_mk (Kd.R_reads' (Kd.R_mono (ok' := (fun k_ => some k_ ≠ (.slice Ao17 t134.length co17 : Value).ownBlock ∧ some k_ ≠ (.slice Ao19 t139.length co19 : Value).ownBlock ∧ some k_ ≠ (v144 : Value).ownBlock)) (Kd.R_apart' (Kd.R_apart' (Kd.R_apart' (HO133.out) (Kd.R_typed HO137.out) (by decide)) (Kd.R_typed HO141.out) (by decide)) (Kd.R_typed HO145.out) (by decide)) (fun k_ hk => ⟨hk.1.1.2, ⟨hk.1.2, hk.2⟩⟩))).2.1 (Kd.R_F (Kd.R_mono (ok' := (fun k_ => some k_ ≠ (.slice Ao17 t134.length co17 : Value).ownBlock ∧ some k_ ≠ (.slice Ao19 t139.length co19 : Value).ownBlock ∧ some k_ ≠ (v144 : Value).ownBlock)) (Kd.R_apart' (Kd.R_apart' (Kd.R_apart' (HO133.out) (Kd.R_typed HO137.out) (by decide)) (Kd.R_typed HO141.out) (by decide)) (Kd.R_typed HO145.out) (by decide)) (fun k_ hk => ⟨hk.1.1.2, ⟨hk.1.2, hk.2⟩⟩))))) (Reps.none _ _))); intro v147 w21 ho22 hb hg_ hnew_; clear hg_ hnew_; (first | rw [← Ny146.out] at ho22 | (simp only [Int.reduceToNat] at ho22; rw [← Ny146.out] at ho22)); have n0_ := Aside0.mk (Kd.R_below (by (with_reducible repeat (first | apply Kd.R_alloc | apply Kd.R_drewN | apply Kd.R_drew)); exact HO137.out) hb); have n1_ := Aside0.mk (Kd.R_below (by (with_reducible repeat (first | apply Kd.R_alloc | apply Kd.R_drewN | apply Kd.R_drew)); exact HO141.out) hb); have n2_ := Aside0.mk (Kd.R_below (by (with_reducible repeat (first | apply Kd.R_alloc | apply Kd.R_drewN | apply Kd.R_drew)); exact HO145.out) hb); have n3_ := Aside0.mk (Kd.N_lower ho22 (below_size (by repeat (first | (with_reducible first | exact HB.out | apply below_alloc | apply pw_below_drewN | apply below_drew1) | exact HB.out)))); have n4_ := Aside0.mk (below_step (by repeat (first | (with_reducible first | exact HB.out | apply below_alloc | apply pw_below_drewN | apply below_drew1) | exact HB.out)) hb); clear HO137; clear HO141; clear HO145; clear HB; clear HO133; have HO137 := n0_; have HO141 := n1_; have HO145 := n2_; have HO148 := n3_; have HB := n4_; clear n0_ n1_ n2_ n3_ n4_; clear hb ho22; obtain ⟨Ao23, co23, eo23⟩ := Kd.N_slice HO148.out; subst eo23) | (go_at_call 21; (with_reducible refine (foretellkeep_joined.calls k 10 _ _ y146 t149 _ ?side1 ?side2 A10.out).mono ?_); (case side1 => repeat (first | exact (Kd.N_reads' HO148.out).2.2 | (with_reducible refine Kd.C_alloc ?_ _) | (with_reducible refine Kd.C_drewN ?_ _) | (with_reducible refine Kd.C_drew ?_))); (case side2 => exact (Kd.N_reads' HO148.out).2.1); rintro e w24 ⟨v150, rfl, ho0, hb⟩; have n0_ := Aside0.mk (Kd.R_below (by (with_reducible repeat (first | apply Kd.R_alloc | apply Kd.R_drewN | apply Kd.R_drew)); exact HO137.out) hb); have n1_ := Aside0.mk (Kd.R_below (by (with_reducible repeat (first | apply Kd.R_alloc | apply Kd.R_drewN | apply Kd.R_drew)); exact HO141.out) hb); have n2_ := Aside0.mk (Kd.R_below (by (with_reducible repeat (first | apply Kd.R_alloc | apply Kd.R_drewN | apply Kd.R_drew)); exact HO145.out) hb); have n3_ := Aside0.mk (Kd.N_elder' (by (with_reducible repeat (first | apply Kd.N_alloc | apply Kd.N_drewN | apply Kd.N_drew)); exact HO148.out) (Kd.R_base ho0) hb); have n4_ := Aside0.mk (Kd.R_lower ho0 (below_size (by repeat (first | (with_reducible first | exact HB.out | apply below_alloc | apply pw_below_drewN | apply below_drew1) | exact HB.out)))); have n5_ := Aside0.mk (below_step (by repeat (first | (with_reducible first | exact HB.out | apply below_alloc | apply pw_below_drewN | apply below_drew1) | exact HB.out)) hb); clear HO137; clear HO141; clear HO145; clear HO148; clear HB; have HO137 := n0_; have HO141 := n1_; have HO145 := n2_; have HO148 := n3_; have HO151 := n4_; have HB := n5_; clear n0_ n1_ n2_ n3_ n4_ n5_; (try clear hb); (try clear hb2); (try clear hk); (try clear hi); (try clear ho0)) | (go_at_call 20; (with_reducible refine (foretellkeep_letter.calls a1 t152 _ A11.out).mono ?_); rintro e w25 ⟨v153, rfl, ho0, hb⟩; have n0_ := Aside0.mk (Kd.R_below (by (with_reducible repeat (first | apply Kd.R_alloc | apply Kd.R_drewN | apply Kd.R_drew)); exact HO137.out) hb); have n1_ := Aside0.mk (Kd.R_elder' (by (with_reducible repeat (first | apply Kd.R_alloc | apply Kd.R_drewN | apply Kd.R_drew)); exact HO141.out) (Kd.R_base ho0) hb); have n2_ := Aside0.mk (Kd.R_elder' (by (with_reducible repeat (first | apply Kd.R_alloc | apply Kd.R_drewN | apply Kd.R_drew)); exact HO145.out) (Kd.R_base ho0) hb); have n3_ := Aside0.mk (Kd.N_elder' (by (with_reducible repeat (first | apply Kd.N_alloc | apply Kd.N_drewN | apply Kd.N_drew)); exact HO148.out) (Kd.R_base ho0) hb); have n4_ := Aside0.mk (Kd.R_below (by (with_reducible repeat (first | apply Kd.R_alloc | apply Kd.R_drewN | apply Kd.R_drew)); exact HO151.out) hb); have n5_ := Aside0.mk (Kd.R_lower (Kd.R_new' (Kd.R_new' ho0 (Kd.R_lt (by (with_reducible repeat (first | apply Kd.R_alloc | apply Kd.R_drewN | apply Kd.R_drew)); exact HO141.out))) (Kd.R_lt (by (with_reducible repeat (first | apply Kd.R_alloc | apply Kd.R_drewN | apply Kd.R_drew)); exact HO145.out))) (below_size (by repeat (first | (with_reducible first | exact HB.out | apply below_alloc | apply pw_below_drewN | apply below_drew1) | exact HB.out)))); have n6_ := Aside0.mk (below_step (by repeat (first | (with_reducible first | exact HB.out | apply below_alloc | apply pw_below_drewN | apply below_drew1) | exact HB.out)) hb); clear HO137; clear HO141; clear HO145; clear HO148; clear HO151; clear HB; have HO137 := n0_; have HO141 := n1_; have HO145 := n2_; have HO148 := n3_; have HO151 := n4_; have HO154 := n5_; have HB := n6_; clear n0_ n1_ n2_ n3_ n4_ n5_ n6_; (try clear hb); (try clear hb2); (try clear hk); (try clear hi); (try clear ho0); obtain ⟨Ao26, co26, eo26⟩ := Kd.R_slice HO151.out; subst eo26; obtain ⟨Ao27, co27, eo27⟩ := Kd.R_slice HO154.out; subst eo27) | (go_at_call 19; (with_reducible refine (logic_Truths.calls k _ _ t149 _ _ t152 t138 t155 t156 _ ?side1 ?side2 ?side3 ?side4 ?side5 A12.out).mono ?_); (case side1 => repeat (first | exact (Kd.R_reads' HO151.out).2.2 | (with_reducible refine Kd.C_alloc ?_ _) | (with_reducible refine Kd.C_drewN ?_ _) | (with_reducible refine Kd.C_drew ?_))); (case side2 => exact (Kd.R_reads' HO151.out).2.1); (case side3 => repeat (first | exact (Kd.R_reads' HO154.out).2.2 | (with_reducible refine Kd.C_alloc ?_ _) | (with_reducible refine Kd.C_drewN ?_ _) | (with_reducible refine Kd.C_drew ?_))); (case side4 => exact (Kd.R_reads' HO154.out).2.1); (case side5 => first | exact hG_ | exact Glob.drewN hG_ _ | exact Glob.below hG_ (by repeat (first | (with_reducible first | exact HB.out | apply below_alloc | apply pw_below_drewN | apply below_drew1) | exact HB.out))); rintro e w28 ⟨v157, rfl, ho0, hb⟩; have n0_ := Aside0.mk (Kd.R_below (by (with_reducible repeat (first | apply Kd.R_alloc | apply Kd.R_drewN | apply Kd.R_drew)); exact HO137.out) hb); have n1_ := Aside0.mk (Kd.R_elder' (by (with_reducible repeat (first | apply Kd.R_alloc | apply Kd.R_drewN | apply Kd.R_drew)); exact HO141.out) (Kd.R_base ho0) hb); have n2_ := Aside0.mk (Kd.R_elder' (by (with_reducible repeat (first | apply Kd.R_alloc | apply Kd.R_drewN | apply Kd.R_drew)); exact HO145.out) (Kd.R_base ho0) hb); have n3_ := Aside0.mk (Kd.N_elder' (by (with_reducible repeat (first | apply Kd.N_alloc | apply Kd.N_drewN | apply Kd.N_drew)); exact HO148.out) (Kd.R_base ho0) hb); have n4_ := Aside0.mk (Kd.R_below (by (with_reducible repeat (first | apply Kd.R_alloc | apply Kd.R_drewN | apply Kd.R_drew)); exact HO151.out) hb); have n5_ := Aside0.mk (Kd.R_elder' (by (with_reducible repeat (first | apply Kd.R_alloc | apply Kd.R_drewN | apply Kd.R_drew)); exact HO154.out) (Kd.R_base ho0) hb); have n6_ := Aside0.mk (Kd.R_lower (Kd.R_new' (Kd.R_new' (Kd.R_new' ho0 (Kd.R_lt (by (with_reducible repeat (first | apply Kd.R_alloc | apply Kd.R_drewN | apply Kd.R_drew)); exact HO141.out))) (Kd.R_lt (by (with_reducible repeat (first | apply Kd.R_alloc | apply Kd.R_drewN | apply Kd.R_drew)); exact HO145.out))) (Kd.R_lt (by (with_reducible repeat (first | apply Kd.R_alloc | apply Kd.R_drewN | apply Kd.R_drew)); exact HO154.out))) (below_size (by repeat (first | (with_reducible first | exact HB.out | apply below_alloc | apply pw_below_drewN | apply below_drew1) | exact HB.out)))); have n7_ := Aside0.mk (below_step (by repeat (first | (with_reducible first | exact HB.out | apply below_alloc | apply pw_below_drewN | apply below_drew1) | exact HB.out)) hb); clear HO137; clear HO141; clear HO145; clear HO148; clear HO151; clear HO154; clear HB; have HO137 := n0_; have HO141 := n1_; have HO145 := n2_; have HO148 := n3_; have HO151 := n4_; have HO154 := n5_; have HO158 := n6_; have HB := n7_; clear n0_ n1_ n2_ n3_ n4_ n5_ n6_ n7_; (try clear hb); (try clear hb2); (try clear hk); (try clear hi); (try clear ho0))); go_upto_region 6 with (first | (go_at_call 16; (with_reducible refine (foretellkeep_Formula.calls k _ _ l0 3 4 t131 _ ?side1 ?side2 A4.out).mono ?_); (case side1 => repeat (first | exact HR0.out | (with_reducible refine Kd.C_alloc ?_ _) | (with_reducible refine Kd.C_drewN ?_ _) | (with_reducible refine Kd.C_drew ?_))); (case side2 => exact HC0.out); rintro e w14 ⟨v132, rfl, ho0, hb⟩; have n0_ := Aside0.mk (Kd.R_lower ho0 (below_size (by repeat (first | (with_reducible first | exact HB.out | apply below_alloc | apply pw_below_drewN | apply below_drew1) | exact HB.out)))); have n1_ := Aside0.mk (below_step (by repeat (first | (with_reducible first | exact HB.out | apply below_alloc | apply pw_below_drewN | apply below_drew1) | exact HB.out)) hb); clear HB; have HO133 := n0_; have HB := n1_; clear n0_ n1_; (try clear hb); (try clear hb2); (try clear hk); (try clear hi); (try clear ho0); obtain ⟨Ao15, co15, eo15⟩ := Kd.R_slice HO133.out; subst eo15) | (go_at_call 17; (with_reducible refine (logic_Ahead.calls k _ _ t131 3 t134 t135 _ ?side1 ?side2 ?side3 A5.out).mono ?_); (case side1 => repeat (first | exact (Kd.R_reads' HO133.out).2.2 | (with_reducible refine Kd.C_alloc ?_ _) | (with_reducible refine Kd.C_drewN ?_ _) | (with_reducible refine Kd.C_drew ?_))); (case side2 => exact (Kd.R_reads' HO133.out).2.1); (case side3 => first | exact hG_ | exact Glob.drewN hG_ _ | exact Glob.below hG_ (by repeat (first | (with_reducible first | exact HB.out | apply below_alloc | apply pw_below_drewN | apply below_drew1) | exact HB.out))); rintro e w16 ⟨v136, rfl, ho0, hb⟩; have n0_ := Aside0.mk (Kd.R_below (by (with_reducible repeat (first | apply Kd.R_alloc | apply Kd.R_drewN | apply Kd.R_drew)); exact HO133.out) hb); have n1_ := Aside0.mk (Kd.R_lower ho0 (below_size (by repeat (first | (with_reducible first | exact HB.out | apply below_alloc | apply pw_below_drewN | apply below_drew1) | exact HB.out)))); have n2_ := Aside0.mk (below_step (by repeat (first | (with_reducible first | exact HB.out | apply below_alloc | apply pw_below_drewN | apply below_drew1) | exact HB.out)) hb); clear HO133; clear HB; have HO133 := n0_; have HO137 := n1_; have HB := n2_; clear n0_ n1_ n2_; (try clear hb); (try clear hb2); (try clear hk); (try clear hi); (try clear ho0); obtain ⟨Ao17, co17, eo17⟩ := Kd.R_slice HO137.out; subst eo17) | (go_at_call 18; (with_reducible refine (foretellkeep_picked.calls a2 ji6 t138 _ A7.out).mono ?_); rintro e w' ⟨rfl, ⟨nd, rfl⟩⟩; (try first | exact ⟨rfl, _, World.drewN_drewN _ _ _⟩ | exact ⟨rfl, _, Eq.trans (World.drewN_drewN _ _ _) (congrArg (World.drewN _) (Nat.add_assoc _ _ _))⟩)) | (go_at_call 20; (with_reducible refine (foretellkeep_letter.calls a1 t139 _ A8.out).mono ?_); rintro e w18 ⟨v140, rfl, ho0, hb⟩; have n0_ := Aside0.mk (Kd.R_below (by (with_reducible repeat (first | apply Kd.R_alloc | apply Kd.R_drewN | apply Kd.R_drew)); exact HO133.out) hb); have n1_ := Aside0.mk (Kd.R_below (by (with_reducible repeat (first | apply Kd.R_alloc | apply Kd.R_drewN | apply Kd.R_drew)); exact HO137.out) hb); have n2_ := Aside0.mk (Kd.R_lower ho0 (below_size (by repeat (first | (with_reducible first | exact HB.out | apply below_alloc | apply pw_below_drewN | apply below_drew1) | exact HB.out)))); have n3_ := Aside0.mk (below_step (by repeat (first | (with_reducible first | exact HB.out | apply below_alloc | apply pw_below_drewN | apply below_drew1) | exact HB.out)) hb); clear HO133; clear HO137; clear HB; have HO133 := n0_; have HO137 := n1_; have HO141 := n2_; have HB := n3_; clear n0_ n1_ n2_ n3_; (try clear hb); (try clear hb2); (try clear hk); (try clear hi); (try clear ho0); obtain ⟨Ao19, co19, eo19⟩ := Kd.R_slice HO141.out; subst eo19) | (go_at_call 19; (with_reducible refine (logic_Truths.calls k _ _ t131 _ _ t139 t138 t142 t143 _ ?side1 ?side2 ?side3 ?side4 ?side5 A9.out).mono ?_); (case side1 => repeat (first | exact (Kd.R_reads' HO133.out).2.2 | (with_reducible refine Kd.C_alloc ?_ _) | (with_reducible refine Kd.C_drewN ?_ _) | (with_reducible refine Kd.C_drew ?_))); (case side2 => exact (Kd.R_reads' HO133.out).2.1); (case side3 => repeat (first | exact (Kd.R_reads' HO141.out).2.2 | (with_reducible refine Kd.C_alloc ?_ _) | (with_reducible refine Kd.C_drewN ?_ _) | (with_reducible refine Kd.C_drew ?_))); (case side4 => exact (Kd.R_reads' HO141.out).2.1); (case side5 => first | exact hG_ | exact Glob.drewN hG_ _ | exact Glob.below hG_ (by repeat (first | (with_reducible first | exact HB.out | apply below_alloc | apply pw_below_drewN | apply below_drew1) | exact HB.out))); rintro e w20 ⟨v144, rfl, ho0, hb⟩; have n0_ := Aside0.mk (Kd.R_below (by (with_reducible repeat (first | apply Kd.R_alloc | apply Kd.R_drewN | apply Kd.R_drew)); exact HO133.out) hb); have n1_ := Aside0.mk (Kd.R_below (by (with_reducible repeat (first | apply Kd.R_alloc | apply Kd.R_drewN | apply Kd.R_drew)); exact HO137.out) hb); have n2_ := Aside0.mk (Kd.R_elder' (by (with_reducible repeat (first | apply Kd.R_alloc | apply Kd.R_drewN | apply Kd.R_drew)); exact HO141.out) (Kd.R_base ho0) hb); have n3_ := Aside0.mk (Kd.R_lower (Kd.R_new' ho0 (Kd.R_lt (by (with_reducible repeat (first | apply Kd.R_alloc | apply Kd.R_drewN | apply Kd.R_drew)); exact HO141.out))) (below_size (by repeat (first | (with_reducible first | exact HB.out | apply below_alloc | apply pw_below_drewN | apply below_drew1) | exact HB.out)))); have n4_ := Aside0.mk (below_step (by repeat (first | (with_reducible first | exact HB.out | apply below_alloc | apply pw_below_drewN | apply below_drew1) | exact HB.out)) hb); clear HO133; clear HO137; clear HO141; clear HB; have HO133 := n0_; have HO137 := n1_; have HO141 := n2_; have HO145 := n3_; have HB := n4_; clear n0_ n1_ n2_ n3_ n4_; (try clear hb); (try clear hb2); (try clear hk); (try clear hi); (try clear ho0)) | ((with_reducible refine gate_dst (N := 39) rfl ?_); (try (refine gate_guard (by rfl) ?_; dsimp only)); refine Kd.N_lit (Kd.slice 51 k51) _ 23 ?hg (N' := 39) ?hd (xs := ([t131] : List (List (S51)))) (inner := [.slice Ao15 t131.length co15]) (ok := (fun k_ => some k_ ≠ (.slice Ao17 t134.length co17 : Value).ownBlock ∧ some k_ ≠ (.slice Ao19 t139.length co19 : Value).ownBlock ∧ some k_ ≠ (v144 : Value).ownBlock)) (okp := (fun k_ => some k_ ≠ (.slice Ao17 t134.length co17 : Value).ownBlock ∧ some k_ ≠ (.slice Ao19 t139.length co19 : Value).ownBlock ∧ some k_ ≠ (v144 : Value).ownBlock)) ?hr ?hp (fun _ hk => hk) ((show ∀ k_, w20.heap.size ≤ k_ → (fun k_ => some k_ ≠ (.slice Ao17 t134.length co17 : Value).ownBlock ∧ some k_ ≠ (.slice Ao19 t139.length co19 : Value).ownBlock ∧ some k_ ≠ (v144 : Value).ownBlock) k_ from fun k_ hk => ⟨Kd.fresh' (Kd.R_lt (by (with_reducible repeat (first | apply Kd.R_alloc | apply Kd.R_drewN | apply Kd.R_drew)); exact HO137.out)) k_ hk, Kd.fresh' (Kd.R_lt (by (with_reducible repeat (first | apply Kd.R_alloc | apply Kd.R_drewN | apply Kd.R_drew)); exact HO141.out)) k_ hk, Kd.fresh' (Kd.R_lt (by (with_reducible repeat (first | apply Kd.R_alloc | apply Kd.R_drewN | apply Kd.R_drew)); exact HO145.out)) k_ hk⟩) _ (Nat.le_refl _)) (Below.refl _ _) (Nat.le_refl _) (by simp) ?_; (case hd => rfl); (case hg => rfl); (case hr => first | (go_simp; done) | (go_simp; rfl)); (case hp => exact (Reps.one (show Kd.FK (Kd.slice 51 k51) _ _ t131 [.slice Ao15 t131.length co15] from (Kd.FK_slice_mk (Kd.R_reads' (Kd.R_mono (ok' := (fun k_ => some k_ ≠ (.slice Ao17 t134.length co17 : Value).ownBlock ∧ some k_ ≠ (.slice Ao19 t139.length co19 : Value).ownBlock ∧ some k_ ≠ (v144 : Value).ownBlock)) (Kd.R_apart' (Kd.R_apart' (Kd.R_apart' (HO133.out) (Kd.R_typed HO137.out) (by decide)) (Kd.R_typed HO141.out) (by decide)) (Kd.R_typed HO145.out) (by decide)) (fun k_ hk => ⟨hk.1.1.2, ⟨hk.1.2, hk.2⟩⟩))).2.1 (Kd.R_F (Kd.R_mono (ok' := (fun k_ => some k_ ≠ (.slice Ao17 t134.length co17 : Value).ownBlock ∧ some k_ ≠ (.slice Ao19 t139.length co19 : Value).ownBlock ∧ some k_ ≠ (v144 : Value).ownBlock)) (Kd.R_apart' (Kd.R_apart' (Kd.R_apart' (HO133.out) (Kd.R_typed HO137.out) (by decide)) (Kd.R_typed HO141.out) (by decide)) (Kd.R_typed HO145.out) (by decide)) (fun k_ hk => ⟨hk.1.1.2, ⟨hk.1.2, hk.2⟩⟩))))) (Reps.none _ _))); intro v147 w21 ho22 hb hg_ hnew_; clear hg_ hnew_; (first | rw [← Ny146.out] at ho22 | (simp only [Int.reduceToNat] at ho22; rw [← Ny146.out] at ho22)); have n0_ := Aside0.mk (Kd.R_below (by (with_reducible repeat (first | apply Kd.R_alloc | apply Kd.R_drewN | apply Kd.R_drew)); exact HO137.out) hb); have n1_ := Aside0.mk (Kd.R_below (by (with_reducible repeat (first | apply Kd.R_alloc | apply Kd.R_drewN | apply Kd.R_drew)); exact HO141.out) hb); have n2_ := Aside0.mk (Kd.R_below (by (with_reducible repeat (first | apply Kd.R_alloc | apply Kd.R_drewN | apply Kd.R_drew)); exact HO145.out) hb); have n3_ := Aside0.mk (Kd.N_lower ho22 (below_size (by repeat (first | (with_reducible first | exact HB.out | apply below_alloc | apply pw_below_drewN | apply below_drew1) | exact HB.out)))); have n4_ := Aside0.mk (below_step (by repeat (first | (with_reducible first | exact HB.out | apply below_alloc | apply pw_below_drewN | apply below_drew1) | exact HB.out)) hb); clear HO137; clear HO141; clear HO145; clear HB; clear HO133; have HO137 := n0_; have HO141 := n1_; have HO145 := n2_; have HO148 := n3_; have HB := n4_; clear n0_ n1_ n2_ n3_ n4_; clear hb ho22; obtain ⟨Ao23, co23, eo23⟩ := Kd.N_slice HO148.out; subst eo23) | (go_at_call 21; (with_reducible refine (foretellkeep_joined.calls k 10 _ _ y146 t149 _ ?side1 ?side2 A10.out).mono ?_); (case side1 => repeat (first | exact (Kd.N_reads' HO148.out).2.2 | (with_reducible refine Kd.C_alloc ?_ _) | (with_reducible refine Kd.C_drewN ?_ _) | (with_reducible refine Kd.C_drew ?_))); (case side2 => exact (Kd.N_reads' HO148.out).2.1); rintro e w24 ⟨v150, rfl, ho0, hb⟩; have n0_ := Aside0.mk (Kd.R_below (by (with_reducible repeat (first | apply Kd.R_alloc | apply Kd.R_drewN | apply Kd.R_drew)); exact HO137.out) hb); have n1_ := Aside0.mk (Kd.R_below (by (with_reducible repeat (first | apply Kd.R_alloc | apply Kd.R_drewN | apply Kd.R_drew)); exact HO141.out) hb); have n2_ := Aside0.mk (Kd.R_below (by (with_reducible repeat (first | apply Kd.R_alloc | apply Kd.R_drewN | apply Kd.R_drew)); exact HO145.out) hb); have n3_ := Aside0.mk (Kd.N_elder' (by (with_reducible repeat (first | apply Kd.N_alloc | apply Kd.N_drewN | apply Kd.N_drew)); exact HO148.out) (Kd.R_base ho0) hb); have n4_ := Aside0.mk (Kd.R_lower ho0 (below_size (by repeat (first | (with_reducible first | exact HB.out | apply below_alloc | apply pw_below_drewN | apply below_drew1) | exact HB.out)))); have n5_ := Aside0.mk (below_step (by repeat (first | (with_reducible first | exact HB.out | apply below_alloc | apply pw_below_drewN | apply below_drew1) | exact HB.out)) hb); clear HO137; clear HO141; clear HO145; clear HO148; clear HB; have HO137 := n0_; have HO141 := n1_; have HO145 := n2_; have HO148 := n3_; have HO151 := n4_; have HB := n5_; clear n0_ n1_ n2_ n3_ n4_ n5_; (try clear hb); (try clear hb2); (try clear hk); (try clear hi); (try clear ho0)) | (go_at_call 20; (with_reducible refine (foretellkeep_letter.calls a1 t152 _ A11.out).mono ?_); rintro e w25 ⟨v153, rfl, ho0, hb⟩; have n0_ := Aside0.mk (Kd.R_below (by (with_reducible repeat (first | apply Kd.R_alloc | apply Kd.R_drewN | apply Kd.R_drew)); exact HO137.out) hb); have n1_ := Aside0.mk (Kd.R_elder' (by (with_reducible repeat (first | apply Kd.R_alloc | apply Kd.R_drewN | apply Kd.R_drew)); exact HO141.out) (Kd.R_base ho0) hb); have n2_ := Aside0.mk (Kd.R_elder' (by (with_reducible repeat (first | apply Kd.R_alloc | apply Kd.R_drewN | apply Kd.R_drew)); exact HO145.out) (Kd.R_base ho0) hb); have n3_ := Aside0.mk (Kd.N_elder' (by (with_reducible repeat (first | apply Kd.N_alloc | apply Kd.N_drewN | apply Kd.N_drew)); exact HO148.out) (Kd.R_base ho0) hb); have n4_ := Aside0.mk (Kd.R_below (by (with_reducible repeat (first | apply Kd.R_alloc | apply Kd.R_drewN | apply Kd.R_drew)); exact HO151.out) hb); have n5_ := Aside0.mk (Kd.R_lower (Kd.R_new' (Kd.R_new' ho0 (Kd.R_lt (by (with_reducible repeat (first | apply Kd.R_alloc | apply Kd.R_drewN | apply Kd.R_drew)); exact HO141.out))) (Kd.R_lt (by (with_reducible repeat (first | apply Kd.R_alloc | apply Kd.R_drewN | apply Kd.R_drew)); exact HO145.out))) (below_size (by repeat (first | (with_reducible first | exact HB.out | apply below_alloc | apply pw_below_drewN | apply below_drew1) | exact HB.out)))); have n6_ := Aside0.mk (below_step (by repeat (first | (with_reducible first | exact HB.out | apply below_alloc | apply pw_below_drewN | apply below_drew1) | exact HB.out)) hb); clear HO137; clear HO141; clear HO145; clear HO148; clear HO151; clear HB; have HO137 := n0_; have HO141 := n1_; have HO145 := n2_; have HO148 := n3_; have HO151 := n4_; have HO154 := n5_; have HB := n6_; clear n0_ n1_ n2_ n3_ n4_ n5_ n6_; (try clear hb); (try clear hb2); (try clear hk); (try clear hi); (try clear ho0); obtain ⟨Ao26, co26, eo26⟩ := Kd.R_slice HO151.out; subst eo26; obtain ⟨Ao27, co27, eo27⟩ := Kd.R_slice HO154.out; subst eo27) | (go_at_call 19; (with_reducible refine (logic_Truths.calls k _ _ t149 _ _ t152 t138 t155 t156 _ ?side1 ?side2 ?side3 ?side4 ?side5 A12.out).mono ?_); (case side1 => repeat (first | exact (Kd.R_reads' HO151.out).2.2 | (with_reducible refine Kd.C_alloc ?_ _) | (with_reducible refine Kd.C_drewN ?_ _) | (with_reducible refine Kd.C_drew ?_))); (case side2 => exact (Kd.R_reads' HO151.out).2.1); (case side3 => repeat (first | exact (Kd.R_reads' HO154.out).2.2 | (with_reducible refine Kd.C_alloc ?_ _) | (with_reducible refine Kd.C_drewN ?_ _) | (with_reducible refine Kd.C_drew ?_))); (case side4 => exact (Kd.R_reads' HO154.out).2.1); (case side5 => first | exact hG_ | exact Glob.drewN hG_ _ | exact Glob.below hG_ (by repeat (first | (with_reducible first | exact HB.out | apply below_alloc | apply pw_below_drewN | apply below_drew1) | exact HB.out))); rintro e w28 ⟨v157, rfl, ho0, hb⟩; have n0_ := Aside0.mk (Kd.R_below (by (with_reducible repeat (first | apply Kd.R_alloc | apply Kd.R_drewN | apply Kd.R_drew)); exact HO137.out) hb); have n1_ := Aside0.mk (Kd.R_elder' (by (with_reducible repeat (first | apply Kd.R_alloc | apply Kd.R_drewN | apply Kd.R_drew)); exact HO141.out) (Kd.R_base ho0) hb); have n2_ := Aside0.mk (Kd.R_elder' (by (with_reducible repeat (first | apply Kd.R_alloc | apply Kd.R_drewN | apply Kd.R_drew)); exact HO145.out) (Kd.R_base ho0) hb); have n3_ := Aside0.mk (Kd.N_elder' (by (with_reducible repeat (first | apply Kd.N_alloc | apply Kd.N_drewN | apply Kd.N_drew)); exact HO148.out) (Kd.R_base ho0) hb); have n4_ := Aside0.mk (Kd.R_below (by (with_reducible repeat (first | apply Kd.R_alloc | apply Kd.R_drewN | apply Kd.R_drew)); exact HO151.out) hb); have n5_ := Aside0.mk (Kd.R_elder' (by (with_reducible repeat (first | apply Kd.R_alloc | apply Kd.R_drewN | apply Kd.R_drew)); exact HO154.out) (Kd.R_base ho0) hb); have n6_ := Aside0.mk (Kd.R_lower (Kd.R_new' (Kd.R_new' (Kd.R_new' ho0 (Kd.R_lt (by (with_reducible repeat (first | apply Kd.R_alloc | apply Kd.R_drewN | apply Kd.R_drew)); exact HO141.out))) (Kd.R_lt (by (with_reducible repeat (first | apply Kd.R_alloc | apply Kd.R_drewN | apply Kd.R_drew)); exact HO145.out))) (Kd.R_lt (by (with_reducible repeat (first | apply Kd.R_alloc | apply Kd.R_drewN | apply Kd.R_drew)); exact HO154.out))) (below_size (by repeat (first | (with_reducible first | exact HB.out | apply below_alloc | apply pw_below_drewN | apply below_drew1) | exact HB.out)))); have n7_ := Aside0.mk (below_step (by repeat (first | (with_reducible first | exact HB.out | apply below_alloc | apply pw_below_drewN | apply below_drew1) | exact HB.out)) hb); clear HO137; clear HO141; clear HO145; clear HO148; clear HO151; clear HO154; clear HB; have HO137 := n0_; have HO141 := n1_; have HO145 := n2_; have HO148 := n3_; have HO151 := n4_; have HO154 := n5_; have HO158 := n6_; have HB := n7_; clear n0_ n1_ n2_ n3_ n4_ n5_ n6_ n7_; (try clear hb); (try clear hb2); (try clear hk); (try clear hi); (try clear ho0))))
  (try simp only [Act.put, List.setIfInBounds_toArray, List.set_cons_zero, List.set_cons_succ])
  go_cut [80] (fun v80 wc => ∃ (kq : Nat) (x80_12 : Bool), v80 = .bool x80_12 ∧ Aside0 (foretellkeep_TruthTurns.j0 kq t134 t138 t142 t155 x80_12 = some r) ∧ Aside0 (kq ≤ k) ∧ Aside0 (Kd.R (Kd.int .i64) 3 wc w.heap.size (fun _ => True) (.slice Ao17 t134.length co17) t134) ∧ Aside0 (Kd.R Kd.bool 4 wc w.heap.size (fun k_ => some k_ ≠ (v157 : Value).ownBlock) v144 t142) ∧ Aside0 (Kd.R Kd.bool 4 wc w.heap.size (fun k_ => some k_ ≠ (v144 : Value).ownBlock) v157 t155) ∧ Aside0 (Below w.heap.size w wc))
  case first =>
    have H := HC13.out
    clear HC13
    by_cases c29 : t135 = 0
    · rw [if_pos c29] at H
      have c29b0 : (t135 == 0) = true := beq_iff_eq.mpr c29
      have c29b1 : (t135 != 0) = false := bne_eq_false_iff_eq.mpr c29
      clear c29
      (first | rw [c29b0] | (simp only [i64_w, i32_w]; rw [c29b0]) | skip)
      by_cases c30 : t143 = 0
      · rw [if_pos c30] at H
        have c30b0 : (t143 == 0) = true := beq_iff_eq.mpr c30
        have c30b1 : (t143 != 0) = false := bne_eq_false_iff_eq.mpr c30
        clear c30
        by_cases c31 : t156 = 0
        · rw [if_pos c31] at H
          have c31b0 : (t156 == 0) = true := beq_iff_eq.mpr c31
          have c31b1 : (t156 != 0) = false := bne_eq_false_iff_eq.mpr c31
          clear c31
          by_cases c32 : (t142.length : Int) = (t131.length : Int)
          · rw [if_pos c32] at H
            have c32b0 : ((t142.length : Int) == (t131.length : Int)) = true := beq_iff_eq.mpr c32
            have c32b1 : ((t142.length : Int) != (t131.length : Int)) = false := bne_eq_false_iff_eq.mpr c32
            have c32b2 : (t142.length == t131.length) = true := by first | simpa using c32 | (simp at c32 ⊢; omega)
            clear c32
            by_cases c33 : (t155.length : Int) = (wrap64 ((t131.length : Int) + 1))
            · rw [if_pos c33] at H
              have c33b0 : ((t155.length : Int) == (wrap64 ((t131.length : Int) + 1))) = true := beq_iff_eq.mpr c33
              have c33b1 : ((t155.length : Int) != (wrap64 ((t131.length : Int) + 1))) = false := bne_eq_false_iff_eq.mpr c33
              clear c33
              by_cases c34 : 0 < (t155.length : Int)
              · rw [if_pos c34] at H
                have c34b0 : decide (0 < (t155.length : Int)) = true := decide_eq_true c34
                have c34b1 : decide (0 < t155.length) = true := decide_eq_true (by omega)
                clear c34
                by_cases c35 : 0 < (t142.length : Int)
                · rw [if_pos c35] at H
                  have c35b0 : decide (0 < (t142.length : Int)) = true := decide_eq_true c35
                  have c35b1 : decide (0 < t142.length) = true := decide_eq_true (by omega)
                  clear c35
                  have H' := Aside0.mk H
                  clear H
                  obtain ⟨Ao36, co36, eo36⟩ := Kd.R_slice HO145.out
                  subst eo36
                  obtain ⟨Ao37, co37, eo37⟩ := Kd.R_slice HO158.out
                  subst eo37
                  have p159 : 0 ≤ (0 : Int) := (by omega)
                  have q159 : 0 < (t155.length : Int) := of_decide_eq_true (by first | (with_reducible assumption) | assumption)
                  obtain ⟨ad159, e159, hx159_0⟩ := Kd.at_bool (Kd.R_reads' HO158.out).2.2 0 p159 q159
                  cases e159
                  have qi159 : (0 < t155.length) = True := eq_true (by omega)
                  (try rw [show ((0 : Int)).toNat = 0 from rfl] at hx159_0)
                  (try rw [Addr.add_zero'] at hx159_0)
                  replace p159 := eq_true p159
                  replace q159 := eq_true q159
                  have p160 : 0 ≤ (0 : Int) := (by omega)
                  have q160 : 0 < (t142.length : Int) := of_decide_eq_true (by first | (with_reducible assumption) | assumption)
                  obtain ⟨ad160, e160, hx160_0⟩ := Kd.at_bool (Kd.R_reads' HO145.out).2.2 0 p160 q160
                  cases e160
                  have qi160 : (0 < t142.length) = True := eq_true (by omega)
                  (try rw [show ((0 : Int)).toNat = 0 from rfl] at hx160_0)
                  (try rw [Addr.add_zero'] at hx160_0)
                  replace p160 := eq_true p160
                  replace q160 := eq_true q160
                  go_wp2
                  repeat (go_quiet (fail); try go_wp2)
                  go_meet
                  case rel => exact ⟨_, (((rdOf false t155 0) == (rdOf false t142 0))), (by first | rfl | (simp; done) | (simp [*]; done)), (by first | exact H' | (rw [hji6]; exact H')), ⟨by first | omega | exact Nat.le_refl _⟩, ⟨by (with_reducible repeat (first | apply Kd.R_alloc | apply Kd.R_drewN | apply Kd.R_drew)); exact HO137.out⟩, ⟨by (with_reducible repeat (first | apply Kd.R_alloc | apply Kd.R_drewN | apply Kd.R_drew)); exact Kd.R_mono HO145.out (fun _ hk => hk.2)⟩, ⟨by (with_reducible repeat (first | apply Kd.R_alloc | apply Kd.R_drewN | apply Kd.R_drew)); exact Kd.R_mono HO158.out (fun _ hk => hk.1.2)⟩, ⟨by repeat (first | (with_reducible first | exact HB.out | apply below_alloc | apply pw_below_drewN | apply below_drew1) | exact HB.out)⟩⟩
                · rw [if_neg c35] at H
                  exact absurd H (by simp)
              · rw [if_neg c34] at H
                exact absurd H (by simp)
            · rw [if_neg c33] at H
              have c33b0 : ((t155.length : Int) == (wrap64 ((t131.length : Int) + 1))) = false := beq_eq_false_iff_ne.mpr c33
              have c33b1 : ((t155.length : Int) != (wrap64 ((t131.length : Int) + 1))) = true := bne_iff_ne.mpr c33
              have H' := Aside0.mk H
              clear H
              obtain ⟨Ao38, co38, eo38⟩ := Kd.R_slice HO145.out
              subst eo38
              obtain ⟨Ao39, co39, eo39⟩ := Kd.R_slice HO158.out
              subst eo39
              go_wp2
              repeat (go_quiet (fail); try go_wp2)
              go_meet
              case rel => exact ⟨_, (true), (by first | rfl | (simp; done) | (simp [*]; done)), (by first | exact H' | (rw [hji6]; exact H')), ⟨by first | omega | exact Nat.le_refl _⟩, ⟨by (with_reducible repeat (first | apply Kd.R_alloc | apply Kd.R_drewN | apply Kd.R_drew)); exact HO137.out⟩, ⟨by (with_reducible repeat (first | apply Kd.R_alloc | apply Kd.R_drewN | apply Kd.R_drew)); exact Kd.R_mono HO145.out (fun _ hk => hk.2)⟩, ⟨by (with_reducible repeat (first | apply Kd.R_alloc | apply Kd.R_drewN | apply Kd.R_drew)); exact Kd.R_mono HO158.out (fun _ hk => hk.1.2)⟩, ⟨by repeat (first | (with_reducible first | exact HB.out | apply below_alloc | apply pw_below_drewN | apply below_drew1) | exact HB.out)⟩⟩
          · rw [if_neg c32] at H
            have c32b0 : ((t142.length : Int) == (t131.length : Int)) = false := beq_eq_false_iff_ne.mpr c32
            have c32b1 : ((t142.length : Int) != (t131.length : Int)) = true := bne_iff_ne.mpr c32
            have c32b2 : (t142.length == t131.length) = false := by first | simpa using c32 | (simp at c32 ⊢; omega)
            have H' := Aside0.mk H
            clear H
            obtain ⟨Ao40, co40, eo40⟩ := Kd.R_slice HO145.out
            subst eo40
            go_wp2
            repeat (go_quiet (fail); try go_wp2)
            go_meet
            case rel => exact ⟨_, (true), (by first | rfl | (simp; done) | (simp [*]; done)), (by first | exact H' | (rw [hji6]; exact H')), ⟨by first | omega | exact Nat.le_refl _⟩, ⟨by (with_reducible repeat (first | apply Kd.R_alloc | apply Kd.R_drewN | apply Kd.R_drew)); exact HO137.out⟩, ⟨by (with_reducible repeat (first | apply Kd.R_alloc | apply Kd.R_drewN | apply Kd.R_drew)); exact Kd.R_mono HO145.out (fun _ hk => hk.2)⟩, ⟨by (with_reducible repeat (first | apply Kd.R_alloc | apply Kd.R_drewN | apply Kd.R_drew)); exact Kd.R_mono HO158.out (fun _ hk => hk.1.2)⟩, ⟨by repeat (first | (with_reducible first | exact HB.out | apply below_alloc | apply pw_below_drewN | apply below_drew1) | exact HB.out)⟩⟩
        · rw [if_neg c31] at H
          have c31b0 : (t156 == 0) = false := beq_eq_false_iff_ne.mpr c31
          have c31b1 : (t156 != 0) = true := bne_iff_ne.mpr c31
          have H' := Aside0.mk H
          clear H
          go_wp2
          repeat (go_quiet (fail); try go_wp2)
          go_meet
          case rel => exact ⟨_, (true), (by first | rfl | (simp; done) | (simp [*]; done)), (by first | exact H' | (rw [hji6]; exact H')), ⟨by first | omega | exact Nat.le_refl _⟩, ⟨by (with_reducible repeat (first | apply Kd.R_alloc | apply Kd.R_drewN | apply Kd.R_drew)); exact HO137.out⟩, ⟨by (with_reducible repeat (first | apply Kd.R_alloc | apply Kd.R_drewN | apply Kd.R_drew)); exact Kd.R_mono HO145.out (fun _ hk => hk.2)⟩, ⟨by (with_reducible repeat (first | apply Kd.R_alloc | apply Kd.R_drewN | apply Kd.R_drew)); exact Kd.R_mono HO158.out (fun _ hk => hk.1.2)⟩, ⟨by repeat (first | (with_reducible first | exact HB.out | apply below_alloc | apply pw_below_drewN | apply below_drew1) | exact HB.out)⟩⟩
      · rw [if_neg c30] at H
        have c30b0 : (t143 == 0) = false := beq_eq_false_iff_ne.mpr c30
        have c30b1 : (t143 != 0) = true := bne_iff_ne.mpr c30
        have H' := Aside0.mk H
        clear H
        go_wp2
        repeat (go_quiet (fail); try go_wp2)
        go_meet
        case rel => exact ⟨_, (true), (by first | rfl | (simp; done) | (simp [*]; done)), (by first | exact H' | (rw [hji6]; exact H')), ⟨by first | omega | exact Nat.le_refl _⟩, ⟨by (with_reducible repeat (first | apply Kd.R_alloc | apply Kd.R_drewN | apply Kd.R_drew)); exact HO137.out⟩, ⟨by (with_reducible repeat (first | apply Kd.R_alloc | apply Kd.R_drewN | apply Kd.R_drew)); exact Kd.R_mono HO145.out (fun _ hk => hk.2)⟩, ⟨by (with_reducible repeat (first | apply Kd.R_alloc | apply Kd.R_drewN | apply Kd.R_drew)); exact Kd.R_mono HO158.out (fun _ hk => hk.1.2)⟩, ⟨by repeat (first | (with_reducible first | exact HB.out | apply below_alloc | apply pw_below_drewN | apply below_drew1) | exact HB.out)⟩⟩
    · rw [if_neg c29] at H
      have c29b0 : (t135 == 0) = false := beq_eq_false_iff_ne.mpr c29
      have c29b1 : (t135 != 0) = true := bne_iff_ne.mpr c29
      (first | rw [c29b0] | (simp only [i64_w, i32_w]; rw [c29b0]) | skip)
      have H' := Aside0.mk H
      clear H
      go_wp2
      repeat (go_quiet (fail); try go_wp2)
      go_meet
      case rel => exact ⟨_, (true), (by first | rfl | (simp; done) | (simp [*]; done)), (by first | exact H' | (rw [hji6]; exact H')), ⟨by first | omega | exact Nat.le_refl _⟩, ⟨by (with_reducible repeat (first | apply Kd.R_alloc | apply Kd.R_drewN | apply Kd.R_drew)); exact HO137.out⟩, ⟨by (with_reducible repeat (first | apply Kd.R_alloc | apply Kd.R_drewN | apply Kd.R_drew)); exact Kd.R_mono HO145.out (fun _ hk => hk.2)⟩, ⟨by (with_reducible repeat (first | apply Kd.R_alloc | apply Kd.R_drewN | apply Kd.R_drew)); exact Kd.R_mono HO158.out (fun _ hk => hk.1.2)⟩, ⟨by repeat (first | (with_reducible first | exact HB.out | apply below_alloc | apply pw_below_drewN | apply below_drew1) | exact HB.out)⟩⟩
  case rest =>
    clear HC13
    try clear p1
    try clear q1
    try clear hx1
    try clear qi1
    try clear c2
    try clear p2
    try clear c3
    try clear p6
    try clear p15
    try clear q15
    try clear hx15
    try clear qi15
    try clear p16
    try clear q16
    try clear hx16
    try clear qi16
    try clear c29
    try clear c29b0
    try clear c29b1
    try clear c30
    try clear c30b0
    try clear c30b1
    try clear c31
    try clear c31b0
    try clear c31b1
    try clear c32
    try clear c32b0
    try clear c32b1
    try clear c32b2
    try clear c33
    try clear c33b0
    try clear c33b1
    try clear c34
    try clear c34b0
    try clear c34b1
    try clear c35
    try clear c35b0
    try clear c35b1
    try clear hx159_0
    try clear hx160_0
    try clear p159
    try clear p160
    try clear q159
    try clear q160
    obtain ⟨kq, x80_12, rfl, HA, HJ12, HO_8, HO_11, HO_13, HB⟩ := hcut
    cases kq with
    | zero => exact absurd HA.out (by simp [foretellkeep_TruthTurns.j0])
    | succ kj12 =>
      have H := HA.out
      clear HA
      simp only [foretellkeep_TruthTurns.j0] at H
      by_cases c41 : x80_12 = true
      · subst c41
        have H1 : (some false) = some r := by rw [if_pos rfl] at H; exact H
        clear H
        have H := H1
        clear H1
        exact absurd ((Option.some.inj H).trans hr_.out) (by decide)
      · replace c41 := Bool.eq_false_iff.mpr c41
        subst c41
        have H1 : (foretellkeep_TruthTurns.l0 kj12 t134 t138 t142 t155 0) = some r := by rw [if_neg (show ¬ (false = true) by decide)] at H; exact H
        clear H
        have H := H1
        clear H1
        have H' := Aside0.mk H
        clear H
        go_wp2
        repeat (go_quiet (fail); try go_wp2)
        go_loopg [15] kj12 (fun kq v15 w' => ∃ (x15_2 : Int), v15 = .int .i64 x15_2 ∧ Aside0 (foretellkeep_TruthTurns.l0 kq t134 t138 t142 t155 x15_2 = some r) ∧ Aside0 (kq ≤ kj12) ∧ Aside0 (Kd.R (Kd.int .i64) 3 w' w.heap.size (fun _ => True) (.slice Ao17 t134.length co17) t134) ∧ Aside0 (Kd.R Kd.bool 4 w' w.heap.size (fun k_ => some k_ ≠ (v157 : Value).ownBlock) v144 t142) ∧ Aside0 (Kd.R Kd.bool 4 w' w.heap.size (fun k_ => some k_ ≠ (v144 : Value).ownBlock) v157 t155) ∧ Aside0 (Below w.heap.size w w'))
        case atStart => exact ⟨(0), (by first | rfl | (simp; done) | (simp [*]; done)), H', ⟨Nat.le_refl _⟩, ⟨by (with_reducible repeat (first | apply Kd.R_alloc | apply Kd.R_drewN | apply Kd.R_drew)); exact HO_8.out⟩, ⟨by (with_reducible repeat (first | apply Kd.R_alloc | apply Kd.R_drewN | apply Kd.R_drew)); exact HO_11.out⟩, ⟨by (with_reducible repeat (first | apply Kd.R_alloc | apply Kd.R_drewN | apply Kd.R_drew)); exact HO_13.out⟩, ⟨by repeat (first | (with_reducible first | exact HB.out | apply below_alloc | apply pw_below_drewN | apply below_drew1) | exact HB.out)⟩⟩
        case round =>
          clear H'
          try clear p1
          try clear q1
          try clear hx1
          try clear qi1
          try clear c2
          try clear p2
          try clear c3
          try clear c4
          try clear p6
          try clear p15
          try clear q15
          try clear hx15
          try clear qi15
          try clear p16
          try clear q16
          try clear hx16
          try clear qi16
          try clear c29
          try clear c29b0
          try clear c29b1
          try clear c30
          try clear c30b0
          try clear c30b1
          try clear c31
          try clear c31b0
          try clear c31b1
          try clear c32
          try clear c32b0
          try clear c32b1
          try clear c32b2
          try clear c33
          try clear c33b0
          try clear c33b1
          try clear c34
          try clear c34b0
          try clear c34b1
          try clear c35
          try clear c35b0
          try clear c35b1
          try clear c41
          try clear hx159_0
          try clear hx160_0
          try clear p1
          try clear p15
          try clear p159
          try clear p16
          try clear p160
          try clear p2
          try clear p6
          try clear q1
          try clear q15
          try clear q159
          try clear q16
          try clear q160
          obtain ⟨x15_2, rfl, HA, HK2, HO_8, HO_11, HO_13, HB⟩ := hrel
          cases gk with
          | zero => exact absurd HA.out (by simp [foretellkeep_TruthTurns.l0])
          | succ k2 =>
            have H := HA.out
            clear HA
            simp only [foretellkeep_TruthTurns.l0] at H
            by_cases c42 : x15_2 < (t134.length : Int)
            · rw [if_pos c42] at H
              have c42b0 : decide (x15_2 < (t134.length : Int)) = true := decide_eq_true c42
              clear c42
              by_cases c43 : 0 ≤ x15_2
              · rw [if_pos c43] at H
                have c43b0 : decide (0 ≤ x15_2) = true := decide_eq_true c43
                clear c43
                by_cases c44 : 0 ≤ (rd t134 x15_2)
                · rw [if_pos c44] at H
                  have c44b0 : decide (0 ≤ (rd t134 x15_2)) = true := decide_eq_true c44
                  clear c44
                  by_cases c45 : (rd t134 x15_2) < (t142.length : Int)
                  · rw [if_pos c45] at H
                    have c45b0 : decide ((rd t134 x15_2) < (t142.length : Int)) = true := decide_eq_true c45
                    clear c45
                    have c46b0 := eq_true (of_decide_eq_true (by first | (with_reducible assumption) | assumption) : 0 ≤ x15_2)
                    obtain ⟨ji47, hji47⟩ : ∃ j_ : Int, (shr .i64 t138 x15_2) = j_ := ⟨_, rfl⟩
                    replace H : (if ((rdOf false t142 (rd t134 x15_2)) != ((Go.bits .and .i64 (ji47) 1) == 1)) = true then (some false) else (foretellkeep_TruthTurns.l0 k2 t134 t138 t142 t155 (wrap64 (x15_2 + 1)))) = some r := by first | (rw [hji47] at H; exact H) | (simp only [hji47] at H ⊢; exact H)
                    have hji47_ : (t138 / 2 ^ min x15_2.toNat 64) = ji47 := hji47
                    have hji47z : x15_2 ≤ 64 → (t138 / 2 ^ x15_2.toNat) = ji47 := shr_small hji47
                    by_cases c48 : ((rdOf false t142 (rd t134 x15_2)) != ((Go.bits .and .i64 (ji47) 1) == 1)) = true
                    · rw [if_pos c48] at H
                      exact absurd ((Option.some.inj H).trans hr_.out) (by decide)
                    · rw [if_neg c48] at H
                      have c48b0 : ((rdOf false t142 (rd t134 x15_2)) != ((Go.bits .and .i64 (ji47) 1) == 1)) = false := by simpa using c48
                      (try (have c48b1 : decide ((rdOf false t142 (rd t134 x15_2)) = ((Go.bits .and .i64 (ji47) 1) == 1)) = true := by simpa using c48))
                      (try (have c48b2 : ((rdOf false t142 (rd t134 x15_2)) == ((Go.bits .and .i64 (ji47) 1) == 1)) = true := by simpa using c48))
                      clear c48
                      have H' := Aside0.mk H
                      clear H
                      have p161 : 0 ≤ (x15_2 : Int) := of_decide_eq_true (by first | (with_reducible assumption) | assumption)
                      have q161 : x15_2 < (t134.length : Int) := of_decide_eq_true (by first | (with_reducible assumption) | assumption)
                      obtain ⟨ad161, e161, hx161_0⟩ := Kd.at_int (Kd.R_reads' HO_8.out).2.2 x15_2 p161 q161
                      cases e161
                      replace p161 := eq_true p161
                      replace q161 := eq_true q161
                      obtain ⟨Ao49, co49, eo49⟩ := Kd.R_slice HO_11.out
                      subst eo49
                      have p162 : 0 ≤ ((rd t134 x15_2) : Int) := of_decide_eq_true (by first | (with_reducible assumption) | assumption)
                      have q162 : (rd t134 x15_2) < (t142.length : Int) := of_decide_eq_true (by first | (with_reducible assumption) | assumption)
                      obtain ⟨ad162, e162, hx162_0⟩ := Kd.at_bool (Kd.R_reads' HO_11.out).2.2 (rd t134 x15_2) p162 q162
                      cases e162
                      replace p162 := eq_true p162
                      replace q162 := eq_true q162
                      go_wp2
                      repeat (go_quiet (fail); try go_wp2)
                      go_roundg k2
                      case measure => have := HJ12.out; have := HK2.out; omega
                      case rel => exact ⟨(wrap64 (x15_2 + 1)), (by first | rfl | (simp; done) | (simp [*]; done)), (by first | exact H' | (rw [hji47]; exact H') | (rw [hji6]; exact H') | (rw [hji6, hji47]; exact H') | (rw [hji47, hji6]; exact H')), ⟨by have := HJ12.out; have := HK2.out; omega⟩, ⟨by (with_reducible repeat (first | apply Kd.R_alloc | apply Kd.R_drewN | apply Kd.R_drew)); exact HO_8.out⟩, ⟨by (with_reducible repeat (first | apply Kd.R_alloc | apply Kd.R_drewN | apply Kd.R_drew)); exact HO_11.out⟩, ⟨by (with_reducible repeat (first | apply Kd.R_alloc | apply Kd.R_drewN | apply Kd.R_drew)); exact HO_13.out⟩, ⟨by repeat (first | (with_reducible first | exact HB.out | apply below_alloc | apply pw_below_drewN | apply below_drew1) | exact HB.out)⟩⟩
                  · rw [if_neg c45] at H
                    exact absurd H (by simp)
                · rw [if_neg c44] at H
                  exact absurd H (by simp)
              · rw [if_neg c43] at H
                exact absurd H (by simp)
            · rw [if_neg c42] at H
              have c42b0 : decide (x15_2 < (t134.length : Int)) = false := decide_eq_false c42
              clear c42
              have H' := Aside0.mk H
              clear H
              go_wp2
              repeat (go_quiet (fail); try go_wp2)
              go_loopg [16] k2 (fun kq v16 w' => ∃ (x16_3 : Int), v16 = .int .i64 x16_3 ∧ Aside0 (foretellkeep_TruthTurns.l1 kq t142 t155 x16_3 = some r) ∧ Aside0 (kq ≤ k2) ∧ Aside0 (Kd.R Kd.bool 4 w' w.heap.size (fun k_ => some k_ ≠ (v157 : Value).ownBlock) v144 t142) ∧ Aside0 (Kd.R Kd.bool 4 w' w.heap.size (fun k_ => some k_ ≠ (v144 : Value).ownBlock) v157 t155) ∧ Aside0 (Below w.heap.size w w'))
              case atStart => exact ⟨(0), (by first | rfl | (simp; done) | (simp [*]; done)), H', ⟨Nat.le_refl _⟩, ⟨by (with_reducible repeat (first | apply Kd.R_alloc | apply Kd.R_drewN | apply Kd.R_drew)); exact HO_11.out⟩, ⟨by (with_reducible repeat (first | apply Kd.R_alloc | apply Kd.R_drewN | apply Kd.R_drew)); exact HO_13.out⟩, ⟨by repeat (first | (with_reducible first | exact HB.out | apply below_alloc | apply pw_below_drewN | apply below_drew1) | exact HB.out)⟩⟩
              case round =>
                clear H'
                try clear p1
                try clear q1
                try clear hx1
                try clear qi1
                try clear c2
                try clear p2
                try clear c3
                try clear c4
                try clear p6
                try clear p15
                try clear q15
                try clear hx15
                try clear qi15
                try clear p16
                try clear q16
                try clear hx16
                try clear qi16
                try clear c29
                try clear c29b0
                try clear c29b1
                try clear c30
                try clear c30b0
                try clear c30b1
                try clear c31
                try clear c31b0
                try clear c31b1
                try clear c32
                try clear c32b0
                try clear c32b1
                try clear c32b2
                try clear c33
                try clear c33b0
                try clear c33b1
                try clear c34
                try clear c34b0
                try clear c34b1
                try clear c35
                try clear c35b0
                try clear c35b1
                try clear c41
                try clear c42
                try clear c42b0
                try clear c43
                try clear c43b0
                try clear c44
                try clear c44b0
                try clear c45
                try clear c45b0
                try clear c46
                try clear c46b0
                try clear c48
                try clear c48b0
                try clear c48b1
                try clear c48b2
                try clear hx159_0
                try clear hx160_0
                try clear hx161_0
                try clear hx162_0
                try clear p1
                try clear p15
                try clear p159
                try clear p16
                try clear p160
                try clear p161
                try clear p162
                try clear p2
                try clear p6
                try clear q1
                try clear q15
                try clear q159
                try clear q16
                try clear q160
                try clear q161
                try clear q162
                obtain ⟨x16_3, rfl, HA, HK3, HO_11, HO_13, HB⟩ := hrel
                cases gk with
                | zero => exact absurd HA.out (by simp [foretellkeep_TruthTurns.l1])
                | succ k3 =>
                  have H := HA.out
                  clear HA
                  simp only [foretellkeep_TruthTurns.l1] at H
                  by_cases c50 : x16_3 < (t142.length : Int)
                  · rw [if_pos c50] at H
                    have c50b0 : decide (x16_3 < (t142.length : Int)) = true := decide_eq_true c50
                    clear c50
                    by_cases c51 : 0 ≤ x16_3
                    · rw [if_pos c51] at H
                      have c51b0 : decide (0 ≤ x16_3) = true := decide_eq_true c51
                      clear c51
                      obtain ⟨ji52, hji52⟩ : ∃ j_ : Int, (wrap64 (x16_3 + 1)) = j_ := ⟨_, rfl⟩
                      replace H : (if 0 ≤ (ji52) then (if (ji52) < (t155.length : Int) then (if ((rdOf false t142 x16_3) != (rdOf false t155 (ji52))) = true then (some false) else (foretellkeep_TruthTurns.l1 k3 t142 t155 ji52)) else (none)) else (none)) = some r := by first | (rw [hji52] at H; exact H) | (simp only [hji52] at H ⊢; exact H)
                      have hji52w : (IntKind.i64.wrap (x16_3 + 1)) = ji52 := (i64_w _).trans hji52
                      by_cases c53 : 0 ≤ (ji52)
                      · rw [if_pos c53] at H
                        have c53b0 : decide (0 ≤ (ji52)) = true := decide_eq_true c53
                        clear c53
                        by_cases c54 : (ji52) < (t155.length : Int)
                        · rw [if_pos c54] at H
                          have c54b0 : decide ((ji52) < (t155.length : Int)) = true := decide_eq_true c54
                          clear c54
                          by_cases c55 : ((rdOf false t142 x16_3) != (rdOf false t155 (ji52))) = true
                          · rw [if_pos c55] at H
                            exact absurd ((Option.some.inj H).trans hr_.out) (by decide)
                          · rw [if_neg c55] at H
                            have c55b0 : ((rdOf false t142 x16_3) != (rdOf false t155 (ji52))) = false := by simpa using c55
                            (try (have c55b1 : decide ((rdOf false t142 x16_3) = (rdOf false t155 (ji52))) = true := by simpa using c55))
                            (try (have c55b2 : ((rdOf false t142 x16_3) == (rdOf false t155 (ji52))) = true := by simpa using c55))
                            clear c55
                            have H' := Aside0.mk H
                            clear H
                            obtain ⟨Ao56, co56, eo56⟩ := Kd.R_slice HO_11.out
                            subst eo56
                            have p163 : 0 ≤ (x16_3 : Int) := of_decide_eq_true (by first | (with_reducible assumption) | assumption)
                            have q163 : x16_3 < (t142.length : Int) := of_decide_eq_true (by first | (with_reducible assumption) | assumption)
                            obtain ⟨ad163, e163, hx163_0⟩ := Kd.at_bool (Kd.R_reads' HO_11.out).2.2 x16_3 p163 q163
                            cases e163
                            replace p163 := eq_true p163
                            replace q163 := eq_true q163
                            obtain ⟨Ao57, co57, eo57⟩ := Kd.R_slice HO_13.out
                            subst eo57
                            have p164 : 0 ≤ ((ji52) : Int) := of_decide_eq_true (by first | (with_reducible assumption) | assumption)
                            have q164 : (ji52) < (t155.length : Int) := of_decide_eq_true (by first | (with_reducible assumption) | assumption)
                            obtain ⟨ad164, e164, hx164_0⟩ := Kd.at_bool (Kd.R_reads' HO_13.out).2.2 (ji52) p164 q164
                            cases e164
                            replace p164 := eq_true p164
                            replace q164 := eq_true q164
                            go_wp2
                            repeat (go_quiet (fail); try go_wp2)
                            go_roundg k3
                            case measure => have := HJ12.out; have := HK2.out; have := HK3.out; omega
                            case rel => exact ⟨(ji52), (by first | rfl | (simp; done) | (simp only [← hji52] <;> (first | rfl | simp)) | (simp [*]; done)), (by first | exact H' | (rw [hji52]; exact H') | (rw [hji47]; exact H') | (rw [hji6]; exact H') | (rw [hji6, hji47]; exact H') | (rw [hji6, hji52]; exact H') | (rw [hji47, hji6]; exact H') | (rw [hji47, hji52]; exact H') | (rw [hji52, hji6]; exact H') | (rw [hji52, hji47]; exact H')), ⟨by have := HJ12.out; have := HK2.out; have := HK3.out; omega⟩, ⟨by (with_reducible repeat (first | apply Kd.R_alloc | apply Kd.R_drewN | apply Kd.R_drew)); exact HO_11.out⟩, ⟨by (with_reducible repeat (first | apply Kd.R_alloc | apply Kd.R_drewN | apply Kd.R_drew)); exact HO_13.out⟩, ⟨by repeat (first | (with_reducible first | exact HB.out | apply below_alloc | apply pw_below_drewN | apply below_drew1) | exact HB.out)⟩⟩
                        · rw [if_neg c54] at H
                          exact absurd H (by simp)
                      · rw [if_neg c53] at H
                        exact absurd H (by simp)
                    · rw [if_neg c51] at H
                      exact absurd H (by simp)
                  · rw [if_neg c50] at H
                    have c50b0 : decide (x16_3 < (t142.length : Int)) = false := decide_eq_false c50
                    clear c50
                    obtain rfl := Option.some.inj H
                    obtain ⟨Ao58, co58, eo58⟩ := Kd.R_slice HO_11.out
                    subst eo58
                    go_wp2
                    repeat (go_quiet (fail); try go_wp2)
                    go_ret
                    exact ⟨by first | rfl | (simp [errW_none, errW_some] <;> rfl) | (simp only [← hji6]; first | rfl | (simp [errW_none, errW_some] <;> rfl)) | (simp [*, errW_none, errW_some] <;> rfl), by repeat (first | (with_reducible first | exact HB.out | apply below_alloc | apply pw_below_drewN | apply below_drew1) | exact HB.out)⟩

end Go.Proofs.YtcoaeefmmnohkaaDoor.P
