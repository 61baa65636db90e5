import Derived.Test.YteennleoieafiaaDoorK2
import Derived.Test.YteennleoieafiaaDoorK11
-- a walk, laid out by a program of this repo over the seat's translation
namespace Go.Proofs.YteennleoieafiaaDoor.P
open Go.RowKit Go.Proofs.YteennleoieafiaaDoorW.PrintWords Go.Proofs.YteennleoieafiaaDoorW.PrintLast Go.Proofs.YteennleoieafiaaDoorW.PrintMore Go.Proofs.YteennleoieafiaaDoor.G
attribute [local go_sem] max2_int min2_int max_two min_two max_three min_three max_four min_four   -- for this text's walks alone
set_option linter.unusedVariables false
set_option linter.unusedSimpArgs false

/-- What is left to prove of the law ModelTwice: numbers and lists alone. -/
def foretellkeep_ModelTwice.Pur : Prop := ∀ (a0_0 : Int) (a0_1 : Int) (a0_2 : Int) (a0_3 : Int) (a0_4 : Int) (a0_5 : Int) (l0_6 : List (S65)) (a1 : Int), (((Lit.int .i64 a0_0).wf = true ∧ (Lit.int .i64 a0_1).wf = true) ∧ ((Lit.int .i64 a0_2).wf = true ∧ (Lit.int .i64 a0_3).wf = true) ∧ ((Lit.int .i64 a0_4).wf = true ∧ (Lit.int .i64 a0_5).wf = true) ∧ (l0_6.length ≤ maxLen ∧ ∀ y ∈ l0_6, ((y.f0.length ≤ maxLen ∧ ∀ z1 ∈ y.f0, ((Lit.int .i64 z1.f0).wf = true ∧ (Lit.int .i64 z1.f1).wf = true)) ∧ (Lit.int .i64 y.f1).wf = true ∧ (y.f2.length ≤ maxLen ∧ ∀ z1 ∈ y.f2, ((Lit.int .i64 z1.f0).wf = true ∧ (Lit.int .i64 z1.f1).wf = true)) ∧ True))) → (Lit.int .i64 a1).wf = true → ∃ k, foretellkeep_ModelTwice.f k a0_0 a0_1 a0_2 a0_3 a0_4 a0_5 l0_6 a1 = some true
theorem foretellkeep_ModelTwice.wlk (P : foretellkeep_ModelTwice.Pur) (a0_0 : Int) (a0_1 : Int) (a0_2 : Int) (a0_3 : Int) (a0_4 : Int) (a0_5 : Int) (A0_6 : Option Addr) (c0_6 : Nat) (l0_6 : List (S65)) (a1 : Int) (w : World) (hr0_6 : Kd.C k65 w A0_6 l0_6.length l0_6) (hc0_6 : l0_6.length ≤ c0_6) (w0 : (((Lit.int .i64 a0_0).wf = true ∧ (Lit.int .i64 a0_1).wf = true) ∧ ((Lit.int .i64 a0_2).wf = true ∧ (Lit.int .i64 a0_3).wf = true) ∧ ((Lit.int .i64 a0_4).wf = true ∧ (Lit.int .i64 a0_5).wf = true) ∧ (l0_6.length ≤ maxLen ∧ ∀ y ∈ l0_6, ((y.f0.length ≤ maxLen ∧ ∀ z1 ∈ y.f0, ((Lit.int .i64 z1.f0).wf = true ∧ (Lit.int .i64 z1.f1).wf = true)) ∧ (Lit.int .i64 y.f1).wf = true ∧ (y.f2.length ≤ maxLen ∧ ∀ z1 ∈ y.f2, ((Lit.int .i64 z1.f0).wf = true ∧ (Lit.int .i64 z1.f1).wf = true)) ∧ True)))) (w1 : (Lit.int .i64 a1).wf = true) (hG_ : Glob w) :
    Calls Tryd.prog 3 #[.agg #[.int .i64 a0_0, .int .i64 a0_1, .int .i64 a0_2, .int .i64 a0_3, .int .i64 a0_4, .int .i64 a0_5, .slice A0_6 l0_6.length c0_6], .int .i64 a1] w fun e w' => e = .returned (.bool true) ∧ Below w.heap.size w w' := by
  obtain ⟨k, h⟩ := P a0_0 a0_1 a0_2 a0_3 a0_4 a0_5 l0_6 a1 w0 w1
  refine (foretellkeep_ModelTwice.calls k a0_0 a0_1 a0_2 a0_3 a0_4 a0_5 _ _ l0_6 a1 true w hr0_6 hc0_6 hG_ ⟨rfl⟩ h).mono ?_
  rintro e w' ⟨rfl, hd⟩
  exact ⟨rfl, hd⟩
end Go.Proofs.YteennleoieafiaaDoor.P
