import Derived.Test.YtbokbbcoekeoaaaDoorJ1
import Derived.Test.YtbokbbcoekeoaaaDoorJ26
-- a walk, laid out by a program of this repo over the seat's translation
namespace Go.Proofs.YtbokbbcoekeoaaaDoor.P
open Go.RowKit Go.Proofs.YtbokbbcoekeoaaaDoorW.PrintWords Go.Proofs.YtbokbbcoekeoaaaDoorW.PrintLast Go.Proofs.YtbokbbcoekeoaaaDoorW.PrintMore Go.Proofs.YtbokbbcoekeoaaaDoor.G
attribute [local go_sem] max2_int min2_int max_two min_two max_three min_three max_four min_four   -- for this text's walks alone
set_option linter.unusedVariables false
set_option linter.unusedSimpArgs false

/-- What is left to prove of the law BehindNext: numbers and lists alone. -/
def foretellkeep_BehindNext.Pur : Prop := ∀ (a0_0 : Int) (a0_1 : Int) (a0_2 : Int) (a0_3 : Int) (a0_4 : Int) (a0_5 : Int) (l0_6 : List (S124)) (l1 : List (S152)) (a2 : Int), (((Lit.int .i64 a0_0).wf = true ∧ (Lit.int .i64 a0_1).wf = true) ∧ ((Lit.int .i64 a0_2).wf = true ∧ (Lit.int .i64 a0_3).wf = true) ∧ ((Lit.int .i64 a0_4).wf = true ∧ (Lit.int .i64 a0_5).wf = true) ∧ (l0_6.length ≤ maxLen ∧ ∀ y ∈ l0_6, ((y.f0.length ≤ maxLen ∧ ∀ z1 ∈ y.f0, ((Lit.int .i64 z1.f0).wf = true ∧ (Lit.int .i64 z1.f1).wf = true)) ∧ (Lit.int .i64 y.f1).wf = true ∧ (y.f2.length ≤ maxLen ∧ ∀ z1 ∈ y.f2, ((Lit.int .i64 z1.f0).wf = true ∧ (Lit.int .i64 z1.f1).wf = true)) ∧ True))) → (l1.length ≤ maxLen ∧ ∀ y ∈ l1, ((Lit.int .i64 y.f0).wf = true ∧ (Lit.int .i64 y.f1).wf = true)) → (Lit.int .i64 a2).wf = true → ∃ k, foretellkeep_BehindNext.f k a0_0 a0_1 a0_2 a0_3 a0_4 a0_5 l0_6 l1 a2 = some true
theorem foretellkeep_BehindNext.wlk (P : foretellkeep_BehindNext.Pur) (a0_0 : Int) (a0_1 : Int) (a0_2 : Int) (a0_3 : Int) (a0_4 : Int) (a0_5 : Int) (A0_6 : Option Addr) (c0_6 : Nat) (l0_6 : List (S124)) (A1 : Option Addr) (c1 : Nat) (l1 : List (S152)) (a2 : Int) (w : World) (hr0_6 : Kd.C k124 w A0_6 l0_6.length l0_6) (hc0_6 : l0_6.length ≤ c0_6) (hr1 : Kd.C k152 w A1 l1.length l1) (hc1 : l1.length ≤ c1) (w0 : (((Lit.int .i64 a0_0).wf = true ∧ (Lit.int .i64 a0_1).wf = true) ∧ ((Lit.int .i64 a0_2).wf = true ∧ (Lit.int .i64 a0_3).wf = true) ∧ ((Lit.int .i64 a0_4).wf = true ∧ (Lit.int .i64 a0_5).wf = true) ∧ (l0_6.length ≤ maxLen ∧ ∀ y ∈ l0_6, ((y.f0.length ≤ maxLen ∧ ∀ z1 ∈ y.f0, ((Lit.int .i64 z1.f0).wf = true ∧ (Lit.int .i64 z1.f1).wf = true)) ∧ (Lit.int .i64 y.f1).wf = true ∧ (y.f2.length ≤ maxLen ∧ ∀ z1 ∈ y.f2, ((Lit.int .i64 z1.f0).wf = true ∧ (Lit.int .i64 z1.f1).wf = true)) ∧ True)))) (w1 : (l1.length ≤ maxLen ∧ ∀ y ∈ l1, ((Lit.int .i64 y.f0).wf = true ∧ (Lit.int .i64 y.f1).wf = true))) (w2 : (Lit.int .i64 a2).wf = true) (hG_ : Glob w) :
    Calls Tryd.prog 4 #[.agg #[.int .i64 a0_0, .int .i64 a0_1, .int .i64 a0_2, .int .i64 a0_3, .int .i64 a0_4, .int .i64 a0_5, .slice A0_6 l0_6.length c0_6], .slice A1 l1.length c1, .int .i64 a2] w fun e w' => e = .returned (.bool true) ∧ Below w.heap.size w w' := by
  obtain ⟨k, h⟩ := P a0_0 a0_1 a0_2 a0_3 a0_4 a0_5 l0_6 l1 a2 w0 w1 w2
  refine (foretellkeep_BehindNext.calls k a0_0 a0_1 a0_2 a0_3 a0_4 a0_5 _ _ l0_6 _ _ l1 a2 true w hr0_6 hc0_6 hr1 hc1 hG_ ⟨rfl⟩ h).mono ?_
  rintro e w' ⟨rfl, hd⟩
  exact ⟨rfl, hd⟩
end Go.Proofs.YtbokbbcoekeoaaaDoor.P
