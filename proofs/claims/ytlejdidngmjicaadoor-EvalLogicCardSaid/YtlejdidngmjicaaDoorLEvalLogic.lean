-- a walk, laid out by a program of this repo over the seat's translation
import Derived.Test.YtlejdidngmjicaaDoorF0
import Derived.Test.YtlejdidngmjicaaDoorFForetellkeepEvalLogic
namespace Go.Proofs.YtlejdidngmjicaaDoor.P
open Go.RowKit Go.Proofs.YtlejdidngmjicaaDoorW.PrintWords Go.Proofs.YtlejdidngmjicaaDoorW.PrintLast Go.Proofs.YtlejdidngmjicaaDoorW.PrintMore Go.Proofs.YtlejdidngmjicaaDoor.G
attribute [local go_sem] max2_int min2_int max_two min_two max_three min_three max_four min_four   -- for this text's walks alone
set_option linter.unusedVariables false
set_option linter.unusedSimpArgs false

/-- What is left to prove of the law EvalLogic: numbers and lists alone. -/
def foretellkeep_EvalLogic.Pur : Prop := ∀ (l0 : List (S69)) (l1 : List (S69)) (a2_0 : Int) (a2_1 : Int) (a2_2 : Int), (l0.length ≤ maxLen ∧ ∀ y ∈ l0, ((Lit.int .i64 y.f0).wf = true ∧ (Lit.int .i64 y.f1).wf = true)) → (l1.length ≤ maxLen ∧ ∀ y ∈ l1, ((Lit.int .i64 y.f0).wf = true ∧ (Lit.int .i64 y.f1).wf = true)) → ((Lit.int .i64 a2_0).wf = true ∧ (Lit.int .i64 a2_1).wf = true ∧ (Lit.int .i64 a2_2).wf = true) → ∃ k, foretellkeep_EvalLogic.f k l0 l1 a2_0 a2_1 a2_2 = some true
theorem foretellkeep_EvalLogic.wlk (P : foretellkeep_EvalLogic.Pur) (A0 : Option Addr) (c0 : Nat) (l0 : List (S69)) (A1 : Option Addr) (c1 : Nat) (l1 : List (S69)) (a2_0 : Int) (a2_1 : Int) (a2_2 : Int) (w : World) (hr0 : Kd.C k69 w A0 l0.length l0) (hc0 : l0.length ≤ c0) (hr1 : Kd.C k69 w A1 l1.length l1) (hc1 : l1.length ≤ c1) (w0 : (l0.length ≤ maxLen ∧ ∀ y ∈ l0, ((Lit.int .i64 y.f0).wf = true ∧ (Lit.int .i64 y.f1).wf = true))) (w1 : (l1.length ≤ maxLen ∧ ∀ y ∈ l1, ((Lit.int .i64 y.f0).wf = true ∧ (Lit.int .i64 y.f1).wf = true))) (w2 : ((Lit.int .i64 a2_0).wf = true ∧ (Lit.int .i64 a2_1).wf = true ∧ (Lit.int .i64 a2_2).wf = true)) (hG_ : Glob w) :
    Calls Tryd.prog 10 #[.slice A0 l0.length c0, .slice A1 l1.length c1, .agg #[.int .i64 a2_0, .int .i64 a2_1, .int .i64 a2_2]] w fun e w' => e = .returned (.bool true) ∧ Below w.heap.size w w' := by
  obtain ⟨k, h⟩ := P l0 l1 a2_0 a2_1 a2_2 w0 w1 w2
  refine (foretellkeep_EvalLogic.calls k _ _ l0 _ _ l1 a2_0 a2_1 a2_2 true w hr0 hc0 hr1 hc1 hG_ ⟨rfl⟩ h).mono ?_
  rintro e w' ⟨rfl, hd⟩
  exact ⟨rfl, hd⟩
end Go.Proofs.YtlejdidngmjicaaDoor.P
