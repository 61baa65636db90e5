-- a walk, laid out by a program of this repo over the seat's translation
import Derived.Test.YtcoaeefmmnohkaaDoorF0
import Derived.Test.YtcoaeefmmnohkaaDoorFForetellkeepTruthTurns
namespace Go.Proofs.YtcoaeefmmnohkaaDoor.P
open Go.RowKit Go.Proofs.YtcoaeefmmnohkaaDoorW.PrintWords Go.Proofs.YtcoaeefmmnohkaaDoorW.PrintLast Go.Proofs.YtcoaeefmmnohkaaDoorW.PrintMore Go.Proofs.YtcoaeefmmnohkaaDoor.G
attribute [local go_sem] max2_int min2_int max_two min_two max_three min_three max_four min_four   -- for this text's walks alone
set_option linter.unusedVariables false
set_option linter.unusedSimpArgs false

/-- What is left to prove of the law TruthTurns: numbers and lists alone. -/
def foretellkeep_TruthTurns.Pur : Prop := ∀ (l0 : List (S79)) (a1 : Int) (a2 : Int), (l0.length ≤ maxLen ∧ ∀ y ∈ l0, ((Lit.int .i64 y.f0).wf = true ∧ (Lit.int .i64 y.f1).wf = true)) → (Lit.int .i64 a1).wf = true → (Lit.int .i64 a2).wf = true → ∃ k, foretellkeep_TruthTurns.f k l0 a1 a2 = some true
theorem foretellkeep_TruthTurns.wlk (P : foretellkeep_TruthTurns.Pur) (A0 : Option Addr) (c0 : Nat) (l0 : List (S79)) (a1 : Int) (a2 : Int) (w : World) (hr0 : Kd.C k79 w A0 l0.length l0) (hc0 : l0.length ≤ c0) (w0 : (l0.length ≤ maxLen ∧ ∀ y ∈ l0, ((Lit.int .i64 y.f0).wf = true ∧ (Lit.int .i64 y.f1).wf = true))) (w1 : (Lit.int .i64 a1).wf = true) (w2 : (Lit.int .i64 a2).wf = true) (hG_ : Glob w) :
    Calls Tryd.prog 3 #[.slice A0 l0.length c0, .int .i64 a1, .int .i64 a2] w fun e w' => e = .returned (.bool true) ∧ Below w.heap.size w w' := by
  obtain ⟨k, h⟩ := P l0 a1 a2 w0 w1 w2
  refine (foretellkeep_TruthTurns.calls k _ _ l0 a1 a2 true w hr0 hc0 hG_ ⟨rfl⟩ h).mono ?_
  rintro e w' ⟨rfl, hd⟩
  exact ⟨rfl, hd⟩
end Go.Proofs.YtcoaeefmmnohkaaDoor.P
