-- a walk, laid out by a program of this repo over the seat's translation
import Derived.Test.YtcoaeefmmnohkaaDoorF0
import Derived.Test.YtcoaeefmmnohkaaDoorFForetellkeepClaimLine
namespace Go.Proofs.YtcoaeefmmnohkaaDoor.P
open Go.RowKit Go.Proofs.YtcoaeefmmnohkaaDoorW.PrintWords Go.Proofs.YtcoaeefmmnohkaaDoorW.PrintLast Go.Proofs.YtcoaeefmmnohkaaDoorW.PrintMore Go.Proofs.YtcoaeefmmnohkaaDoor.G
attribute [local go_sem] max2_int min2_int max_two min_two max_three min_three max_four min_four   -- for this text's walks alone
set_option linter.unusedVariables false
set_option linter.unusedSimpArgs false

/-- What is left to prove of the law ClaimLine: numbers and lists alone. -/
def foretellkeep_ClaimLine.Pur : Prop := ∀ (l0 : List (S79)) (l1_0 : List Int) (l1_1 : List Int), (l0.length ≤ maxLen ∧ ∀ y ∈ l0, ((Lit.int .i64 y.f0).wf = true ∧ (Lit.int .i64 y.f1).wf = true)) → ((l1_0.length ≤ maxLen ∧ ∀ y ∈ l1_0, (Lit.int .i64 y).wf = true) ∧ (l1_1.length ≤ maxLen ∧ ∀ y ∈ l1_1, (Lit.int .i64 y).wf = true)) → ∃ k, foretellkeep_ClaimLine.f k l0 l1_0 l1_1 = some true
theorem foretellkeep_ClaimLine.wlk (P : foretellkeep_ClaimLine.Pur) (A0 : Option Addr) (c0 : Nat) (l0 : List (S79)) (A1_0 : Option Addr) (c1_0 : Nat) (l1_0 : List Int) (A1_1 : Option Addr) (c1_1 : Nat) (l1_1 : List Int) (w : World) (hr0 : Kd.C k79 w A0 l0.length l0) (hc0 : l0.length ≤ c0) (hr1_0 : Kd.C (Kd.int .i64) w A1_0 l1_0.length l1_0) (hc1_0 : l1_0.length ≤ c1_0) (hr1_1 : Kd.C (Kd.int .i64) w A1_1 l1_1.length l1_1) (hc1_1 : l1_1.length ≤ c1_1) (w0 : (l0.length ≤ maxLen ∧ ∀ y ∈ l0, ((Lit.int .i64 y.f0).wf = true ∧ (Lit.int .i64 y.f1).wf = true))) (w1 : ((l1_0.length ≤ maxLen ∧ ∀ y ∈ l1_0, (Lit.int .i64 y).wf = true) ∧ (l1_1.length ≤ maxLen ∧ ∀ y ∈ l1_1, (Lit.int .i64 y).wf = true))) (hG_ : Glob w) :
    Calls Tryd.prog 15 #[.slice A0 l0.length c0, .agg #[.slice A1_0 l1_0.length c1_0, .slice A1_1 l1_1.length c1_1]] w fun e w' => e = .returned (.bool true) ∧ Below w.heap.size w w' := by
  obtain ⟨k, h⟩ := P l0 l1_0 l1_1 w0 w1
  refine (foretellkeep_ClaimLine.calls k _ _ l0 _ _ l1_0 _ _ l1_1 true w hr0 hc0 hr1_0 hc1_0 hr1_1 hc1_1 hG_ ⟨rfl⟩ h).mono ?_
  rintro e w' ⟨rfl, hd⟩
  exact ⟨rfl, hd⟩
end Go.Proofs.YtcoaeefmmnohkaaDoor.P
