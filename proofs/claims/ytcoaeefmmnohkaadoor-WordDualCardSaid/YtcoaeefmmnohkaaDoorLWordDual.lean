-- a walk, laid out by a program of this repo over the seat's translation
import Derived.Test.YtcoaeefmmnohkaaDoorF0
import Derived.Test.YtcoaeefmmnohkaaDoorFForetellkeepWordDual
namespace Go.Proofs.YtcoaeefmmnohkaaDoor.P
open Go.RowKit Go.Proofs.YtcoaeefmmnohkaaDoorW.PrintWords Go.Proofs.YtcoaeefmmnohkaaDoorW.PrintLast Go.Proofs.YtcoaeefmmnohkaaDoorW.PrintMore Go.Proofs.YtcoaeefmmnohkaaDoor.G
attribute [local go_sem] max2_int min2_int max_two min_two max_three min_three max_four min_four   -- for this text's walks alone
set_option linter.unusedVariables false
set_option linter.unusedSimpArgs false

/-- What is left to prove of the law WordDual: numbers and lists alone. -/
def foretellkeep_WordDual.Pur : Prop := ∀ (l0 : List (S79)) (l1 : List (S79)) (l2_0 : List Int) (l2_1 : List Int), (l0.length ≤ maxLen ∧ ∀ y ∈ l0, ((Lit.int .i64 y.f0).wf = true ∧ (Lit.int .i64 y.f1).wf = true)) → (l1.length ≤ maxLen ∧ ∀ y ∈ l1, ((Lit.int .i64 y.f0).wf = true ∧ (Lit.int .i64 y.f1).wf = true)) → ((l2_0.length ≤ maxLen ∧ ∀ y ∈ l2_0, (Lit.int .i64 y).wf = true) ∧ (l2_1.length ≤ maxLen ∧ ∀ y ∈ l2_1, (Lit.int .i64 y).wf = true)) → ∃ k, foretellkeep_WordDual.f k l0 l1 l2_0 l2_1 = some true
theorem foretellkeep_WordDual.wlk (P : foretellkeep_WordDual.Pur) (A0 : Option Addr) (c0 : Nat) (l0 : List (S79)) (A1 : Option Addr) (c1 : Nat) (l1 : List (S79)) (A2_0 : Option Addr) (c2_0 : Nat) (l2_0 : List Int) (A2_1 : Option Addr) (c2_1 : Nat) (l2_1 : List Int) (w : World) (hr0 : Kd.C k79 w A0 l0.length l0) (hc0 : l0.length ≤ c0) (hr1 : Kd.C k79 w A1 l1.length l1) (hc1 : l1.length ≤ c1) (hr2_0 : Kd.C (Kd.int .i64) w A2_0 l2_0.length l2_0) (hc2_0 : l2_0.length ≤ c2_0) (hr2_1 : Kd.C (Kd.int .i64) w A2_1 l2_1.length l2_1) (hc2_1 : l2_1.length ≤ c2_1) (w0 : (l0.length ≤ maxLen ∧ ∀ y ∈ l0, ((Lit.int .i64 y.f0).wf = true ∧ (Lit.int .i64 y.f1).wf = true))) (w1 : (l1.length ≤ maxLen ∧ ∀ y ∈ l1, ((Lit.int .i64 y.f0).wf = true ∧ (Lit.int .i64 y.f1).wf = true))) (w2 : ((l2_0.length ≤ maxLen ∧ ∀ y ∈ l2_0, (Lit.int .i64 y).wf = true) ∧ (l2_1.length ≤ maxLen ∧ ∀ y ∈ l2_1, (Lit.int .i64 y).wf = true))) (hG_ : Glob w) :
    Calls Tryd.prog 8 #[.slice A0 l0.length c0, .slice A1 l1.length c1, .agg #[.slice A2_0 l2_0.length c2_0, .slice A2_1 l2_1.length c2_1]] w fun e w' => e = .returned (.bool true) ∧ Below w.heap.size w w' := by
  obtain ⟨k, h⟩ := P l0 l1 l2_0 l2_1 w0 w1 w2
  refine (foretellkeep_WordDual.calls k _ _ l0 _ _ l1 _ _ l2_0 _ _ l2_1 true w hr0 hc0 hr1 hc1 hr2_0 hc2_0 hr2_1 hc2_1 hG_ ⟨rfl⟩ h).mono ?_
  rintro e w' ⟨rfl, hd⟩
  exact ⟨rfl, hd⟩
end Go.Proofs.YtcoaeefmmnohkaaDoor.P
