-- a walk, laid out by a program of this repo over the seat's translation
import Derived.Test.YtaologjglealoaaF0
import Derived.Test.YtaologjglealoaaFForetellkeepTapeKeeps
namespace Go.Proofs.Ytaologjglealoaa.P
open Go.RowKit Go.Proofs.YtaologjglealoaaW.PrintWords Go.Proofs.YtaologjglealoaaW.PrintLast Go.Proofs.YtaologjglealoaaW.PrintMore Go.Proofs.Ytaologjglealoaa.G
attribute [local go_sem] max2_int min2_int max_two min_two max_three min_three max_four min_four   -- for this text's walks alone
set_option linter.unusedVariables false
set_option linter.unusedSimpArgs false

/-- What is left to prove of the law TapeKeeps: numbers and lists alone. -/
def foretellkeep_TapeKeeps.Pur : Prop := ∀ (l0 : List (List Int)) (l1 : List (List Int)) (a2 : Int) (l3 : List Int), (l0.length ≤ maxLen ∧ ∀ y ∈ l0, (y.length ≤ maxLen ∧ ∀ z0 ∈ y, (Lit.int .i64 z0).wf = true)) → (l1.length ≤ maxLen ∧ ∀ y ∈ l1, (y.length ≤ maxLen ∧ ∀ z0 ∈ y, (Lit.int .i64 z0).wf = true)) → (Lit.int .i64 a2).wf = true → (l3.length ≤ maxLen ∧ ∀ y ∈ l3, (Lit.int .i64 y).wf = true) → ∃ k, foretellkeep_TapeKeeps.f k l0 l1 a2 l3 = some true
theorem foretellkeep_TapeKeeps.wlk (P : foretellkeep_TapeKeeps.Pur) (A0 : Option Addr) (c0 : Nat) (l0 : List (List Int)) (A1 : Option Addr) (c1 : Nat) (l1 : List (List Int)) (a2 : Int) (A3 : Option Addr) (c3 : Nat) (l3 : List Int) (w : World) (hr0 : Kd.C (Kd.slice 3 (Kd.int .i64)) w A0 l0.length l0) (hc0 : l0.length ≤ c0) (hr1 : Kd.C (Kd.slice 3 (Kd.int .i64)) w A1 l1.length l1) (hc1 : l1.length ≤ c1) (hr3 : Kd.C (Kd.int .i64) w A3 l3.length l3) (hc3 : l3.length ≤ c3) (w0 : (l0.length ≤ maxLen ∧ ∀ y ∈ l0, (y.length ≤ maxLen ∧ ∀ z0 ∈ y, (Lit.int .i64 z0).wf = true))) (w1 : (l1.length ≤ maxLen ∧ ∀ y ∈ l1, (y.length ≤ maxLen ∧ ∀ z0 ∈ y, (Lit.int .i64 z0).wf = true))) (w2 : (Lit.int .i64 a2).wf = true) (w3 : (l3.length ≤ maxLen ∧ ∀ y ∈ l3, (Lit.int .i64 y).wf = true)) :
    Calls Try.prog 7 #[.slice A0 l0.length c0, .slice A1 l1.length c1, .int .i64 a2, .slice A3 l3.length c3] w fun e w' => e = .returned (.bool true) ∧ Below w.heap.size w w' := by
  obtain ⟨k, h⟩ := P l0 l1 a2 l3 w0 w1 w2 w3
  refine (foretellkeep_TapeKeeps.calls k _ _ l0 _ _ l1 a2 _ _ l3 true w hr0 hc0 hr1 hc1 hr3 hc3 ⟨rfl⟩ h).mono ?_
  rintro e w' ⟨rfl, hd⟩
  exact ⟨rfl, hd⟩
end Go.Proofs.Ytaologjglealoaa.P
