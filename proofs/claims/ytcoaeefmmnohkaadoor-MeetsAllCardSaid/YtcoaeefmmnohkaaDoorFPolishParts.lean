-- a walk, laid out by a program of this repo over the seat's translation
import Derived.Test.YtcoaeefmmnohkaaDoorF0
namespace Go.Proofs.YtcoaeefmmnohkaaDoor.P
open Go.RowKit Go.Proofs.YtcoaeefmmnohkaaDoorW.PrintWords Go.Proofs.YtcoaeefmmnohkaaDoorW.PrintLast Go.Proofs.YtcoaeefmmnohkaaDoorW.PrintMore Go.Proofs.YtcoaeefmmnohkaaDoor.G
attribute [local go_sem] max2_int min2_int max_two min_two max_three min_three max_four min_four   -- for this text's walks alone
set_option linter.unusedVariables false
set_option linter.unusedSimpArgs false

/-! ### polish_Parts: function 46 -/
/-- How many parts each kind has. -/
def polish_Parts.tab : List Int := [-1, 0, 0, 2, 2, 2, 2, 2, 2, 2, 1, 0, 0, 0, 1, 2, 2, 1, 1]
def polish_Parts.f (a0 : Int) : Option (Int × Int) := if a0 < 1 then some (0, 13) else if 18 < a0 then some (0, 13) else some (polish_Parts.tab.getD a0.toNat 0, 0)
set_option maxHeartbeats 8000000 in
set_option maxRecDepth 100000 in
theorem polish_Parts.calls (a0 : Int) (r1 : Int) (r2 : Int) (w : World) (hG_ : Glob w) (h : polish_Parts.f a0 = some (r1, r2)) :
    Calls Tryd.prog 46 #[.int .i64 a0] w fun e w' => e = .returned (.tuple #[.int .i64 r1, .int .i64 r2]) ∧ Drawn0 w w' := by
  unfold polish_Parts.f at h
  by_cases c1 : a0 < 1
  · rw [if_pos c1] at h
    have c1' : decide (a0 < 1) = true := decide_eq_true c1
    obtain ⟨rfl, rfl⟩ := Prod.mk.inj (Option.some.inj h)
    go_enter Tryd.func46, Tryd.ntmps46
    go_wp2
    go_ret2
    exact ⟨rfl, 0, rfl⟩
  · rw [if_neg c1] at h
    have c1' : decide (a0 < 1) = false := decide_eq_false c1
    by_cases c2 : 18 < a0
    · rw [if_pos c2] at h
      have c2' : decide (18 < a0) = true := decide_eq_true c2
      obtain ⟨rfl, rfl⟩ := Prod.mk.inj (Option.some.inj h)
      go_enter Tryd.func46, Tryd.ntmps46
      go_wp2
      go_ret2
      exact ⟨rfl, 0, rfl⟩
    · rw [if_neg c2] at h
      have c2' : decide (18 < a0) = false := decide_eq_false c2
      obtain ⟨rfl, rfl⟩ := Prod.mk.inj (Option.some.inj h)
      have hcell : w.cell? ⟨0, a0.toNat, none⟩ = some (.int .i64 (polish_Parts.tab.getD a0.toNat 0)) := hG_.at_ a0.toNat (by show a0.toNat < 19; omega)
      generalize polish_Parts.tab.getD a0.toNat 0 = t at hcell ⊢
      have b0 : (0 ≤ a0) = True := eq_true (by omega)
      have b1 : (a0 < 19) = True := eq_true (by omega)
      clear c1 c2
      go_enter Tryd.func46, Tryd.ntmps46
      go_wp2
      go_ret2
      exact ⟨rfl, 0, rfl⟩

end Go.Proofs.YtcoaeefmmnohkaaDoor.P
