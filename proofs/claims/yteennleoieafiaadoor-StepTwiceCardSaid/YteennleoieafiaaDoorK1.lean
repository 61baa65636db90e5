-- PACKED by pack.py of this repo: G
import Derived.Test.YteennleoieafiaaDoorK0
section
namespace Go.Proofs.YteennleoieafiaaDoor.G
open Go.RowKit Go.Proofs.YteennleoieafiaaDoorW.PrintWords Go.Proofs.YteennleoieafiaaDoorW.PrintLast Go.Proofs.YteennleoieafiaaDoorW.PrintMore
set_option linter.unusedVariables false
@[go_sem] theorem cell?_setCell_twice (w : World) (a : Addr) (u v : Value) (h : (w.cell? a).isSome = true) : ((w.setCell a u).setCell a v).cell? a = some v :=
  World.cell?_setCell_same' _ a v (by rw [World.cell?_setCell_same' w a u h]; rfl)
structure Tab (g : Nat) (xs : List Int) (w : World) : Prop where
  lt : g < w.heap.size
  at_ : ∀ i : Nat, i < xs.length → w.cell? ⟨g, i, none⟩ = some (.int .i64 (xs.getD i 0))
theorem Tab.below {g : Nat} {xs : List Int} {w w' : World} (h : Tab g xs w) (hb : Below w.heap.size w w') : Tab g xs w' :=
  ⟨Nat.lt_of_lt_of_le h.lt hb.size, fun i hi => (hb.cell (p := ⟨g, i, none⟩) h.lt).trans (h.at_ i hi)⟩
theorem Tab.drewN {g : Nat} {xs : List Int} {w : World} (h : Tab g xs w) (m : Nat) : Tab g xs (w.drewN m) := h.below (pw_below_drewN (Below.refl _ _) m)
end Go.Proofs.YteennleoieafiaaDoor.G
end
