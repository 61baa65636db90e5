-- PACKED by pack.py of this repo: G
import Derived.Test.YtbokbbcoekeoaaaDoorK0
section
namespace Go.Proofs.YtbokbbcoekeoaaaDoor.G
open Go.RowKit Go.Proofs.YtbokbbcoekeoaaaDoorW.PrintWords Go.Proofs.YtbokbbcoekeoaaaDoorW.PrintLast Go.Proofs.YtbokbbcoekeoaaaDoorW.PrintMore
set_option linter.unusedVariables false
@[go_sem] theorem cell?_setCell_twice (w : World) (a : Addr) (u v : Value) (h : (w.cell? a).isSome = true) : ((w.setCell a u).setCell a v).cell? a = some v :=
  World.cell?_setCell_same' _ a v (by rw [World.cell?_setCell_same' w a u h]; rfl)
structure Tab (g : Nat) (xs : List Int) (w : World) : Prop where
  lt : g < w.heap.size
  at_ : ∀ i : Nat, i < xs.length → w.cell? ⟨g, i, none⟩ = some (.int .i64 (xs.getD i 0))
theorem Tab.below {g : Nat} {xs : List Int} {w w' : World} (h : Tab g xs w) (hb : Below w.heap.size w w') : Tab g xs w' :=
  ⟨Nat.lt_of_lt_of_le h.lt hb.size, fun i hi => (hb.cell (p := ⟨g, i, none⟩) h.lt).trans (h.at_ i hi)⟩
theorem Tab.drewN {g : Nat} {xs : List Int} {w : World} (h : Tab g xs w) (m : Nat) : Tab g xs (w.drewN m) := h.below (pw_below_drewN (Below.refl _ _) m)
theorem bQ {P : Prop} (h : P := by repeat (first | (with_reducible first | exact HB.out | apply below_alloc | apply pw_below_drewN | apply below_drew1) | exact HB.out)) : P := h
theorem bQ1 {P : Prop} {A1 : Prop} (a1 : A1) (f : A1 → P := by intro g1_; repeat (first | (with_reducible first | exact HB.out | apply below_alloc | apply pw_below_drewN | apply below_drew1 | refine below_set ?_ g1_) | exact HB.out)) : P := f a1
theorem bQ2 {P : Prop} {A1 : Prop} {A2 : Prop} (a1 : A1) (a2 : A2) (f : A1 → A2 → P := by intro g1_ g2_; repeat (first | (with_reducible first | exact HB.out | apply below_alloc | apply pw_below_drewN | apply below_drew1 | refine below_set ?_ g1_ | refine below_set ?_ g2_) | exact HB.out)) : P := f a1 a2
theorem bQ3 {P : Prop} {A1 : Prop} {A2 : Prop} {A3 : Prop} (a1 : A1) (a2 : A2) (a3 : A3) (f : A1 → A2 → A3 → P := by intro g1_ g2_ g3_; repeat (first | (with_reducible first | exact HB.out | apply below_alloc | apply pw_below_drewN | apply below_drew1 | refine below_set ?_ g1_ | refine below_set ?_ g2_ | refine below_set ?_ g3_) | exact HB.out)) : P := f a1 a2 a3
theorem kQ {P A : Prop} (a : A) (f : A → P := by intro h_; (with_reducible repeat (first | refine blk_drewN ?_ _ | refine blk_drew ?_ | refine blk_alloc ?_ _)); exact h_) : P := f a
theorem cQ {P A : Prop} (a : A) (f : A → P := by intro h_; repeat (first | exact (Kd.C_below h_ HB.out) | (with_reducible refine Kd.C_alloc ?_ _) | (with_reducible refine Kd.C_drewN ?_ _) | (with_reducible refine Kd.C_drew ?_))) : P := f a
theorem rQR {P A : Prop} (a : A) (f : A → P := by intro h_; (with_reducible repeat (first | apply Kd.R_alloc | apply Kd.R_drewN | apply Kd.R_drew)); exact h_) : P := f a
theorem rQV {P A : Prop} (a : A) (f : A → P := by intro h_; (with_reducible repeat (first | apply Kd.V_alloc | apply Kd.V_drewN | apply Kd.V_drew)); exact h_) : P := f a
theorem rQN {P A : Prop} (a : A) (f : A → P := by intro h_; (with_reducible repeat (first | apply Kd.N_alloc | apply Kd.N_drewN | apply Kd.N_drew)); exact h_) : P := f a
theorem rQS {P A : Prop} (a : A) (f : A → P := by intro h_; (with_reducible repeat (first | apply Kd.S_alloc | apply Kd.S_drewN | apply Kd.S_drew)); exact h_) : P := f a
theorem mQ {P : Prop} (h : P := by (try simp only [List.map_toArray, List.map_cons, List.map_nil]); first | done | rfl | (simp only [List.length_drop, List.length_take]; rfl)) : P := h
end Go.Proofs.YtbokbbcoekeoaaaDoor.G
end
