/- Small lemmas of my own beside the printed words: slices cut with a capacity, rows. Nothing of the program stands here. -/
import Derived.Test.YtaologjglealoaaWMore
import Derived.Test.YtaologjglealoaaWNEv
import Derived.Test.YtaologjglealoaaWShare
namespace Go.Proofs.Ytaologjglealoaa.G
open Go.RowKit Go.Proofs.YtaologjglealoaaW.PrintWords Go.Proofs.YtaologjglealoaaW.PrintLast Go.Proofs.YtaologjglealoaaW.PrintMore
set_option linter.unusedVariables false

theorem snoc_cases {α : Type} (l : List α) : l = [] ∨ ∃ ys y, l = ys ++ [y] := by
  rcases List.eq_nil_or_concat l with h | ⟨ys, y, h⟩
  · exact .inl h
  · exact .inr ⟨ys, y, by rw [h, List.concat_eq_append]⟩
theorem reads_len {α : Type} {R : α → List Value → Prop} {sz n m : Nat} {w : World} {A : Option Addr} {xs : List α} (e : n = m) (h : ReadsRow R sz w A n xs) : ReadsRow R sz w A m xs := by
  subst e
  exact h
/-- A cell that is stored into twice, and then read: by one step less than the walk's own rule wants. -/
@[go_sem] theorem cell?_setCell_twice (w : World) (a : Addr) (u v : Value) (h : (w.cell? a).isSome = true) : ((w.setCell a u).setCell a v).cell? a = some v :=
  World.cell?_setCell_same' _ a v (by rw [World.cell?_setCell_same' w a u h]; rfl)
section
variable {P : Program}
/-- 'x[:j:j]'. -/
theorem cut_cap (t e : TypeId) (kh : IntKind) {i : TypeInfo} (ht : P.underlying t = some (.slice e)) (hi : P.info? e = some i) (A : Option Addr) (n c : Nat) (j : Int) (h0 : 0 ≤ j) (hm : j ≤ n) (hc : n ≤ c) :
    ∀ W : World, (Instr.slice t (.slice A n c) none (some (.int kh j)) (some (.int kh j))).run P W = .ok (.slice A j.toNat j.toNat) W := by
  intro W
  have hel : P.elem t = e := by simp [Program.elem, ht]
  have hu : P.underlying t = some (.slice (P.elem t)) := by rw [hel]; exact ht
  have ha : (A.map fun x => x.add 0) = A := by cases A <;> simp [Addr.add]
  rw [run_slice_hm W t A n c hu kh kh j j h0 (Int.le_refl _) (by omega), hel]
  simp [sizeOf, typeInfo, hi, sliced, Result.andThen, ha]
end
/-- A package-level variable that holds a table of numbers. -/
structure Tab (g : Nat) (xs : List Int) (w : World) : Prop where
  lt : g < w.heap.size
  at_ : ∀ i : Nat, i < xs.length → w.cell? ⟨g, i, none⟩ = some (.int .i64 (xs.getD i 0))
theorem Tab.below {g : Nat} {xs : List Int} {w w' : World} (h : Tab g xs w) (hb : Below w.heap.size w w') : Tab g xs w' :=
  ⟨Nat.lt_of_lt_of_le h.lt hb.size, fun i hi => (hb.cell (p := ⟨g, i, none⟩) h.lt).trans (h.at_ i hi)⟩
theorem Tab.drewN {g : Nat} {xs : List Int} {w : World} (h : Tab g xs w) (m : Nat) : Tab g xs (w.drewN m) := h.below (pw_below_drewN (Below.refl _ _) m)
end Go.Proofs.Ytaologjglealoaa.G
