-- a walk, laid out by a program of this repo over the seat's translation
import Derived.Test.YtcoaeefmmnohkaaDoorF0
import Derived.WalkSpells
import Derived.WalkLawsBesides
import Derived.Recover
namespace Go.Proofs.YtcoaeefmmnohkaaDoor.P
open Go.RowKit Go.Proofs.YtcoaeefmmnohkaaDoorW.PrintWords Go.Proofs.YtcoaeefmmnohkaaDoorW.PrintLast Go.Proofs.YtcoaeefmmnohkaaDoorW.PrintMore Go.Proofs.YtcoaeefmmnohkaaDoor.G
attribute [local go_sem] max2_int min2_int max_two min_two max_three min_three max_four min_four   -- for this text's walks alone
set_option linter.unusedVariables false
set_option linter.unusedSimpArgs false

--IMPORT Derived.WalkSpells
--IMPORT Derived.WalkLawsBesides
--IMPORT Derived.Recover
/-! ### polish_catch: function 41 -/
/-- The deferred closure where the frame below it panics with a number: the results are laid. -/
theorem polish_catch.panicking (g2 g3 : Nat) (v2 v3 : Value) (n : Int) (w : World) (h2 : w.heap[g2]? = some (.cells #[v2] 25 (0, 0))) (h3 : w.heap[g3]? = some (.cells #[v3] 26 (0, 0))) (hne : g2 ≠ g3) :
    CallsD Tryd.prog 41 #[.pointer (some ⟨g2, 0, none⟩), .pointer (some ⟨g3, 0, none⟩)] (.panicking [{ v := .iface 26 (.int .i64 n), recovered := false }]) w fun e u' w' =>
      e = .returned (.tuple #[]) ∧ u' = .panicking [{ v := .iface 26 (.int .i64 n), recovered := true }] ∧ w'.heap[g2]? = some (.cells #[.slice none 0 0] 25 (0, 0)) ∧ w'.heap[g3]? = some (.cells #[.int .i64 n] 26 (0, 0)) ∧ ∀ b, b ≤ g2 → b ≤ g3 → Below b w w' := by
  have hc2 : w.cell? ⟨g2, 0, none⟩ = some v2 := (blk_cell h2 0).trans rfl
  have hc3 : w.cell? ⟨g3, 0, none⟩ = some v3 := (blk_cell h3 0).trans rfl
  have hz2 := blk_frozen h2 0
  have hz3 := blk_frozen h3 0
  have hn3 : g3 ≠ g2 := hne.symm
  have B2 := Aside0.mk h2
  have B3 := Aside0.mk h3
  clear h2 h3
  refine callsD_of_wpS Tryd.func41 rfl fun c₀ cs hu => ?_
  apply wpS_seq
  apply wpS_region
  simp [wpOpsS, go_sem, recoverD, hu, Tryd.ntmps41, Exit.thenS]
  apply wpS_seq
  apply wpS_region
  simp [wpOpsS, go_sem, recoverD, hu, Tryd.ntmps41, Exit.thenS]
  refine wpS_cond (t := true) (by simp [Act.eval, Array.replicate]) ?_
  simp only [if_true]
  have hta : ∀ W : World, (Instr.typeAssert (.iface 26 (.int .i64 n)) 20 26 false).run Tryd.prog W = .ok (.int .i64 n) W := fun W => by rfl
  refine wpS_of_wp ?_
  go_region
  all_goals
    have b2 : w.drew.heap[g2]? = some (.cells #[v2] 25 (0, 0)) := B2.out
    have b3 : w.drew.heap[g3]? = some (.cells #[v3] 26 (0, 0)) := B3.out
    refine ⟨rfl, _, rfl, .tuple #[], by simp [results, Tryd.results41], rfl, rfl, ?_, ?_, fun b h2 h3 => ?_⟩
    · first
      | exact blk_far (p := ⟨g3, 0, none⟩) (blk_put b2 0 _ rfl) hne _
      | exact blk_put (blk_far (p := ⟨g3, 0, none⟩) b2 hne _) 0 _ rfl
    · first
      | exact blk_far (p := ⟨g2, 0, none⟩) (blk_put b3 0 _ rfl) hn3 _
      | exact blk_put (blk_far (p := ⟨g2, 0, none⟩) b3 hn3 _) 0 _ rfl
    · have b0 : Below b w w.drew := (Below.refl b w).drew
      first
      | exact (b0.setCell (p := ⟨g2, 0, none⟩) h2 _).setCell (p := ⟨g3, 0, none⟩) h3 _
      | exact (b0.setCell (p := ⟨g3, 0, none⟩) h3 _).setCell (p := ⟨g2, 0, none⟩) h2 _
theorem polish_catch.idle (p q : Addr) (w : World) :
    CallsD Tryd.prog 41 #[.pointer (some p), .pointer (some q)] .returning w fun e u' w' => e = .returned (.tuple #[]) ∧ u' = .returning ∧ w' = w := by
  refine callsD_of_wpS Tryd.func41 rfl fun c₀ cs hu => ?_
  apply wpS_seq
  apply wpS_region
  simp [wpOpsS, go_sem, recoverD, hu, Tryd.ntmps41, Exit.thenS]
  apply wpS_seq
  apply wpS_region
  simp [wpOpsS, go_sem, recoverD, hu, Tryd.ntmps41, Exit.thenS]
  refine wpS_cond (t := false) (by simp [Act.eval, Array.replicate]) ?_
  simp only [Bool.false_eq_true, if_false]
  refine wpS_of_wp (wp_skip ?_)
  cases c₀
  simp_all [bodyPostS, results, Tryd.results41]

end Go.Proofs.YtcoaeefmmnohkaaDoor.P
