-- a walk, laid out by a program of this repo over the seat's translation
import Derived.Test.YtcoaeefmmnohkaaDoorF0
import Derived.Test.YtcoaeefmmnohkaaDoorFGrown
import Derived.Test.YtcoaeefmmnohkaaDoorFForm
import Derived.WalkSpells
namespace Go.Proofs.YtcoaeefmmnohkaaDoor.P
open Go.RowKit Go.Proofs.YtcoaeefmmnohkaaDoorW.PrintWords Go.Proofs.YtcoaeefmmnohkaaDoorW.PrintLast Go.Proofs.YtcoaeefmmnohkaaDoorW.PrintMore Go.Proofs.YtcoaeefmmnohkaaDoor.G
attribute [local go_sem] max2_int min2_int max_two min_two max_three min_three max_four min_four   -- for this text's walks alone
set_option linter.unusedVariables false
set_option linter.unusedSimpArgs false

/-! ### foretellkeep_small: function 26 -/
--IMPORT FGrownTake
--IMPORT FGrownFormula
--IMPORT Derived.WalkSpells
def foretellkeep_small.f (k : Nat) (l0 : List (S79)) : Option ((List (S51))) := (grown_formula.f k l0 3 ⟨0, 1, []⟩ 2).bind fun st => some st.out
theorem foretellkeep_small.mono : ∀ a0 k, LeO (foretellkeep_small.f k a0) (foretellkeep_small.f (k + 1) a0) := by
  intro a0 k
  unfold foretellkeep_small.f
  exact LeO.bind (grown_formula.mono_f k _ _ _ _) (fun _ => LeO.refl _)
set_option maxHeartbeats 8000000 in
set_option maxRecDepth 100000 in
theorem foretellkeep_small.calls (k : Nat) (A0 : Option Addr) (c0 : Nat) (l0 : List (S79)) (r : List (S51)) (w : World) (hr0 : Kd.C k79 w A0 l0.length l0) (hc0 : l0.length ≤ c0) (h : foretellkeep_small.f k l0 = some r) :
    Calls Tryd.prog 26 #[.slice A0 l0.length c0] w fun e w' => ∃ v0_ : Value, e = .returned (v0_) ∧ Kd.R k51 51 w' w.heap.size (fun _ => True) v0_ r ∧ Below w.heap.size w w' := by
  have R0 := Aside0.mk hr0
  clear hr0 hc0
  unfold foretellkeep_small.f at h
  obtain ⟨st, h1, h⟩ := Option.bind_eq_some_iff.mp h
  obtain rfl := Option.some.inj h
  have H1 := Aside0.mk h1
  clear h h1
  go_enter Tryd.func26, Tryd.ntmps26
  go_wp2_with (first | ((with_reducible refine gate_dst (N := 6) rfl ?_); go_must (refine box_event ?hg (N := 6) ?hd (cs := #[.slice A0 l0.length c0, .int .i64 0, .int .i64 0, .int .i64 3, .int .i64 1, .slice none 0 0]) (t := 63) ?hr ?_; (case hd => rfl); (case hg => rfl); (case hr => first | (go_simp; done) | (go_simp; rfl)); intro g hg w1 hbox hb; have HV := Aside0.mk (show GrownAt w w1 g A0 l0.length c0 0 3 ⟨0, 1, []⟩ from ⟨_, hbox, Kd.R_nil _ _ _ _ _, hb⟩); have BG := Aside0.mk (show w.heap.size ≤ g by rw [hg]; exact Nat.le_refl _); clear hb hbox hg)) | (go_at_call 29; go_must (refine (grown_formula.calls w A0 c0 l0 g 0 3 R0.out BG.out k _ _ _ _ HV.out H1.out).mono ?_; rintro e w2 ⟨rfl, hv⟩; obtain ⟨vo, k2, ro, b2⟩ := hv; have K2 := Aside0.mk k2; have RO := Aside0.mk ro; have HB := Aside0.mk b2; clear k2 ro b2; have hcz5 : w2.cell? ⟨g, 5, none⟩ = some vo := (blk_cell K2.out 5).trans rfl)))
  go_ret
  exact ⟨_, rfl, RO.out, HB.out⟩

end Go.Proofs.YtcoaeefmmnohkaaDoor.P
