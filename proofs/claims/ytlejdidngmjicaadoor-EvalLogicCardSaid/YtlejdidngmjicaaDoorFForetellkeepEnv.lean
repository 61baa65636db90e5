-- a walk, laid out by a program of this repo over the seat's translation
import Derived.Test.YtlejdidngmjicaaDoorF0
import Derived.Test.YtlejdidngmjicaaDoorFForetellkeepPicked
import Derived.Test.YtlejdidngmjicaaDoorFGrownNumber
import Derived.WalkSpells
import Derived.StillTailTactics
import Derived.Test.YtlejdidngmjicaaDoorFGrownNumber
namespace Go.Proofs.YtlejdidngmjicaaDoor.P
open Go.RowKit Go.Proofs.YtlejdidngmjicaaDoorW.PrintWords Go.Proofs.YtlejdidngmjicaaDoorW.PrintLast Go.Proofs.YtlejdidngmjicaaDoorW.PrintMore Go.Proofs.YtlejdidngmjicaaDoor.G
attribute [local go_sem] max2_int min2_int max_two min_two max_three min_three max_four min_four   -- for this text's walks alone
set_option linter.unusedVariables false
set_option linter.unusedSimpArgs false

/-! ### foretellkeep_env: function 25 -/
--IMPORT Derived.WalkSpells
--IMPORT Derived.StillTailTactics
--IMPORT FGrownNumber
def foretellkeep_env.f (a0_0 : Int) (a0_1 : Int) (a0_2 : Int) : Option (List Int) := (foretellkeep_picked.f a0_0 9).bind fun x => (foretellkeep_picked.f a0_1 9).bind fun y => (foretellkeep_picked.f a0_2 9).bind fun z => some [x, y, z]
set_option maxHeartbeats 8000000 in
set_option maxRecDepth 100000 in
theorem foretellkeep_env.calls (a0_0 : Int) (a0_1 : Int) (a0_2 : Int) (r : List Int) (w : World) (h : foretellkeep_env.f a0_0 a0_1 a0_2 = some r) :
    Calls Tryd.prog 25 #[.agg #[.int .i64 a0_0, .int .i64 a0_1, .int .i64 a0_2]] w fun e w' => ∃ v0_ : Value, e = .returned (v0_) ∧ Kd.R (Kd.int .i64) 3 w' w.heap.size (fun _ => True) v0_ r ∧ Below w.heap.size w w' := by
  unfold foretellkeep_env.f at h
  obtain ⟨x, h1, h⟩ := Option.bind_eq_some_iff.mp h
  obtain ⟨y, h2, h⟩ := Option.bind_eq_some_iff.mp h
  obtain ⟨z, h3, h⟩ := Option.bind_eq_some_iff.mp h
  obtain rfl := Option.some.inj h
  have H1 := Aside0.mk h1
  have H2 := Aside0.mk h2
  have H3 := Aside0.mk h3
  clear h h1 h2 h3
  go_enter Tryd.func25, Tryd.ntmps25
  go_wp2_with (first | ((with_reducible refine gate_dst (N := 1) rfl ?_); go_must (refine box_event ?hg (N := 1) ?hd (cs := #[.int .i64 a0_0, .int .i64 a0_1, .int .i64 a0_2]) (t := 45) ?hr ?_; (case hd => rfl); (case hg => rfl); (case hr => first | (go_simp; done) | (go_simp; rfl)); intro g1 hg w2 hbox hb; have K1 := Aside0.mk hbox; have HB := Aside0.mk hb; clear hb hbox hg; have h20 : w2.cell? ⟨g1, 0, none⟩ = some (.int .i64 a0_0) := (blk_cell K1.out 0).trans rfl; have h21 : w2.cell? ⟨g1, 1, none⟩ = some (.int .i64 a0_1) := (blk_cell K1.out 1).trans rfl; have h22 : w2.cell? ⟨g1, 2, none⟩ = some (.int .i64 a0_2) := (blk_cell K1.out 2).trans rfl)))
  go_still_tail 9, (by kernel_rfl)
  still_call (picked_same _ _ _ _ H1.out)
  repeat still_step
  still_call (picked_same _ _ _ _ H2.out)
  repeat still_step
  still_call (picked_same _ _ _ _ H3.out)
  (try refine wpStill_nil ?_)
  change wpList _ _ _ _ _ w2.drew
  have HBd := Aside0.mk (HB.out.drew)
  generalize w2.drew = w3 at *
  go_wp2_with (first | ((with_reducible refine gate_dst (N := 12) rfl ?_); refine Kd.R_lit (Kd.int .i64) w.heap.size 3 ?hg (N := 12) ?hd (xs := [x, y, z]) (inner := [.int .i64 x, .int .i64 y, .int .i64 z]) (ok := fun _ => True) (okp := fun _ => True) ?hr ?hp (fun _ hk => hk) trivial HBd.out (below_size HBd.out) (by simp) ?_; (case hd => rfl); (case hg => rfl); (case hr => first | (go_simp; done) | (go_simp; rfl)); (case hp => exact Kd.reps_scalar [x, y, z]); intro v9 w9 ho hb hg_ hnew_; clear hg_ hnew_; have HO := Aside0.mk ho; have HB9 := Aside0.mk hb; clear ho hb))
  go_ret
  exact ⟨_, rfl, HO.out, HB9.out⟩

end Go.Proofs.YtlejdidngmjicaaDoor.P
