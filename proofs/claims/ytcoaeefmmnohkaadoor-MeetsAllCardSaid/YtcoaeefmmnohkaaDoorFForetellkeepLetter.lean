-- a walk, laid out by a program of this repo over the seat's translation
import Derived.Test.YtcoaeefmmnohkaaDoorF0
import Derived.Test.YtcoaeefmmnohkaaDoorFForetellkeepPicked
namespace Go.Proofs.YtcoaeefmmnohkaaDoor.P
open Go.RowKit Go.Proofs.YtcoaeefmmnohkaaDoorW.PrintWords Go.Proofs.YtcoaeefmmnohkaaDoorW.PrintLast Go.Proofs.YtcoaeefmmnohkaaDoorW.PrintMore Go.Proofs.YtcoaeefmmnohkaaDoor.G
attribute [local go_sem] max2_int min2_int max_two min_two max_three min_three max_four min_four   -- for this text's walks alone
set_option linter.unusedVariables false
set_option linter.unusedSimpArgs false

/-! ### foretellkeep_letter: function 20 -/
def foretellkeep_letter.f (a0 : Int) : Option (List Bool) := (foretellkeep_picked.f a0 8).bind fun t120 => (some (([((Int.tmod t120 2) == 1), ((Int.tmod (wrap64 (Int.tdiv t120 2)) 2) == 1), ((wrap64 (Int.tdiv t120 4)) == 1)] : List Bool)))
set_option maxHeartbeats 8000000 in
set_option maxRecDepth 100000 in
theorem foretellkeep_letter.calls (a0 : Int) (r : List Bool) (w : World) (h : foretellkeep_letter.f a0 = some r) :
    Calls Tryd.prog 20 #[.int .i64 a0] w fun e w' => ∃ v0_ : Value, e = .returned (v0_) ∧ Kd.R Kd.bool 4 w' w.heap.size (fun _ => True) v0_ r ∧ Below w.heap.size w w' := by
  have HB := Aside0.mk (Below.refl w.heap.size w)
  have H : ((foretellkeep_picked.f a0 8).bind fun t120 => (some (([((Int.tmod t120 2) == 1), ((Int.tmod (wrap64 (Int.tdiv t120 2)) 2) == 1), ((wrap64 (Int.tdiv t120 4)) == 1)] : List Bool)))) = some r := h
  clear h
  replace H := Option.bind_eq_some_iff.mp H
  obtain ⟨t120, A20, H⟩ := H
  replace H : (some (([((Int.tmod t120 2) == 1), ((Int.tmod (wrap64 (Int.tdiv t120 2)) 2) == 1), ((wrap64 (Int.tdiv t120 4)) == 1)] : List Bool))) = some r := H
  have A2 := Aside0.mk A20
  clear A20
  obtain ⟨y121, hy121⟩ : ∃ y_ : List Bool, y_ = (([((Int.tmod t120 2) == 1), ((Int.tmod (wrap64 (Int.tdiv t120 2)) 2) == 1), ((wrap64 (Int.tdiv t120 4)) == 1)] : List Bool)) := ⟨_, rfl⟩
  replace H : (some y121) = some r := by first | (rw [hy121]; with_reducible exact H) | (have H2_ := (Option.bind_some _ _).symm.trans H; rw [hy121]; with_reducible exact H2_) | (have H2_ := (Option.bind_some _ _).symm.trans H; with_reducible exact H2_) | with_reducible exact H | (rw [hy121]; exact H) | exact H
  have Ny121 := Aside0.mk hy121
  clear hy121
  obtain rfl := Option.some.inj H
  go_enter Tryd.func20, Tryd.ntmps20
  go_wp2_with (first | ((with_reducible refine gate_callee (f := 18) rfl ?_); refine goesL_ (some 5) rfl rfl Tryd.func18 (by kernel_rfl) rfl #[.int .i64 a0, .int .i64 8] rfl (by (try simp only [List.map_toArray, List.map_cons, List.map_nil]); first | done | rfl | (simp only [List.length_drop, List.length_take]; rfl)) ?_; (with_reducible refine (foretellkeep_picked.calls a0 8 t120 _ A2.out).mono ?_); rintro e w' ⟨rfl, ⟨nd, rfl⟩⟩; refine ⟨_, rfl, ?_⟩) | ((with_reducible refine gate_dst (N := 16) rfl ?_); refine Kd.R_lit Kd.bool _ 4 ?hg (N := 16) ?hd (xs := ([((Int.tmod t120 2) == 1), ((Int.tmod (wrap64 (Int.tdiv t120 2)) 2) == 1), ((wrap64 (Int.tdiv t120 4)) == 1)] : List Bool)) (inner := [.bool ((Int.tmod t120 2) == 1), .bool ((Int.tmod (wrap64 (Int.tdiv t120 2)) 2) == 1), .bool ((wrap64 (Int.tdiv t120 4)) == 1)]) (ok := fun _ => True) (okp := fun _ => True) ?hr ?hp (fun _ hk => hk) trivial (Below.refl _ _) (Nat.le_refl _) (by simp) ?_; (case hd => rfl); (case hg => rfl); (case hr => first | (go_simp; done) | (go_simp; rfl)); (case hp => exact (Reps.one (show Kd.M Kd.bool _ _ _ ((Int.tmod t120 2) == 1) [.bool ((Int.tmod t120 2) == 1)] from rfl) (Reps.one (show Kd.M Kd.bool _ _ _ ((Int.tmod (wrap64 (Int.tdiv t120 2)) 2) == 1) [.bool ((Int.tmod (wrap64 (Int.tdiv t120 2)) 2) == 1)] from rfl) (Reps.one (show Kd.M Kd.bool _ _ _ ((wrap64 (Int.tdiv t120 4)) == 1) [.bool ((wrap64 (Int.tdiv t120 4)) == 1)] from rfl) (Reps.none _ _))))); intro v122 w3 ho4 hb hg_ hnew_; clear hg_ hnew_; (first | rw [← Ny121.out] at ho4 | (simp only [Int.reduceToNat] at ho4; rw [← Ny121.out] at ho4)); have n0_ := Aside0.mk (Kd.R_lower ho4 (below_size (by repeat (first | (with_reducible first | exact HB.out | apply below_alloc | apply pw_below_drewN | apply below_drew1) | exact HB.out)))); have n1_ := Aside0.mk (below_step (by repeat (first | (with_reducible first | exact HB.out | apply below_alloc | apply pw_below_drewN | apply below_drew1) | exact HB.out)) hb); clear HB; have HO123 := n0_; have HB := n1_; clear n0_ n1_; clear hb ho4))
  go_ret
  exact ⟨_, by first | rfl | (simp [errW_none, errW_some] <;> rfl) | (simp [*, errW_none, errW_some] <;> rfl), by (with_reducible repeat (first | apply Kd.R_alloc | apply Kd.R_drewN | apply Kd.R_drew)); exact HO123.out, by repeat (first | (with_reducible first | exact HB.out | apply below_alloc | apply pw_below_drewN | apply below_drew1) | exact HB.out)⟩

end Go.Proofs.YtcoaeefmmnohkaaDoor.P
