-- a walk, laid out by a program of this repo over the seat's translation
import Derived.Test.YtcoaeefmmnohkaaDoorF0
import Derived.Test.YtcoaeefmmnohkaaDoorFPolishSkip
import Derived.Test.YtcoaeefmmnohkaaDoorFPolishCatch
import Derived.WalkSpells
import Derived.WalkLawsBesides
import Derived.Recover
namespace Go.Proofs.YtcoaeefmmnohkaaDoor.P
open Go.RowKit Go.Proofs.YtcoaeefmmnohkaaDoorW.PrintWords Go.Proofs.YtcoaeefmmnohkaaDoorW.PrintLast Go.Proofs.YtcoaeefmmnohkaaDoorW.PrintMore Go.Proofs.YtcoaeefmmnohkaaDoor.G
attribute [local go_sem] max2_int min2_int max_two min_two max_three min_three max_four min_four   -- for this text's walks alone
set_option linter.unusedVariables false
set_option linter.unusedSimpArgs false

/-! ### polish_Ends: function 32 -/
--IMPORT Derived.WalkSpells
--IMPORT Derived.WalkLawsBesides
--IMPORT Derived.Recover
def polish_Ends.f (k : Nat) (l0 : List (S51)) : Option (List Int × Int) := if 60 < (l0.length : Int) then some ([], 1) else ((polish_skip.f k l0 0 (List.replicate l0.length 0)).bind fun r => if r.1 = 0 then (if r.2.1 = (l0.length : Int) then some (r.2.2, 0) else some ([], 3)) else some ([], r.1))
theorem polish_Ends.mono : ∀ a0 k, LeO (polish_Ends.f k a0) (polish_Ends.f (k + 1) a0) := by
  intro a0 k
  unfold polish_Ends.f
  exact LeO.ite (LeO.refl _) (LeO.bind ((polish_skip.mono_l k).1 _ _ _) (fun _ => LeO.refl _))
set_option maxHeartbeats 8000000 in
set_option maxRecDepth 100000 in
theorem polish_Ends.calls (k : Nat) (A0 : Option Addr) (c0 : Nat) (l0 : List (S51)) (r1 : List Int) (r2 : Int) (w : World) (hr0 : Kd.C k51 w A0 l0.length l0) (hc0 : l0.length ≤ c0) (hG_ : Glob w) (h : polish_Ends.f k l0 = some (r1, r2)) :
    Calls Tryd.prog 32 #[.slice A0 l0.length c0] w fun e w' => ∃ v0_ : Value, e = .returned (.tuple #[v0_, .int .i64 r2]) ∧ Kd.R (Kd.int .i64) 3 w' w.heap.size (fun _ => True) v0_ r1 ∧ Below w.heap.size w w' := by
  have hmf : ∀ (fn : Fn) (first cap : Array Value) (w : World), (Instr.makeFunc fn first cap).run Tryd.prog w = .ok (.func fn first cap) w := fun _ _ _ _ => rfl
  have info3 := (by kernel_rfl : (Tryd.prog.info? 3).map (fun i => (i.zero, i.size, i.bytes)) = some (some (.int .i64 0), 1, 8))
  have R0 := Aside0.mk hr0
  have L0 := Aside0.mk hc0
  have GL := Aside0.mk hG_
  clear hr0 hc0 hG_
  unfold polish_Ends.f at h
  by_cases c1 : 60 < (l0.length : Int)
  · rw [if_pos c1] at h
    have c1' : decide ((l0.length : Int) > 60) = true := decide_eq_true c1
    clear c1
    obtain ⟨rfl, rfl⟩ := Prod.mk.inj (Option.some.inj h)
    clear h
    go_enter_defers Tryd.func32, Tryd.ntmps32
    go_wp2_with (first | ((with_reducible refine gate_dst (N := 2) rfl ?_); go_must (refine box_event ?hg (N := 2) ?hd (cs := #[.slice none 0 0]) (t := 25) ?hr ?_; (case hd => rfl); (case hg => rfl); (case hr => first | (go_simp; done) | (go_simp; rfl)); intro g2 hg w1 hbox hb; have BK2 := Aside0.mk hbox; have HB1 := Aside0.mk hb; have B2 := Aside0.mk (show w.heap.size ≤ g2 by rw [hg]; exact Nat.le_refl _); clear hb hbox hg)) | ((with_reducible refine gate_dst (N := 3) rfl ?_); go_must (refine box_event ?hg (N := 3) ?hd (cs := #[.int .i64 0]) (t := 26) ?hr ?_; (case hd => rfl); (case hg => rfl); (case hr => first | (go_simp; done) | (go_simp; rfl)); intro g3 hg w2 hbox hb; have BK3 := Aside0.mk hbox; have K2 := Aside0.mk (blk_below BK2.out hb); have HB2 := Aside0.mk (below_step HB1.out hb); have B3 := Aside0.mk (show w.heap.size ≤ g3 by rw [hg]; exact below_size HB1.out); clear hb hbox hg; have N23 : g2 ≠ g3 := blk_ne K2.out BK3.out (by decide); have hcz2 : w2.cell? ⟨g2, 0, none⟩ = some (.slice none 0 0) := (blk_cell K2.out 0).trans rfl; have hfz2 := blk_frozen K2.out 0; have hcz3 : w2.cell? ⟨g3, 0, none⟩ = some (.int .i64 0) := (blk_cell BK3.out 0).trans rfl; have hfz3 := blk_frozen BK3.out 0)))
    have k2 := blk_far (p := ⟨g3, 0, none⟩) (blk_put K2.out 0 (.slice none 0 0) rfl) N23 (.int .i64 1)
    have k3 := blk_put (blk_far (p := ⟨g2, 0, none⟩) BK3.out N23.symm (.slice none 0 0)) 0 (.int .i64 1) rfl
    have kb := (HB2.out.setCell (p := ⟨g2, 0, none⟩) B2.out (.slice none 0 0)).setCell (p := ⟨g3, 0, none⟩) B3.out (.int .i64 1)
    generalize (w2.setCell ⟨g2, 0, none⟩ (.slice none 0 0)).setCell ⟨g3, 0, none⟩ (.int .i64 1) = W at *
    have q2 : W.cell? ⟨g2, 0, none⟩ = some (.slice none 0 0) := (blk_cell k2 0).trans rfl
    have q3 : W.cell? ⟨g3, 0, none⟩ = some (.int .i64 1) := (blk_cell k3 0).trans rfl
    refine ⟨.tuple #[.slice none 0 0, .int .i64 1], ?_, _, rfl, Kd.R_nil _ _ _ _ _, kb⟩
    simp [results, Tryd.results32, go_sem, q2, q3]
  · rw [if_neg c1] at h
    have c1' : decide ((l0.length : Int) > 60) = false := decide_eq_false c1
    have LM := Aside0.mk c1
    clear c1
    obtain ⟨r, hA, h⟩ := Option.bind_eq_some_iff.mp h
    have HA := Aside0.mk hA
    clear hA
    by_cases c2 : r.1 = 0
    · rw [if_pos c2] at h
      have C2 := Aside0.mk c2
      clear c2
      by_cases c3 : r.2.1 = (l0.length : Int)
      · rw [if_pos c3] at h
        have C3 := Aside0.mk c3
        obtain ⟨rfl, rfl⟩ := Prod.mk.inj (Option.some.inj h)
        clear h
        have c3' : decide (r.2.1 ≠ (l0.length : Int)) = false := decide_eq_false (by omega)
        go_enter_defers Tryd.func32, Tryd.ntmps32
        go_wp2_with (first | ((with_reducible refine gate_dst (N := 2) rfl ?_); go_must (refine box_event ?hg (N := 2) ?hd (cs := #[.slice none 0 0]) (t := 25) ?hr ?_; (case hd => rfl); (case hg => rfl); (case hr => first | (go_simp; done) | (go_simp; rfl)); intro g2 hg w1 hbox hb; have BK2 := Aside0.mk hbox; have HB1 := Aside0.mk hb; have B2 := Aside0.mk (show w.heap.size ≤ g2 by rw [hg]; exact Nat.le_refl _); clear hb hbox hg)) | ((with_reducible refine gate_dst (N := 3) rfl ?_); go_must (refine box_event ?hg (N := 3) ?hd (cs := #[.int .i64 0]) (t := 26) ?hr ?_; (case hd => rfl); (case hg => rfl); (case hr => first | (go_simp; done) | (go_simp; rfl)); intro g3 hg w2 hbox hb; have BK3 := Aside0.mk hbox; have K2 := Aside0.mk (blk_below BK2.out hb); have HB2 := Aside0.mk (below_step HB1.out hb); have B3 := Aside0.mk (show w.heap.size ≤ g3 by rw [hg]; exact below_size HB1.out); clear hb hbox hg; have N23 : g2 ≠ g3 := blk_ne K2.out BK3.out (by decide); have hcz2 : w2.cell? ⟨g2, 0, none⟩ = some (.slice none 0 0) := (blk_cell K2.out 0).trans rfl; have hfz2 := blk_frozen K2.out 0; have hcz3 : w2.cell? ⟨g3, 0, none⟩ = some (.int .i64 0) := (blk_cell BK3.out 0).trans rfl; have hfz3 := blk_frozen BK3.out 0)) | ((with_reducible refine gate_dst (N := 12) rfl ?_); go_must (refine Kd.R_make (Kd.int .i64) (w0 := w2) w2.heap.size 3 rfl (N := 12) rfl 25 _ _ rfl (l0.length : Int) rfl rfl Tryd.underlying25 (.int .i64 0) 8 info3 rfl (by decide) (by omega) 0 (ok := fun _ => True) (okp := fun _ => True) rfl (fun _ hk => hk) trivial (by omega) (by have := LM.out; omega) (Below.refl _ _) (Nat.le_refl _) ?_; intro ve w3 ho hb hg hnew; obtain ⟨As, cs5, rfl⟩ := Kd.R_slice ho; rw [List.length_replicate, Int.toNat_natCast] at ho; have RE3 := Aside0.mk ho; have HB3 := Aside0.mk hb; clear ho hb hg hnew)) | ((with_reducible refine gate_dst (N := 14) rfl ?_); go_must (refine box_event ?hg (N := 14) ?hd (cs := #[.slice A0 l0.length c0, .slice As l0.length cs5]) (t := 85) ?hr ?_; (case hd => rfl); (case hg => rfl); (case hr => first | (go_simp; done) | (go_simp; rfl)); intro gr hg w4 hbox hb; have HS := Aside0.mk (show polish_skip.St w2 w4 gr A0 l0.length c0 (List.replicate l0.length 0) from ⟨_, hbox, Kd.R_below RE3.out hb, below_step HB3.out hb⟩); have BG := Aside0.mk (show w2.heap.size ≤ gr by rw [hg]; exact below_size HB3.out); clear hb hbox hg)) | (go_at_call 42; go_must (refine (polish_skip.calls w2 A0 c0 l0 gr (Kd.C_below R0.out HB2.out) L0.out (Glob.below GL.out HB2.out) BG.out k 0 (List.replicate l0.length 0) r w4 HS.out HA.out).mono ?_; rintro e w5 ⟨he, hv⟩; rw [if_pos C2.out] at he; subst he; have HS5 := Aside0.mk hv; clear hv; obtain ⟨ve, k5, re5, b5⟩ := HS5.out; have K5 := Aside0.mk k5; have RE5 := Aside0.mk re5; have HB5 := Aside0.mk b5; clear k5 re5 b5; obtain ⟨Ae, ce, rfl⟩ := Kd.R_slice RE5.out; have K52 := Aside0.mk (blk_below K2.out HB5.out); have K53 := Aside0.mk (blk_below BK3.out HB5.out); have hdz2 : w5.cell? ⟨g2, 0, none⟩ = some (.slice none 0 0) := (blk_cell K52.out 0).trans rfl; have hdf2 := blk_frozen K52.out 0; have hdz3 : w5.cell? ⟨g3, 0, none⟩ = some (.int .i64 0) := (blk_cell K53.out 0).trans rfl; have hdf3 := blk_frozen K53.out 0; have hdz4 : w5.cell? ⟨gr, 1, none⟩ = some (.slice Ae r.2.2.length ce) := (blk_cell K5.out 1).trans rfl)))
        have k2 := blk_far (p := ⟨g3, 0, none⟩) (blk_put K52.out 0 (.slice Ae r.2.2.length ce) rfl) N23 (.int .i64 0)
        have k3 := blk_put (blk_far (p := ⟨g2, 0, none⟩) K53.out N23.symm (.slice Ae r.2.2.length ce)) 0 (.int .i64 0) rfl
        have kb := ((below_step HB2.out HB5.out).setCell (p := ⟨g2, 0, none⟩) B2.out (.slice Ae r.2.2.length ce)).setCell (p := ⟨g3, 0, none⟩) B3.out (.int .i64 0)
        have kr := Kd.R_set (Kd.R_set RE5.out K52.out (by decide) 0 (.slice Ae r.2.2.length ce)) (blk_far (p := ⟨g2, 0, none⟩) K53.out N23.symm (.slice Ae r.2.2.length ce)) (by decide) 0 (.int .i64 0)
        generalize (w5.setCell ⟨g2, 0, none⟩ (.slice Ae r.2.2.length ce)).setCell ⟨g3, 0, none⟩ (.int .i64 0) = W at *
        have q2 : W.cell? ⟨g2, 0, none⟩ = some (.slice Ae r.2.2.length ce) := (blk_cell k2 0).trans rfl
        have q3 : W.cell? ⟨g3, 0, none⟩ = some (.int .i64 0) := (blk_cell k3 0).trans rfl
        refine leaves_cons (f := 41) (args := #[.pointer (some ⟨g2, 0, none⟩), .pointer (some ⟨g3, 0, none⟩)]) (by simp) (by simp [go_sem]) ?_
        refine (polish_catch.idle _ _ _).mono ?_
        rintro e u' w' ⟨rfl, rfl, rfl⟩
        refine ⟨.tuple #[.slice Ae r.2.2.length ce, .int .i64 0], ?_, _, rfl, Kd.R_lower kr (below_size HB2.out), kb⟩
        simp [results, Tryd.results32, go_sem, q2, q3]
      · rw [if_neg c3] at h
        obtain ⟨rfl, rfl⟩ := Prod.mk.inj (Option.some.inj h)
        clear h
        go_enter_defers Tryd.func32, Tryd.ntmps32
        go_wp2_with (first | ((with_reducible refine gate_dst (N := 2) rfl ?_); go_must (refine box_event ?hg (N := 2) ?hd (cs := #[.slice none 0 0]) (t := 25) ?hr ?_; (case hd => rfl); (case hg => rfl); (case hr => first | (go_simp; done) | (go_simp; rfl)); intro g2 hg w1 hbox hb; have BK2 := Aside0.mk hbox; have HB1 := Aside0.mk hb; have B2 := Aside0.mk (show w.heap.size ≤ g2 by rw [hg]; exact Nat.le_refl _); clear hb hbox hg)) | ((with_reducible refine gate_dst (N := 3) rfl ?_); go_must (refine box_event ?hg (N := 3) ?hd (cs := #[.int .i64 0]) (t := 26) ?hr ?_; (case hd => rfl); (case hg => rfl); (case hr => first | (go_simp; done) | (go_simp; rfl)); intro g3 hg w2 hbox hb; have BK3 := Aside0.mk hbox; have K2 := Aside0.mk (blk_below BK2.out hb); have HB2 := Aside0.mk (below_step HB1.out hb); have B3 := Aside0.mk (show w.heap.size ≤ g3 by rw [hg]; exact below_size HB1.out); clear hb hbox hg; have N23 : g2 ≠ g3 := blk_ne K2.out BK3.out (by decide); have hcz2 : w2.cell? ⟨g2, 0, none⟩ = some (.slice none 0 0) := (blk_cell K2.out 0).trans rfl; have hfz2 := blk_frozen K2.out 0; have hcz3 : w2.cell? ⟨g3, 0, none⟩ = some (.int .i64 0) := (blk_cell BK3.out 0).trans rfl; have hfz3 := blk_frozen BK3.out 0)) | ((with_reducible refine gate_dst (N := 12) rfl ?_); go_must (refine Kd.R_make (Kd.int .i64) (w0 := w2) w2.heap.size 3 rfl (N := 12) rfl 25 _ _ rfl (l0.length : Int) rfl rfl Tryd.underlying25 (.int .i64 0) 8 info3 rfl (by decide) (by omega) 0 (ok := fun _ => True) (okp := fun _ => True) rfl (fun _ hk => hk) trivial (by omega) (by have := LM.out; omega) (Below.refl _ _) (Nat.le_refl _) ?_; intro ve w3 ho hb hg hnew; obtain ⟨As, cs5, rfl⟩ := Kd.R_slice ho; rw [List.length_replicate, Int.toNat_natCast] at ho; have RE3 := Aside0.mk ho; have HB3 := Aside0.mk hb; clear ho hb hg hnew)) | ((with_reducible refine gate_dst (N := 14) rfl ?_); go_must (refine box_event ?hg (N := 14) ?hd (cs := #[.slice A0 l0.length c0, .slice As l0.length cs5]) (t := 85) ?hr ?_; (case hd => rfl); (case hg => rfl); (case hr => first | (go_simp; done) | (go_simp; rfl)); intro gr hg w4 hbox hb; have HS := Aside0.mk (show polish_skip.St w2 w4 gr A0 l0.length c0 (List.replicate l0.length 0) from ⟨_, hbox, Kd.R_below RE3.out hb, below_step HB3.out hb⟩); have BG := Aside0.mk (show w2.heap.size ≤ gr by rw [hg]; exact below_size HB3.out); clear hb hbox hg)) | (go_at_call 42; go_must (refine (polish_skip.calls w2 A0 c0 l0 gr (Kd.C_below R0.out HB2.out) L0.out (Glob.below GL.out HB2.out) BG.out k 0 (List.replicate l0.length 0) r w4 HS.out HA.out).mono ?_; rintro e w5 ⟨he, hv⟩; rw [if_pos C2.out] at he; subst he; have HS5 := Aside0.mk hv; clear hv; obtain ⟨ve, k5, re5, b5⟩ := HS5.out; have K5 := Aside0.mk k5; have RE5 := Aside0.mk re5; have HB5 := Aside0.mk b5; clear k5 re5 b5; obtain ⟨Ae, ce, rfl⟩ := Kd.R_slice RE5.out; have K52 := Aside0.mk (blk_below K2.out HB5.out); have K53 := Aside0.mk (blk_below BK3.out HB5.out); have hdz2 : w5.cell? ⟨g2, 0, none⟩ = some (.slice none 0 0) := (blk_cell K52.out 0).trans rfl; have hdf2 := blk_frozen K52.out 0; have hdz3 : w5.cell? ⟨g3, 0, none⟩ = some (.int .i64 0) := (blk_cell K53.out 0).trans rfl; have hdf3 := blk_frozen K53.out 0; have hdz4 : w5.cell? ⟨gr, 1, none⟩ = some (.slice Ae r.2.2.length ce) := (blk_cell K5.out 1).trans rfl)))
        refine leaves_cons (f := 41) (args := #[.pointer (some ⟨g2, 0, none⟩), .pointer (some ⟨g3, 0, none⟩)]) (by simp) (by simp [go_sem]) ?_
        refine (polish_catch.panicking g2 g3 _ _ 3 _ K52.out K53.out N23).mono ?_
        rintro e u' w' ⟨rfl, rfl, k2, k3, kb⟩
        have q2 : w'.cell? ⟨g2, 0, none⟩ = some (.slice none 0 0) := (blk_cell k2 0).trans rfl
        have q3 : w'.cell? ⟨g3, 0, none⟩ = some (.int .i64 3) := (blk_cell k3 0).trans rfl
        refine ⟨.tuple #[.slice none 0 0, .int .i64 3], ?_, _, rfl, Kd.R_nil _ _ _ _ _, (below_step HB2.out HB5.out).trans (kb _ B2.out B3.out)⟩
        simp [results, Tryd.results32, go_sem, q2, q3]
    · rw [if_neg c2] at h
      have C2 := Aside0.mk c2
      clear c2
      obtain ⟨rfl, rfl⟩ := Prod.mk.inj (Option.some.inj h)
      clear h
      go_enter_defers Tryd.func32, Tryd.ntmps32
      go_wp2_with (first | ((with_reducible refine gate_dst (N := 2) rfl ?_); go_must (refine box_event ?hg (N := 2) ?hd (cs := #[.slice none 0 0]) (t := 25) ?hr ?_; (case hd => rfl); (case hg => rfl); (case hr => first | (go_simp; done) | (go_simp; rfl)); intro g2 hg w1 hbox hb; have BK2 := Aside0.mk hbox; have HB1 := Aside0.mk hb; have B2 := Aside0.mk (show w.heap.size ≤ g2 by rw [hg]; exact Nat.le_refl _); clear hb hbox hg)) | ((with_reducible refine gate_dst (N := 3) rfl ?_); go_must (refine box_event ?hg (N := 3) ?hd (cs := #[.int .i64 0]) (t := 26) ?hr ?_; (case hd => rfl); (case hg => rfl); (case hr => first | (go_simp; done) | (go_simp; rfl)); intro g3 hg w2 hbox hb; have BK3 := Aside0.mk hbox; have K2 := Aside0.mk (blk_below BK2.out hb); have HB2 := Aside0.mk (below_step HB1.out hb); have B3 := Aside0.mk (show w.heap.size ≤ g3 by rw [hg]; exact below_size HB1.out); clear hb hbox hg; have N23 : g2 ≠ g3 := blk_ne K2.out BK3.out (by decide); have hcz2 : w2.cell? ⟨g2, 0, none⟩ = some (.slice none 0 0) := (blk_cell K2.out 0).trans rfl; have hfz2 := blk_frozen K2.out 0; have hcz3 : w2.cell? ⟨g3, 0, none⟩ = some (.int .i64 0) := (blk_cell BK3.out 0).trans rfl; have hfz3 := blk_frozen BK3.out 0)) | ((with_reducible refine gate_dst (N := 12) rfl ?_); go_must (refine Kd.R_make (Kd.int .i64) (w0 := w2) w2.heap.size 3 rfl (N := 12) rfl 25 _ _ rfl (l0.length : Int) rfl rfl Tryd.underlying25 (.int .i64 0) 8 info3 rfl (by decide) (by omega) 0 (ok := fun _ => True) (okp := fun _ => True) rfl (fun _ hk => hk) trivial (by omega) (by have := LM.out; omega) (Below.refl _ _) (Nat.le_refl _) ?_; intro ve w3 ho hb hg hnew; obtain ⟨As, cs5, rfl⟩ := Kd.R_slice ho; rw [List.length_replicate, Int.toNat_natCast] at ho; have RE3 := Aside0.mk ho; have HB3 := Aside0.mk hb; clear ho hb hg hnew)) | ((with_reducible refine gate_dst (N := 14) rfl ?_); go_must (refine box_event ?hg (N := 14) ?hd (cs := #[.slice A0 l0.length c0, .slice As l0.length cs5]) (t := 85) ?hr ?_; (case hd => rfl); (case hg => rfl); (case hr => first | (go_simp; done) | (go_simp; rfl)); intro gr hg w4 hbox hb; have HS := Aside0.mk (show polish_skip.St w2 w4 gr A0 l0.length c0 (List.replicate l0.length 0) from ⟨_, hbox, Kd.R_below RE3.out hb, below_step HB3.out hb⟩); have BG := Aside0.mk (show w2.heap.size ≤ gr by rw [hg]; exact below_size HB3.out); clear hb hbox hg)) | (go_at_call 42; go_must (refine (polish_skip.calls w2 A0 c0 l0 gr (Kd.C_below R0.out HB2.out) L0.out (Glob.below GL.out HB2.out) BG.out k 0 (List.replicate l0.length 0) r w4 HS.out HA.out).mono ?_; rintro e w5 ⟨he, hv⟩; rw [if_neg C2.out] at he; subst he; have HS5 := Aside0.mk hv; clear hv; obtain ⟨ve, k5, re5, b5⟩ := HS5.out; have K5 := Aside0.mk k5; have RE5 := Aside0.mk re5; have HB5 := Aside0.mk b5; clear k5 re5 b5; obtain ⟨Ae, ce, rfl⟩ := Kd.R_slice RE5.out; have K52 := Aside0.mk (blk_below K2.out HB5.out); have K53 := Aside0.mk (blk_below BK3.out HB5.out); have hdz2 : w5.cell? ⟨g2, 0, none⟩ = some (.slice none 0 0) := (blk_cell K52.out 0).trans rfl; have hdf2 := blk_frozen K52.out 0; have hdz3 : w5.cell? ⟨g3, 0, none⟩ = some (.int .i64 0) := (blk_cell K53.out 0).trans rfl; have hdf3 := blk_frozen K53.out 0; have hdz4 : w5.cell? ⟨gr, 1, none⟩ = some (.slice Ae r.2.2.length ce) := (blk_cell K5.out 1).trans rfl)))
      refine leaves_cons (f := 41) (args := #[.pointer (some ⟨g2, 0, none⟩), .pointer (some ⟨g3, 0, none⟩)]) (by simp) (by simp [go_sem]) ?_
      refine (polish_catch.panicking g2 g3 _ _ r.1 _ K52.out K53.out N23).mono ?_
      rintro e u' w' ⟨rfl, rfl, k2, k3, kb⟩
      have q2 : w'.cell? ⟨g2, 0, none⟩ = some (.slice none 0 0) := (blk_cell k2 0).trans rfl
      have q3 : w'.cell? ⟨g3, 0, none⟩ = some (.int .i64 r.1) := (blk_cell k3 0).trans rfl
      refine ⟨.tuple #[.slice none 0 0, .int .i64 r.1], ?_, _, rfl, Kd.R_nil _ _ _ _ _, (below_step HB2.out HB5.out).trans (kb _ B2.out B3.out)⟩
      simp [results, Tryd.results32, go_sem, q2, q3]

end Go.Proofs.YtcoaeefmmnohkaaDoor.P
