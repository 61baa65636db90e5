-- PACKED by pack.py of this repo: FForetellkeepStocked
import Derived.Test.YtobgkjdchpokgaaK2
import Derived.Test.YtobgkjdchpokgaaK4
import Derived.Test.YtobgkjdchpokgaaK8
import Derived.Test.YtobgkjdchpokgaaK3
section
namespace Go.Proofs.Ytobgkjdchpokgaa.P
open Go.RowKit Go.Proofs.YtobgkjdchpokgaaW.PrintWords Go.Proofs.YtobgkjdchpokgaaW.PrintLast Go.Proofs.YtobgkjdchpokgaaW.PrintMore Go.Proofs.Ytobgkjdchpokgaa.G
attribute [local go_sem] max2_int min2_int max_two min_two max_three min_three max_four min_four   -- for this text's walks alone
set_option linter.unusedVariables false
set_option linter.unusedSimpArgs false

/-! ### foretellkeep_stocked: function 8 -/
mutual
def foretellkeep_stocked.l0 : Nat → List Int → List Int → Int → List Int → List (List Int) → Option (List Int × (List (List Int)) × List Int × Bool)
  | 0, _, _, _, _, _ => none
  | k + 1, x0, x6, x7, x299000, x299001 => if x7 < (x0.length : Int) then (foretellkeep_stocked.j1 k x0 x6 x7 (decide (x7 < 100)) x299000 x299001) else (foretellkeep_stocked.j1 k x0 x6 x7 false x299000 x299001)
def foretellkeep_stocked.j1 : Nat → List Int → List Int → Int → Bool → List Int → List (List Int) → Option (List Int × (List (List Int)) × List Int × Bool)
  | 0, _, _, _, _, _, _ => none
  | k + 1, x0, x6, x7, x19, x299000, x299001 => if x19 = true then (if 0 ≤ x7 then (if x7 < (x0.length : Int) then ((foretellkeep_picked.f (rd x0 x7) 500).bind fun t301 => ((store_Add.f k x299000 x299001 t301).bind fun bt302 => (if bt302.2.2.2 = 0 then ((foretellkeep_has.f k x6 t301).bind fun t311 => (foretellkeep_stocked.j2 k x0 x6 x7 t301 bt302.2.2.1 (bt302.2.2.1 == t311) x299000 x299001 bt302.1 bt302.2.1)) else (foretellkeep_stocked.j2 k x0 x6 x7 t301 bt302.2.2.1 true x299000 x299001 bt302.1 bt302.2.1)))) else (none)) else (none)) else ((store_Check.f k x299000 x299001).bind fun t299 => (some (x299000, x299001, x6, (t299 == 0))))
def foretellkeep_stocked.j2 : Nat → List Int → List Int → Int → Int → Bool → Bool → List Int → List (List Int) → List Int → List (List Int) → Option (List Int × (List (List Int)) × List Int × Bool)
  | 0, _, _, _, _, _, _, _, _, _, _ => none
  | k + 1, x0, x6, x7, x8, x10, x42, x299000, x299001, x311000, x311001 => if x42 = true then (some (x299000, x299001, x6, false)) else (if x10 = true then (if x6.length < 17592186044416 then (foretellkeep_stocked.l0 k x0 (x6 ++ [x8]) (wrap64 (x7 + 1)) x311000 x311001) else (none)) else (foretellkeep_stocked.l0 k x0 x6 (wrap64 (x7 + 1)) x311000 x311001))
end
def foretellkeep_stocked.f (k : Nat) (l0 : List Int) : Option (List Int × (List (List Int)) × List Int × Bool) := foretellkeep_stocked.l0 k l0 ([] : List Int) 0 ([] : List Int) ([] : List (List Int))
theorem foretellkeep_stocked.mono_l : ∀ k, (∀ y0 y1 y2 y3 y4, LeO (foretellkeep_stocked.l0 k y0 y1 y2 y3 y4) (foretellkeep_stocked.l0 (k + 1) y0 y1 y2 y3 y4)) ∧ (∀ y0 y1 y2 y3 y4 y5, LeO (foretellkeep_stocked.j1 k y0 y1 y2 y3 y4 y5) (foretellkeep_stocked.j1 (k + 1) y0 y1 y2 y3 y4 y5)) ∧ (∀ y0 y1 y2 y3 y4 y5 y6 y7 y8 y9, LeO (foretellkeep_stocked.j2 k y0 y1 y2 y3 y4 y5 y6 y7 y8 y9) (foretellkeep_stocked.j2 (k + 1) y0 y1 y2 y3 y4 y5 y6 y7 y8 y9))
  | 0 => ⟨fun _ _ _ _ _ r h => by simp [foretellkeep_stocked.l0] at h, fun _ _ _ _ _ _ r h => by simp [foretellkeep_stocked.j1] at h, fun _ _ _ _ _ _ _ _ _ _ r h => by simp [foretellkeep_stocked.j2] at h⟩
  | k + 1 => by
    obtain ⟨ih0, ih1, ih2⟩ := foretellkeep_stocked.mono_l k
    refine ⟨?_, ?_, ?_⟩
    · intro y0 y1 y2 y3 y4
      unfold foretellkeep_stocked.l0
      repeat' first
      | (with_reducible exact ih0 _ _ _ _ _)
      | (with_reducible exact ih1 _ _ _ _ _ _)
      | (with_reducible exact ih2 _ _ _ _ _ _ _ _ _ _)
      | (with_reducible exact foretellkeep_has.mono _ _ _)
      | (with_reducible exact store_Add.mono _ _ _ _)
      | (with_reducible exact store_Check.mono _ _ _)
      | (with_reducible exact LeO.refl _)
      | (with_reducible exact LeO.none _)
      | (with_reducible refine LeO.ite ?_ ?_)
      | (with_reducible refine LeO.bind ?_ (fun _ => ?_))
      | exact ih0 _ _ _ _ _
      | exact ih1 _ _ _ _ _ _
      | exact ih2 _ _ _ _ _ _ _ _ _ _
      | exact foretellkeep_has.mono _ _ _
      | exact store_Add.mono _ _ _ _
      | exact store_Check.mono _ _ _
      | exact LeO.none _
      | refine LeO.ite ?_ ?_
      | refine LeO.bind ?_ (fun _ => ?_)
    · intro y0 y1 y2 y3 y4 y5
      unfold foretellkeep_stocked.j1
      repeat' first
      | (with_reducible exact ih0 _ _ _ _ _)
      | (with_reducible exact ih1 _ _ _ _ _ _)
      | (with_reducible exact ih2 _ _ _ _ _ _ _ _ _ _)
      | (with_reducible exact foretellkeep_has.mono _ _ _)
      | (with_reducible exact store_Add.mono _ _ _ _)
      | (with_reducible exact store_Check.mono _ _ _)
      | (with_reducible exact LeO.refl _)
      | (with_reducible exact LeO.none _)
      | (with_reducible refine LeO.ite ?_ ?_)
      | (with_reducible refine LeO.bind ?_ (fun _ => ?_))
      | exact ih0 _ _ _ _ _
      | exact ih1 _ _ _ _ _ _
      | exact ih2 _ _ _ _ _ _ _ _ _ _
      | exact foretellkeep_has.mono _ _ _
      | exact store_Add.mono _ _ _ _
      | exact store_Check.mono _ _ _
      | exact LeO.none _
      | refine LeO.ite ?_ ?_
      | refine LeO.bind ?_ (fun _ => ?_)
    · intro y0 y1 y2 y3 y4 y5 y6 y7 y8 y9
      unfold foretellkeep_stocked.j2
      repeat' first
      | (with_reducible exact ih0 _ _ _ _ _)
      | (with_reducible exact ih1 _ _ _ _ _ _)
      | (with_reducible exact ih2 _ _ _ _ _ _ _ _ _ _)
      | (with_reducible exact foretellkeep_has.mono _ _ _)
      | (with_reducible exact store_Add.mono _ _ _ _)
      | (with_reducible exact store_Check.mono _ _ _)
      | (with_reducible exact LeO.refl _)
      | (with_reducible exact LeO.none _)
      | (with_reducible refine LeO.ite ?_ ?_)
      | (with_reducible refine LeO.bind ?_ (fun _ => ?_))
      | exact ih0 _ _ _ _ _
      | exact ih1 _ _ _ _ _ _
      | exact ih2 _ _ _ _ _ _ _ _ _ _
      | exact foretellkeep_has.mono _ _ _
      | exact store_Add.mono _ _ _ _
      | exact store_Check.mono _ _ _
      | exact LeO.none _
      | refine LeO.ite ?_ ?_
      | refine LeO.bind ?_ (fun _ => ?_)
theorem foretellkeep_stocked.mono : ∀ a0 k, LeO (foretellkeep_stocked.f k a0) (foretellkeep_stocked.f (k + 1) a0) := by
  intro a0 k
  obtain ⟨ih0, ih1, ih2⟩ := foretellkeep_stocked.mono_l k
  unfold foretellkeep_stocked.f
  repeat' first
      | (with_reducible exact ih0 _ _ _ _ _)
      | (with_reducible exact ih1 _ _ _ _ _ _)
      | (with_reducible exact ih2 _ _ _ _ _ _ _ _ _ _)
      | (with_reducible exact foretellkeep_has.mono _ _ _)
      | (with_reducible exact store_Add.mono _ _ _ _)
      | (with_reducible exact store_Check.mono _ _ _)
      | (with_reducible exact LeO.refl _)
      | (with_reducible exact LeO.none _)
      | (with_reducible refine LeO.ite ?_ ?_)
      | (with_reducible refine LeO.bind ?_ (fun _ => ?_))
      | exact ih0 _ _ _ _ _
      | exact ih1 _ _ _ _ _ _
      | exact ih2 _ _ _ _ _ _ _ _ _ _
      | exact foretellkeep_has.mono _ _ _
      | exact store_Add.mono _ _ _ _
      | exact store_Check.mono _ _ _
      | exact LeO.none _
      | refine LeO.ite ?_ ?_
      | refine LeO.bind ?_ (fun _ => ?_)
def foretellkeep_stocked.T13 : Bool × List (List Nat × List Nat) := (true, [([], []), ([], []), ([], []), ([2], [2]), ([3], [3]), ([0, 3, 0], [0]), ([1, 5, 0, 1, 5], [1]), ([4, 6, 0, 1, 2, 3, 4, 5, 6], [4])])
def foretellkeep_stocked.B13 : List Nat := [0, 0, 0, 4, 12, 13, 47, 127]
theorem foretellkeep_stocked.tab13 : rtab .any (opsOf Try.f8 13) = foretellkeep_stocked.T13 := by kernel_rfl
theorem foretellkeep_stocked.bits13 : waitsOk foretellkeep_stocked.T13.2 foretellkeep_stocked.B13 = true := by kernel_rfl
set_option maxHeartbeats 8000000 in
set_option maxRecDepth 100000 in
theorem foretellkeep_stocked.calls (k : Nat) (A0 : Option Addr) (c0 : Nat) (l0 : List Int) (r1 : List Int) (r2 : List (List Int)) (r3 : List Int) (r4 : Bool) (w : World) (hr0 : Kd.C (Kd.int .i64) w A0 l0.length l0) (hc0 : l0.length ≤ c0) (h : foretellkeep_stocked.f k l0 = some (r1, r2, r3, r4)) :
    Calls Try.prog 8 #[.slice A0 l0.length c0] w fun e w' => ∃ v0_ v1_ v2_ : Value, e = .returned (.tuple #[.agg #[v0_, v1_], v2_, .bool r4]) ∧ Kd.R (Kd.int .i64) 3 w' w.heap.size (fun k_ => some k_ ≠ (v2_ : Value).ownBlock) v0_ r1 ∧ Kd.S (Kd.slice 3 (Kd.int .i64)) 22 w' w.heap.size (fun k_ => some k_ ≠ (v0_ : Value).ownBlock ∧ some k_ ≠ (v2_ : Value).ownBlock) v1_ r2 ∧ Kd.R (Kd.int .i64) 3 w' w.heap.size (fun k_ => some k_ ≠ (v0_ : Value).ownBlock) v2_ r3 ∧ Below w.heap.size w w' := by
  have hu25 := Try.underlying25
  have HR0 := Aside0.mk hr0
  have HC0 := Aside0.mk hc0
  clear hr0 hc0
  have HB := Aside0.mk (Below.refl w.heap.size w)
  have H : (foretellkeep_stocked.l0 k l0 ([] : List Int) 0 ([] : List Int) ([] : List (List Int))) = some (r1, r2, r3, r4) := h
  clear h
  have H' := Aside0.mk H
  clear H
  go_enter Try.func8, Try.ntmps8
  go_wp2_with (first | ((with_reducible refine gate_dst (N := 2) rfl ?_); refine box_event ?hg (N := 2) ?hd (cs := #[.slice none 0 0, .slice none 0 0]) (t := 25) ?hr ?_; (case hd => rfl); (case hg => rfl); (case hr => first | (go_simp; done) | (go_simp; rfl)); intro gb297 hg w2 hbox hb; have n0_ := Aside0.mk (below_step (by repeat (first | (with_reducible first | exact HB.out | apply below_alloc | apply pw_below_drewN | apply below_drew1) | exact HB.out)) hb); have n1_ := Aside0.mk (hbox); have n2_ := Aside0.mk ((by rw [hg]; exact (below_size (by repeat (first | (with_reducible first | exact HB.out | apply below_alloc | apply pw_below_drewN | apply below_drew1) | exact HB.out))) : w.heap.size ≤ gb297)); have n3_ := Aside0.mk ((by rw [hg]; exact (below_size (by repeat (first | (with_reducible first | exact HB.out | apply below_alloc | apply pw_below_drewN | apply below_drew1) | exact HB.out))) : w.heap.size ≤ gb297)); clear HB; have HB := n0_; have BK297 := n1_; have GW297 := n2_; have GE297 := n3_; clear n0_ n1_ n2_ n3_; clear hb hbox hg) | ((with_reducible refine gate_dst (N := 5) rfl ?_); refine box_event ?hg (N := 5) ?hd (cs := #[.slice none 0 0, .slice none 0 0]) (t := 25) ?hr ?_; (case hd => rfl); (case hg => rfl); (case hr => first | (go_simp; done) | (go_simp; rfl)); intro gb298 hg w3 hbox hb; have n0_ := Aside0.mk (blk_below (g := gb297) (o := .cells #[.slice none 0 0, .slice none 0 0] 25 (0, 0)) (by (with_reducible repeat (first | refine blk_drewN ?_ _ | refine blk_drew ?_ | refine blk_alloc ?_ _)); exact BK297.out) hb); have n1_ := Aside0.mk (below_step (by repeat (first | (with_reducible first | exact HB.out | apply below_alloc | apply pw_below_drewN | apply below_drew1 | refine below_set ?_ GE297.out) | exact HB.out)) hb); have n2_ := Aside0.mk (hbox); have n3_ := Aside0.mk ((by rw [hg]; exact (below_size (by repeat (first | (with_reducible first | exact HB.out | apply below_alloc | apply pw_below_drewN | apply below_drew1 | refine below_set ?_ GE297.out) | exact HB.out))) : w.heap.size ≤ gb298)); have n4_ := Aside0.mk ((by rw [hg]; exact (below_size (by repeat (first | (with_reducible first | exact HB.out | apply below_alloc | apply pw_below_drewN | apply below_drew1 | refine below_set ?_ GE297.out) | exact HB.out))) : w.heap.size ≤ gb298)); have n5_ := Aside0.mk ((by rw [hg]; exact Nat.ne_of_lt (blk_lt (g := gb297) (o := .cells #[.slice none 0 0, .slice none 0 0] 25 (0, 0)) (by (with_reducible repeat (first | refine blk_drewN ?_ _ | refine blk_drew ?_ | refine blk_alloc ?_ _)); exact BK297.out)) : gb297 ≠ gb298)); have n6_ := Aside0.mk ((by rw [hg]; exact Nat.ne_of_gt (blk_lt (g := gb297) (o := .cells #[.slice none 0 0, .slice none 0 0] 25 (0, 0)) (by (with_reducible repeat (first | refine blk_drewN ?_ _ | refine blk_drew ?_ | refine blk_alloc ?_ _)); exact BK297.out)) : gb298 ≠ gb297)); clear BK297; clear HB; have BK297 := n0_; have HB := n1_; have BK298 := n2_; have GW298 := n3_; have GE298 := n4_; have NB297_298 := n5_; have NB298_297 := n6_; clear n0_ n1_ n2_ n3_ n4_ n5_ n6_; clear hb hbox hg))
  go_loopg [6, 7] k (fun kq v6 v7 w' => ∃ (x6_1 : List Int) (x7_1 : Int) (x299000_1 : List Int) (x299001_1 : List (List Int)) (u299000 : Value) (u299001 : Value), v7 = .int .i64 x7_1 ∧ Aside0 (foretellkeep_stocked.l0 kq l0 x6_1 x7_1 x299000_1 x299001_1 = some (r1, r2, r3, r4)) ∧ Aside0 (kq ≤ k) ∧ Aside0 (Kd.R (Kd.int .i64) 3 w' w.heap.size (fun k_ => some k_ ≠ (u299000 : Value).ownBlock) v6 x6_1) ∧ Aside0 (Kd.R (Kd.int .i64) 3 w' w.heap.size (fun k_ => some k_ ≠ (v6 : Value).ownBlock) u299000 x299000_1) ∧ Aside0 (Kd.S (Kd.slice 3 (Kd.int .i64)) 22 w' w.heap.size (fun k_ => some k_ ≠ (v6 : Value).ownBlock ∧ some k_ ≠ (u299000 : Value).ownBlock) u299001 x299001_1) ∧ Aside0 (w'.heap[gb297]? = some (.cells #[(.slice none 0 0), (.slice none 0 0)] 25 (0, 0))) ∧ Aside0 (w'.heap[gb298]? = some (.cells #[u299000, u299001] 25 (0, 0))) ∧ Aside0 (Below w.heap.size w w'))
  case atStart => exact ⟨(([] : List Int)), (0), (([] : List Int)), (([] : List (List Int))), (.slice none 0 0), (.slice none 0 0), (by first | rfl | (simp; done) | (simp [*]; done)), H', ⟨Nat.le_refl _⟩, ⟨by first | exact Kd.R_nil _ _ _ _ _ | exact Kd.N_nil _ _ _ _ _ | exact Kd.V_nil _ _ _ _ _ | exact Kd.Q_nil _ _ _ _ _ | exact Kd.S_nil _ _ _ _ _⟩, ⟨by first | exact Kd.R_nil _ _ _ _ _ | exact Kd.N_nil _ _ _ _ _ | exact Kd.V_nil _ _ _ _ _ | exact Kd.Q_nil _ _ _ _ _ | exact Kd.S_nil _ _ _ _ _⟩, ⟨by first | exact Kd.S_nil _ _ _ _ _ | exact Kd.N_nil _ _ _ _ _ | exact Kd.V_nil _ _ _ _ _ | exact Kd.Q_nil _ _ _ _ _ | exact Kd.R_nil _ _ _ _ _⟩, ⟨by (with_reducible repeat (first | refine blk_drewN ?_ _ | refine blk_drew ?_ | refine blk_alloc ?_ _)); exact BK297.out⟩, ⟨by (with_reducible repeat (first | refine blk_drewN ?_ _ | refine blk_drew ?_ | refine blk_alloc ?_ _)); exact BK298.out⟩, ⟨by repeat (first | (with_reducible first | exact HB.out | apply below_alloc | apply pw_below_drewN | apply below_drew1 | refine below_set ?_ GE297.out | refine below_set ?_ GE298.out) | exact HB.out)⟩⟩
  case round =>
    clear H'
    try clear p2
    obtain ⟨x6_1, x7_1, x299000_1, x299001_1, u299000, u299001, rfl, HA, HK1, HO_6, HO_299000, HO_299001, BK297, BK298, HB⟩ := hrel
    cases gk with
    | zero => exact absurd HA.out (by simp [foretellkeep_stocked.l0])
    | succ k1 =>
      have H := HA.out
      clear HA
      simp only [foretellkeep_stocked.l0] at H
      have HC4 := Aside0.mk H
      clear H
      go_upto_region 4 with (fail)
      go_cut [19] (fun v19 wc => ∃ (kq : Nat) (x19_3 : Bool), v19 = .bool x19_3 ∧ Aside0 (foretellkeep_stocked.j1 kq l0 x6_1 x7_1 x19_3 x299000_1 x299001_1 = some (r1, r2, r3, r4)) ∧ Aside0 (kq ≤ k1) ∧ Aside0 (Kd.R (Kd.int .i64) 3 wc w.heap.size (fun k_ => some k_ ≠ (u299000 : Value).ownBlock) u6 x6_1) ∧ Aside0 (Kd.R (Kd.int .i64) 3 wc w.heap.size (fun k_ => some k_ ≠ (u6 : Value).ownBlock) u299000 x299000_1) ∧ Aside0 (Kd.S (Kd.slice 3 (Kd.int .i64)) 22 wc w.heap.size (fun k_ => some k_ ≠ (u6 : Value).ownBlock ∧ some k_ ≠ (u299000 : Value).ownBlock) u299001 x299001_1) ∧ Aside0 (wc.heap[gb297]? = some (.cells #[(.slice none 0 0), (.slice none 0 0)] 25 (0, 0))) ∧ Aside0 (wc.heap[gb298]? = some (.cells #[u299000, u299001] 25 (0, 0))) ∧ Aside0 (Below w.heap.size w wc))
      case first =>
        have H := HC4.out
        clear HC4
        by_cases c5 : x7_1 < (l0.length : Int)
        · rw [if_pos c5] at H
          have c5b0 : decide (x7_1 < (l0.length : Int)) = true := decide_eq_true c5
          clear c5
          (first | rw [c5b0] | (simp only [i64_w, i32_w]; rw [c5b0]) | skip)
          have H' := Aside0.mk H
          clear H
          go_wp2
          go_meet
          case rel => exact ⟨_, (decide (x7_1 < 100)), (by first | rfl | (simp; done) | (simp [*]; done)), H', ⟨by have := HK1.out; first | omega | exact Nat.le_refl _⟩, ⟨by (with_reducible repeat (first | apply Kd.R_alloc | apply Kd.R_drewN | apply Kd.R_drew)); exact HO_6.out⟩, ⟨by (with_reducible repeat (first | apply Kd.R_alloc | apply Kd.R_drewN | apply Kd.R_drew)); exact HO_299000.out⟩, ⟨by (with_reducible repeat (first | apply Kd.S_alloc | apply Kd.S_drewN | apply Kd.S_drew)); exact HO_299001.out⟩, ⟨by (with_reducible repeat (first | refine blk_drewN ?_ _ | refine blk_drew ?_ | refine blk_alloc ?_ _)); exact BK297.out⟩, ⟨by (with_reducible repeat (first | refine blk_drewN ?_ _ | refine blk_drew ?_ | refine blk_alloc ?_ _)); exact BK298.out⟩, ⟨by repeat (first | (with_reducible first | exact HB.out | apply below_alloc | apply pw_below_drewN | apply below_drew1 | refine below_set ?_ GE297.out | refine below_set ?_ GE298.out) | exact HB.out)⟩⟩
        · rw [if_neg c5] at H
          have c5b0 : decide (x7_1 < (l0.length : Int)) = false := decide_eq_false c5
          clear c5
          (first | rw [c5b0] | (simp only [i64_w, i32_w]; rw [c5b0]) | skip)
          have H' := Aside0.mk H
          clear H
          go_wp2
          go_meet
          case rel => exact ⟨_, (false), (by first | rfl | (simp; done) | (simp [*]; done)), H', ⟨by have := HK1.out; first | omega | exact Nat.le_refl _⟩, ⟨by (with_reducible repeat (first | apply Kd.R_alloc | apply Kd.R_drewN | apply Kd.R_drew)); exact HO_6.out⟩, ⟨by (with_reducible repeat (first | apply Kd.R_alloc | apply Kd.R_drewN | apply Kd.R_drew)); exact HO_299000.out⟩, ⟨by (with_reducible repeat (first | apply Kd.S_alloc | apply Kd.S_drewN | apply Kd.S_drew)); exact HO_299001.out⟩, ⟨by (with_reducible repeat (first | refine blk_drewN ?_ _ | refine blk_drew ?_ | refine blk_alloc ?_ _)); exact BK297.out⟩, ⟨by (with_reducible repeat (first | refine blk_drewN ?_ _ | refine blk_drew ?_ | refine blk_alloc ?_ _)); exact BK298.out⟩, ⟨by repeat (first | (with_reducible first | exact HB.out | apply below_alloc | apply pw_below_drewN | apply below_drew1 | refine below_set ?_ GE297.out | refine below_set ?_ GE298.out) | exact HB.out)⟩⟩
      case rest =>
        clear HC4
        try clear p2
        try clear c5
        try clear c5b0
        try clear p2
        obtain ⟨kq, x19_3, rfl, HA, HJ3, HO_6, HO_299000, HO_299001, BK297, BK298, HB⟩ := hcut
        cases kq with
        | zero => exact absurd HA.out (by simp [foretellkeep_stocked.j1])
        | succ kj3 =>
          have H := HA.out
          clear HA
          simp only [foretellkeep_stocked.j1] at H
          by_cases c6 : x19_3 = true
          · subst c6
            have H1 : (if 0 ≤ x7_1 then (if x7_1 < (l0.length : Int) then ((foretellkeep_picked.f (rd l0 x7_1) 500).bind fun t301 => ((store_Add.f kj3 x299000_1 x299001_1 t301).bind fun bt302 => (if bt302.2.2.2 = 0 then ((foretellkeep_has.f kj3 x6_1 t301).bind fun t311 => (foretellkeep_stocked.j2 kj3 l0 x6_1 x7_1 t301 bt302.2.2.1 (bt302.2.2.1 == t311) x299000_1 x299001_1 bt302.1 bt302.2.1)) else (foretellkeep_stocked.j2 kj3 l0 x6_1 x7_1 t301 bt302.2.2.1 true x299000_1 x299001_1 bt302.1 bt302.2.1)))) else (none)) else (none)) = some (r1, r2, r3, r4) := by rw [if_pos rfl] at H; exact H
            clear H
            have H := H1
            clear H1
            by_cases c7 : 0 ≤ x7_1
            · rw [if_pos c7] at H
              have c7b0 : decide (0 ≤ x7_1) = true := decide_eq_true c7
              clear c7
              by_cases c8 : x7_1 < (l0.length : Int)
              · rw [if_pos c8] at H
                have c8b0 : decide (x7_1 < (l0.length : Int)) = true := decide_eq_true c8
                clear c8
                replace H := Option.bind_eq_some_iff.mp H
                obtain ⟨t301, A90, H⟩ := H
                replace H : ((store_Add.f kj3 x299000_1 x299001_1 t301).bind fun bt302 => (if bt302.2.2.2 = 0 then ((foretellkeep_has.f kj3 x6_1 t301).bind fun t311 => (foretellkeep_stocked.j2 kj3 l0 x6_1 x7_1 t301 bt302.2.2.1 (bt302.2.2.1 == t311) x299000_1 x299001_1 bt302.1 bt302.2.1)) else (foretellkeep_stocked.j2 kj3 l0 x6_1 x7_1 t301 bt302.2.2.1 true x299000_1 x299001_1 bt302.1 bt302.2.1))) = some (r1, r2, r3, r4) := H
                have A9 := Aside0.mk A90
                clear A90
                replace H := Option.bind_eq_some_iff.mp H
                obtain ⟨⟨t302, t305, t308, t309⟩, A100, H⟩ := H
                replace H : (if t309 = 0 then ((foretellkeep_has.f kj3 x6_1 t301).bind fun t311 => (foretellkeep_stocked.j2 kj3 l0 x6_1 x7_1 t301 t308 (t308 == t311) x299000_1 x299001_1 t302 t305)) else (foretellkeep_stocked.j2 kj3 l0 x6_1 x7_1 t301 t308 true x299000_1 x299001_1 t302 t305)) = some (r1, r2, r3, r4) := H
                have A10 := Aside0.mk A100
                clear A100
                have HC11 := Aside0.mk H
                clear H
                have p300 : 0 ≤ (x7_1 : Int) := of_decide_eq_true (by first | (with_reducible assumption) | assumption)
                have q300 : x7_1 < (l0.length : Int) := of_decide_eq_true (by first | (with_reducible assumption) | assumption)
                obtain ⟨ad300, e300, hx300_0⟩ := Kd.at_int HR0.out x7_1 p300 q300
                cases e300
                replace hx300_0 := (HB.out.cell (World.block_lt_of_cell? w _ hx300_0)).trans hx300_0
                replace p300 := eq_true p300
                replace q300 := eq_true q300
                go_upto_region 8 with (first | ((with_reducible refine gate_callee (f := 11) rfl ?_); refine goesL_ (some 26) rfl rfl Try.func11 (by kernel_rfl) rfl #[.int .i64 (rd l0 x7_1), .int .i64 500] rfl (by (try simp only [List.map_toArray, List.map_cons, List.map_nil]); first | done | rfl | (simp only [List.length_drop, List.length_take]; rfl)) ?_; (with_reducible refine (foretellkeep_picked.calls (rd l0 x7_1) 500 t301 _ A9.out).mono ?_); rintro e w' ⟨rfl, ⟨nd, rfl⟩⟩; refine ⟨_, rfl, ?_⟩; (try (rw [drewN_self wc]; generalize hq_ : World.drewN wc _ = wc; have n0_ : Aside0 (Kd.R (Kd.int .i64) 3 wc w.heap.size (fun k_ => some k_ ≠ (u6 : Value).ownBlock) u299000 x299000_1) := ⟨by rw [← hq_]; exact (by (with_reducible repeat (first | apply Kd.R_alloc | apply Kd.R_drewN | apply Kd.R_drew)); exact HO_299000.out)⟩; have n1_ : Aside0 (Kd.S (Kd.slice 3 (Kd.int .i64)) 22 wc w.heap.size (fun k_ => some k_ ≠ (u299000 : Value).ownBlock ∧ some k_ ≠ (u6 : Value).ownBlock) u299001 x299001_1) := ⟨by rw [← hq_]; exact (by (with_reducible repeat (first | apply Kd.S_alloc | apply Kd.S_drewN | apply Kd.S_drew)); exact Kd.S_mono HO_299001.out (fun _ hk => by first | exact ⟨hk.2, hk.1⟩ | (repeat' apply And.intro) <;> first  | exact hk.2 | exact hk.1))⟩; have n2_ : Aside0 (Kd.R (Kd.int .i64) 3 wc w.heap.size (fun k_ => some k_ ≠ (u299000 : Value).ownBlock) u6 x6_1) := ⟨by rw [← hq_]; exact (by (with_reducible repeat (first | apply Kd.R_alloc | apply Kd.R_drewN | apply Kd.R_drew)); exact HO_6.out)⟩; have n3_ : Aside0 (wc.heap[gb297]? = some (.cells #[.slice none 0 0, .slice none 0 0] 25 (0, 0))) := ⟨by rw [← hq_]; exact (by (with_reducible repeat (first | refine blk_drewN ?_ _ | refine blk_drew ?_ | refine blk_alloc ?_ _)); exact BK297.out)⟩; have n4_ : Aside0 (wc.heap[gb298]? = some (.cells #[u299000, u299001] 25 (0, 0))) := ⟨by rw [← hq_]; exact (by (with_reducible repeat (first | refine blk_drewN ?_ _ | refine blk_drew ?_ | refine blk_alloc ?_ _)); exact BK298.out)⟩; have n5_ : Aside0 (Below w.heap.size w wc) := ⟨by rw [← hq_]; exact (by repeat (first | (with_reducible first | exact HB.out | apply below_alloc | apply pw_below_drewN | apply below_drew1 | refine below_set ?_ GE297.out | refine below_set ?_ GE298.out) | exact HB.out))⟩; clear HO_299000 HO_299001 HO_6 BK297 BK298 HB hq_; have HO_299000 := n0_; have HO_299001 := n1_; have HO_6 := n2_; have BK297 := n3_; have BK298 := n4_; have HB := n5_; clear n0_ n1_ n2_ n3_ n4_ n5_)); have hnb12 := NB298_297.out; have hnc12 := NB297_298.out; have hcz13_0 : wc.cell? ⟨gb298, 0, none⟩ = some (u299000) := (blk_cell BK298.out 0).trans rfl; have hcz13_1 : wc.cell? ⟨gb298, 1, none⟩ = some (u299001) := (blk_cell BK298.out 1).trans rfl; have hfz13_0 := blk_frozen BK298.out 0; have hfz13_1 := blk_frozen BK298.out 1; obtain ⟨Ao14, co14, eo14⟩ := Kd.R_slice HO_299000.out; subst eo14; obtain ⟨Ao15, co15, eo15⟩ := Kd.S_slice HO_299001.out; subst eo15) | ((with_reducible refine gate_callee (f := 10) rfl ?_); refine goesL_ (some 30) rfl rfl Try.func10 (by kernel_rfl) rfl #[.agg #[.slice Ao14 x299000_1.length co14, .slice Ao15 x299001_1.length co15], .int .i64 t301] rfl (by (try simp only [List.map_toArray, List.map_cons, List.map_nil]); first | done | rfl | (simp only [List.length_drop, List.length_take]; rfl)) ?_; (with_reducible refine (store_Add.calls kj3 _ _ x299000_1 _ _ x299001_1 t301 t302 t305 t308 t309 _ ?side1 ?side2 ?side3 ?side4 A10.out).mono ?_); (case side1 => repeat (first | exact (Kd.R_reads' HO_299000.out).2.2 | (with_reducible refine Kd.C_alloc ?_ _) | (with_reducible refine Kd.C_drewN ?_ _) | (with_reducible refine Kd.C_drew ?_))); (case side2 => exact (Kd.R_reads' HO_299000.out).2.1); (case side3 => repeat (first | exact (Kd.S_reads' HO_299001.out).2.2 | (with_reducible refine Kd.C_alloc ?_ _) | (with_reducible refine Kd.C_drewN ?_ _) | (with_reducible refine Kd.C_drew ?_))); (case side4 => exact (Kd.S_reads' HO_299001.out).2.1); rintro e w16 ⟨v303, v306, rfl, ho0, ho1, hb⟩; refine ⟨_, rfl, ?_⟩; have n0_ := Aside0.mk (Kd.R_elder' (by (with_reducible repeat (first | apply Kd.R_alloc | apply Kd.R_drewN | apply Kd.R_drew)); exact HO_6.out) (Kd.R_base ho0) hb); have n1_ := Aside0.mk (Kd.R_elder' (by (with_reducible repeat (first | apply Kd.R_alloc | apply Kd.R_drewN | apply Kd.R_drew)); exact HO_299000.out) (Kd.R_base ho0) hb); have n2_ := Aside0.mk (Kd.S_mono (Kd.S_told (Kd.S_told (Kd.S_old (by (with_reducible repeat (first | apply Kd.S_alloc | apply Kd.S_drewN | apply Kd.S_drew)); exact HO_299001.out) hb) (Kd.R_base ho0)) (Kd.S_base ho1)) (fun _ h_ => h_.1)); have n3_ := Aside0.mk (Kd.R_lower (Kd.R_new' (Kd.R_new' ho0 (Kd.R_lt (by (with_reducible repeat (first | apply Kd.R_alloc | apply Kd.R_drewN | apply Kd.R_drew)); exact HO_6.out))) (Kd.R_lt (by (with_reducible repeat (first | apply Kd.R_alloc | apply Kd.R_drewN | apply Kd.R_drew)); exact HO_299000.out))) (below_size (by repeat (first | (with_reducible first | exact HB.out | apply below_alloc | apply pw_below_drewN | apply below_drew1 | refine below_set ?_ GE297.out | refine below_set ?_ GE298.out) | exact HB.out)))); have n4_ := Aside0.mk (Kd.S_lower (Kd.S_new' (Kd.S_new' (Kd.S_new' ho1 (Kd.R_lt (by (with_reducible repeat (first | apply Kd.R_alloc | apply Kd.R_drewN | apply Kd.R_drew)); exact HO_6.out))) (Kd.R_lt (by (with_reducible repeat (first | apply Kd.R_alloc | apply Kd.R_drewN | apply Kd.R_drew)); exact HO_299000.out))) (Kd.S_lt (by (with_reducible repeat (first | apply Kd.S_alloc | apply Kd.S_drewN | apply Kd.S_drew)); exact HO_299001.out))) (below_size (by repeat (first | (with_reducible first | exact HB.out | apply below_alloc | apply pw_below_drewN | apply below_drew1 | refine below_set ?_ GE297.out | refine below_set ?_ GE298.out) | exact HB.out)))); have n5_ := Aside0.mk (blk_below (g := gb297) (o := .cells #[.slice none 0 0, .slice none 0 0] 25 (0, 0)) (by (with_reducible repeat (first | refine blk_drewN ?_ _ | refine blk_drew ?_ | refine blk_alloc ?_ _)); exact BK297.out) hb); have n6_ := Aside0.mk (blk_below (g := gb298) (o := .cells #[.slice Ao14 x299000_1.length co14, .slice Ao15 x299001_1.length co15] 25 (0, 0)) (by (with_reducible repeat (first | refine blk_drewN ?_ _ | refine blk_drew ?_ | refine blk_alloc ?_ _)); exact BK298.out) hb); have n7_ := Aside0.mk (below_step (by repeat (first | (with_reducible first | exact HB.out | apply below_alloc | apply pw_below_drewN | apply below_drew1 | refine below_set ?_ GE297.out | refine below_set ?_ GE298.out) | exact HB.out)) hb); clear HO_6; clear HO_299000; clear HO_299001; clear BK297; clear BK298; clear HB; have HO_6 := n0_; have HO_299000 := n1_; have HO_299001 := n2_; have HO304 := n3_; have HO307 := n4_; have BK297 := n5_; have BK298 := n6_; have HB := n7_; clear n0_ n1_ n2_ n3_ n4_ n5_ n6_ n7_; (try clear hb); (try clear hb2); (try clear hk); (try clear hi); (try clear ho0); (try clear ho1)) | ((with_reducible refine gate_dst (N := 9) rfl ?_); refine box_event ?hg (N := 9) ?hd (cs := #[.slice none 0 0, .slice none 0 0]) (t := 25) ?hr ?_; (case hd => rfl); (case hg => rfl); (case hr => first | (go_simp; done) | (go_simp; rfl)); intro gb310 hg w17 hbox hb; have n0_ := Aside0.mk (Kd.R_below (by (with_reducible repeat (first | apply Kd.R_alloc | apply Kd.R_drewN | apply Kd.R_drew)); exact HO_6.out) hb); have n1_ := Aside0.mk (Kd.R_below (by (with_reducible repeat (first | apply Kd.R_alloc | apply Kd.R_drewN | apply Kd.R_drew)); exact HO_299000.out) hb); have n2_ := Aside0.mk (Kd.S_below (by (with_reducible repeat (first | apply Kd.S_alloc | apply Kd.S_drewN | apply Kd.S_drew)); exact HO_299001.out) hb); have n3_ := Aside0.mk (Kd.R_below (by (with_reducible repeat (first | apply Kd.R_alloc | apply Kd.R_drewN | apply Kd.R_drew)); exact HO304.out) hb); have n4_ := Aside0.mk (Kd.S_below (by (with_reducible repeat (first | apply Kd.S_alloc | apply Kd.S_drewN | apply Kd.S_drew)); exact HO307.out) hb); have n5_ := Aside0.mk (blk_below (g := gb297) (o := .cells #[.slice none 0 0, .slice none 0 0] 25 (0, 0)) (by (with_reducible repeat (first | refine blk_drewN ?_ _ | refine blk_drew ?_ | refine blk_alloc ?_ _)); exact BK297.out) hb); have n6_ := Aside0.mk (blk_below (g := gb298) (o := .cells #[.slice Ao14 x299000_1.length co14, .slice Ao15 x299001_1.length co15] 25 (0, 0)) (by (with_reducible repeat (first | refine blk_drewN ?_ _ | refine blk_drew ?_ | refine blk_alloc ?_ _)); exact BK298.out) hb); have n7_ := Aside0.mk (below_step (by repeat (first | (with_reducible first | exact HB.out | apply below_alloc | apply pw_below_drewN | apply below_drew1 | refine below_set ?_ GE297.out | refine below_set ?_ GE298.out) | exact HB.out)) hb); have n8_ := Aside0.mk (hbox); have n9_ := Aside0.mk ((by rw [hg]; exact (below_size (by repeat (first | (with_reducible first | exact HB.out | apply below_alloc | apply pw_below_drewN | apply below_drew1 | refine below_set ?_ GE297.out | refine below_set ?_ GE298.out) | exact HB.out))) : w.heap.size ≤ gb310)); have n10_ := Aside0.mk ((by rw [hg]; exact (below_size (by repeat (first | (with_reducible first | exact HB.out | apply below_alloc | apply pw_below_drewN | apply below_drew1 | refine below_set ?_ GE297.out | refine below_set ?_ GE298.out) | exact HB.out))) : w.heap.size ≤ gb310)); have n11_ := Aside0.mk ((by rw [hg]; exact Nat.ne_of_lt (blk_lt (g := gb297) (o := .cells #[.slice none 0 0, .slice none 0 0] 25 (0, 0)) (by (with_reducible repeat (first | refine blk_drewN ?_ _ | refine blk_drew ?_ | refine blk_alloc ?_ _)); exact BK297.out)) : gb297 ≠ gb310)); have n12_ := Aside0.mk ((by rw [hg]; exact Nat.ne_of_gt (blk_lt (g := gb297) (o := .cells #[.slice none 0 0, .slice none 0 0] 25 (0, 0)) (by (with_reducible repeat (first | refine blk_drewN ?_ _ | refine blk_drew ?_ | refine blk_alloc ?_ _)); exact BK297.out)) : gb310 ≠ gb297)); have n13_ := Aside0.mk ((by rw [hg]; exact Nat.ne_of_lt (blk_lt (g := gb298) (o := .cells #[.slice Ao14 x299000_1.length co14, .slice Ao15 x299001_1.length co15] 25 (0, 0)) (by (with_reducible repeat (first | refine blk_drewN ?_ _ | refine blk_drew ?_ | refine blk_alloc ?_ _)); exact BK298.out)) : gb298 ≠ gb310)); have n14_ := Aside0.mk ((by rw [hg]; exact Nat.ne_of_gt (blk_lt (g := gb298) (o := .cells #[.slice Ao14 x299000_1.length co14, .slice Ao15 x299001_1.length co15] 25 (0, 0)) (by (with_reducible repeat (first | refine blk_drewN ?_ _ | refine blk_drew ?_ | refine blk_alloc ?_ _)); exact BK298.out)) : gb310 ≠ gb298)); clear HO_6; clear HO_299000; clear HO_299001; clear HO304; clear HO307; clear BK297; clear BK298; clear HB; have HO_6 := n0_; have HO_299000 := n1_; have HO_299001 := n2_; have HO304 := n3_; have HO307 := n4_; have BK297 := n5_; have BK298 := n6_; have HB := n7_; have BK310 := n8_; have GW310 := n9_; have GE310 := n10_; have NB297_310 := n11_; have NB310_297 := n12_; have NB298_310 := n13_; have NB310_298 := n14_; clear n0_ n1_ n2_ n3_ n4_ n5_ n6_ n7_ n8_ n9_ n10_ n11_ n12_ n13_ n14_; clear hb hbox hg; obtain ⟨Ao18, co18, eo18⟩ := Kd.R_slice HO304.out; subst eo18; have hnb19 := NB310_297.out; have hnc19 := NB297_310.out; have hnb20 := NB310_298.out; have hnc20 := NB298_310.out; have hcz21_0 : w17.cell? ⟨gb310, 0, none⟩ = some (.slice none 0 0) := (blk_cell BK310.out 0).trans rfl; have hcz21_1 : w17.cell? ⟨gb310, 1, none⟩ = some (.slice none 0 0) := (blk_cell BK310.out 1).trans rfl; have hfz21_0 := blk_frozen BK310.out 0; have hfz21_1 := blk_frozen BK310.out 1; obtain ⟨Ao22, co22, eo22⟩ := Kd.S_slice HO307.out; subst eo22))
                (try simp only [Act.put, List.setIfInBounds_toArray, List.set_cons_zero, List.set_cons_succ])
                go_cut [42] (fun v42 wc => ∃ (kq : Nat) (x42_10 : Bool), v42 = .bool x42_10 ∧ Aside0 (foretellkeep_stocked.j2 kq l0 x6_1 x7_1 t301 t308 x42_10 x299000_1 x299001_1 t302 t305 = some (r1, r2, r3, r4)) ∧ Aside0 (kq ≤ kj3) ∧ Aside0 (Kd.R (Kd.int .i64) 3 wc w.heap.size (fun k_ => some k_ ≠ ((.slice Ao14 x299000_1.length co14) : Value).ownBlock ∧ some k_ ≠ ((.slice Ao18 t302.length co18) : Value).ownBlock) u6 x6_1) ∧ Aside0 (Kd.R (Kd.int .i64) 3 wc w.heap.size (fun k_ => some k_ ≠ (u6 : Value).ownBlock ∧ some k_ ≠ ((.slice Ao18 t302.length co18) : Value).ownBlock) (.slice Ao14 x299000_1.length co14) x299000_1) ∧ Aside0 (Kd.S (Kd.slice 3 (Kd.int .i64)) 22 wc w.heap.size (fun k_ => some k_ ≠ (u6 : Value).ownBlock ∧ some k_ ≠ ((.slice Ao14 x299000_1.length co14) : Value).ownBlock ∧ some k_ ≠ ((.slice Ao18 t302.length co18) : Value).ownBlock ∧ some k_ ≠ ((.slice Ao22 t305.length co22) : Value).ownBlock) (.slice Ao15 x299001_1.length co15) x299001_1) ∧ Aside0 (Kd.R (Kd.int .i64) 3 wc w.heap.size (fun k_ => some k_ ≠ (u6 : Value).ownBlock ∧ some k_ ≠ ((.slice Ao14 x299000_1.length co14) : Value).ownBlock) (.slice Ao18 t302.length co18) t302) ∧ Aside0 (Kd.S (Kd.slice 3 (Kd.int .i64)) 22 wc w.heap.size (fun k_ => some k_ ≠ (u6 : Value).ownBlock ∧ some k_ ≠ ((.slice Ao14 x299000_1.length co14) : Value).ownBlock ∧ some k_ ≠ ((.slice Ao15 x299001_1.length co15) : Value).ownBlock ∧ some k_ ≠ ((.slice Ao18 t302.length co18) : Value).ownBlock) (.slice Ao22 t305.length co22) t305) ∧ Aside0 (wc.heap[gb297]? = some (.cells #[(.slice none 0 0), (.slice none 0 0)] 25 (0, 0))) ∧ Aside0 (wc.heap[gb298]? = some (.cells #[(.slice Ao14 x299000_1.length co14), (.slice Ao15 x299001_1.length co15)] 25 (0, 0))) ∧ Aside0 (wc.heap[gb310]? = some (.cells #[(.slice Ao18 t302.length co18), (.slice Ao22 t305.length co22)] 25 (0, 0))) ∧ Aside0 (Below w.heap.size w wc))
                case first =>
                  have H := HC11.out
                  clear HC11
                  by_cases c23 : t309 = 0
                  · rw [if_pos c23] at H
                    have c23b0 : (t309 == 0) = true := beq_iff_eq.mpr c23
                    have c23b1 : (t309 != 0) = false := bne_eq_false_iff_eq.mpr c23
                    clear c23
                    (first | rw [c23b0] | (simp only [i64_w, i32_w]; rw [c23b0]) | skip)
                    replace H := Option.bind_eq_some_iff.mp H
                    obtain ⟨t311, A240, H⟩ := H
                    replace H : (foretellkeep_stocked.j2 kj3 l0 x6_1 x7_1 t301 t308 (t308 == t311) x299000_1 x299001_1 t302 t305) = some (r1, r2, r3, r4) := H
                    have A24 := Aside0.mk A240
                    clear A240
                    have H' := Aside0.mk H
                    clear H
                    obtain ⟨Ao25, co25, eo25⟩ := Kd.R_slice HO_6.out
                    subst eo25
                    go_wp2_with (first | (go_at_call 15; (with_reducible refine (foretellkeep_has.calls kj3 _ _ x6_1 t301 t311 _ ?side1 ?side2 A24.out).mono ?_); (case side1 => refine (Kd.R_reads' (e := 3) (base := w.heap.size) (ok := fun k_ => (some k_ ≠ (.slice Ao14 x299000_1.length co14 : Value).ownBlock ∧ some k_ ≠ (.slice Ao18 t302.length co18 : Value).ownBlock)) (n := x6_1.length) (c := co25) ?_).2.2; exact (by (with_reducible repeat (first | apply Kd.R_alloc | apply Kd.R_drewN | apply Kd.R_drew)); exact (Kd.R_mono (Kd.R_far (p := ⟨gb310, 1, none⟩) (Kd.R_far (p := ⟨gb310, 0, none⟩) (Kd.R_types HO_6.out BK310.out (by decide)) (fun _ hk => hk.2) (.slice Ao18 t302.length co18)) (fun _ hk => hk.2) (.slice Ao22 t305.length co22)) (fun _ h_ => h_.1)))); (case side2 => exact (Kd.R_reads' HO_6.out).2.1); rintro e w' ⟨rfl, ⟨nd, rfl⟩⟩))
                    go_meet
                    case rel => exact ⟨_, ((t308 == t311)), (by first | rfl | (simp; done) | (simp [*]; done)), H', ⟨by have := HK1.out; have := HJ3.out; first | omega | exact Nat.le_refl _⟩, ⟨by (with_reducible repeat (first | apply Kd.R_alloc | apply Kd.R_drewN | apply Kd.R_drew)); exact Kd.R_mono (Kd.R_far (p := ⟨gb310, 1, none⟩) (Kd.R_far (p := ⟨gb310, 0, none⟩) (Kd.R_types HO_6.out BK310.out (by decide)) (fun _ hk => hk.2) (.slice Ao18 t302.length co18)) (fun _ hk => hk.2) (.slice Ao22 t305.length co22)) (fun _ hk => by first | exact ⟨hk.1.1, hk.1.2⟩ | (repeat' apply And.intro) <;> first  | exact hk.1.1 | exact hk.1.2)⟩, ⟨by (with_reducible repeat (first | apply Kd.R_alloc | apply Kd.R_drewN | apply Kd.R_drew)); exact Kd.R_mono (Kd.R_far (p := ⟨gb310, 1, none⟩) (Kd.R_far (p := ⟨gb310, 0, none⟩) (Kd.R_types HO_299000.out BK310.out (by decide)) (fun _ hk => hk.2) (.slice Ao18 t302.length co18)) (fun _ hk => hk.2) (.slice Ao22 t305.length co22)) (fun _ hk => by first | exact ⟨hk.1.1, hk.1.2⟩ | (repeat' apply And.intro) <;> first  | exact hk.1.1 | exact hk.1.2)⟩, ⟨by (with_reducible repeat (first | apply Kd.S_alloc | apply Kd.S_drewN | apply Kd.S_drew)); exact Kd.S_mono (Kd.S_far (p := ⟨gb310, 1, none⟩) (Kd.S_far (p := ⟨gb310, 0, none⟩) (Kd.S_types HO_299001.out BK310.out (by decide)) (fun _ hk => hk.2) (.slice Ao18 t302.length co18)) (fun _ hk => hk.2) (.slice Ao22 t305.length co22)) (fun _ hk => by first | exact ⟨hk.1.1.1.1, ⟨hk.1.1.1.2, ⟨hk.1.1.2, hk.1.2⟩⟩⟩ | (repeat' apply And.intro) <;> first  | exact hk.1.1.1.1 | exact hk.1.1.1.2 | exact hk.1.1.2 | exact hk.1.2)⟩, ⟨by (with_reducible repeat (first | apply Kd.R_alloc | apply Kd.R_drewN | apply Kd.R_drew)); exact Kd.R_mono (Kd.R_far (p := ⟨gb310, 1, none⟩) (Kd.R_far (p := ⟨gb310, 0, none⟩) (Kd.R_types HO304.out BK310.out (by decide)) (fun _ hk => hk.2) (.slice Ao18 t302.length co18)) (fun _ hk => hk.2) (.slice Ao22 t305.length co22)) (fun _ hk => by first | exact ⟨hk.1.1.2, hk.1.2⟩ | (repeat' apply And.intro) <;> first  | exact hk.1.1.2 | exact hk.1.2)⟩, ⟨by (with_reducible repeat (first | apply Kd.S_alloc | apply Kd.S_drewN | apply Kd.S_drew)); exact Kd.S_mono (Kd.S_far (p := ⟨gb310, 1, none⟩) (Kd.S_far (p := ⟨gb310, 0, none⟩) (Kd.S_types HO307.out BK310.out (by decide)) (fun _ hk => hk.2) (.slice Ao18 t302.length co18)) (fun _ hk => hk.2) (.slice Ao22 t305.length co22)) (fun _ hk => by first | exact ⟨hk.1.1.1.2, ⟨hk.1.1.2, ⟨hk.1.2, hk.1.1.1.1⟩⟩⟩ | (repeat' apply And.intro) <;> first  | exact hk.1.1.1.2 | exact hk.1.1.2 | exact hk.1.2 | exact hk.1.1.1.1)⟩, ⟨by (with_reducible repeat (first | refine blk_drewN ?_ _ | refine blk_drew ?_ | refine blk_alloc ?_ _)); refine blk_far ?_ NB297_310.out _; (with_reducible repeat (first | refine blk_drewN ?_ _ | refine blk_drew ?_ | refine blk_alloc ?_ _)); refine blk_far ?_ NB297_310.out _; (with_reducible repeat (first | refine blk_drewN ?_ _ | refine blk_drew ?_ | refine blk_alloc ?_ _)); exact BK297.out⟩, ⟨by (with_reducible repeat (first | refine blk_drewN ?_ _ | refine blk_drew ?_ | refine blk_alloc ?_ _)); refine blk_far ?_ NB298_310.out _; (with_reducible repeat (first | refine blk_drewN ?_ _ | refine blk_drew ?_ | refine blk_alloc ?_ _)); refine blk_far ?_ NB298_310.out _; (with_reducible repeat (first | refine blk_drewN ?_ _ | refine blk_drew ?_ | refine blk_alloc ?_ _)); exact BK298.out⟩, ⟨by (with_reducible repeat (first | refine blk_drewN ?_ _ | refine blk_drew ?_ | refine blk_alloc ?_ _)); refine blk_put (cs := #[.slice Ao18 t302.length co18, .slice none 0 0]) ?_ 1 _ rfl; (with_reducible repeat (first | refine blk_drewN ?_ _ | refine blk_drew ?_ | refine blk_alloc ?_ _)); refine blk_put (cs := #[.slice none 0 0, .slice none 0 0]) ?_ 0 _ rfl; (with_reducible repeat (first | refine blk_drewN ?_ _ | refine blk_drew ?_ | refine blk_alloc ?_ _)); exact BK310.out⟩, ⟨by repeat (first | (with_reducible first | exact HB.out | apply below_alloc | apply pw_below_drewN | apply below_drew1 | refine below_set ?_ GE297.out | refine below_set ?_ GE298.out | refine below_set ?_ GE310.out) | exact HB.out)⟩⟩
                  · rw [if_neg c23] at H
                    have c23b0 : (t309 == 0) = false := beq_eq_false_iff_ne.mpr c23
                    have c23b1 : (t309 != 0) = true := bne_iff_ne.mpr c23
                    (first | rw [c23b0] | (simp only [i64_w, i32_w]; rw [c23b0]) | skip)
                    have H' := Aside0.mk H
                    clear H
                    go_wp2
                    go_meet
                    case rel => exact ⟨_, (true), (by first | rfl | (simp; done) | (simp [*]; done)), H', ⟨by have := HK1.out; have := HJ3.out; first | omega | exact Nat.le_refl _⟩, ⟨by (with_reducible repeat (first | apply Kd.R_alloc | apply Kd.R_drewN | apply Kd.R_drew)); exact Kd.R_mono (Kd.R_far (p := ⟨gb310, 1, none⟩) (Kd.R_far (p := ⟨gb310, 0, none⟩) (Kd.R_types HO_6.out BK310.out (by decide)) (fun _ hk => hk.2) (.slice Ao18 t302.length co18)) (fun _ hk => hk.2) (.slice Ao22 t305.length co22)) (fun _ hk => by first | exact ⟨hk.1.1, hk.1.2⟩ | (repeat' apply And.intro) <;> first  | exact hk.1.1 | exact hk.1.2)⟩, ⟨by (with_reducible repeat (first | apply Kd.R_alloc | apply Kd.R_drewN | apply Kd.R_drew)); exact Kd.R_mono (Kd.R_far (p := ⟨gb310, 1, none⟩) (Kd.R_far (p := ⟨gb310, 0, none⟩) (Kd.R_types HO_299000.out BK310.out (by decide)) (fun _ hk => hk.2) (.slice Ao18 t302.length co18)) (fun _ hk => hk.2) (.slice Ao22 t305.length co22)) (fun _ hk => by first | exact ⟨hk.1.1, hk.1.2⟩ | (repeat' apply And.intro) <;> first  | exact hk.1.1 | exact hk.1.2)⟩, ⟨by (with_reducible repeat (first | apply Kd.S_alloc | apply Kd.S_drewN | apply Kd.S_drew)); exact Kd.S_mono (Kd.S_far (p := ⟨gb310, 1, none⟩) (Kd.S_far (p := ⟨gb310, 0, none⟩) (Kd.S_types HO_299001.out BK310.out (by decide)) (fun _ hk => hk.2) (.slice Ao18 t302.length co18)) (fun _ hk => hk.2) (.slice Ao22 t305.length co22)) (fun _ hk => by first | exact ⟨hk.1.1.1.1, ⟨hk.1.1.1.2, ⟨hk.1.1.2, hk.1.2⟩⟩⟩ | (repeat' apply And.intro) <;> first  | exact hk.1.1.1.1 | exact hk.1.1.1.2 | exact hk.1.1.2 | exact hk.1.2)⟩, ⟨by (with_reducible repeat (first | apply Kd.R_alloc | apply Kd.R_drewN | apply Kd.R_drew)); exact Kd.R_mono (Kd.R_far (p := ⟨gb310, 1, none⟩) (Kd.R_far (p := ⟨gb310, 0, none⟩) (Kd.R_types HO304.out BK310.out (by decide)) (fun _ hk => hk.2) (.slice Ao18 t302.length co18)) (fun _ hk => hk.2) (.slice Ao22 t305.length co22)) (fun _ hk => by first | exact ⟨hk.1.1.2, hk.1.2⟩ | (repeat' apply And.intro) <;> first  | exact hk.1.1.2 | exact hk.1.2)⟩, ⟨by (with_reducible repeat (first | apply Kd.S_alloc | apply Kd.S_drewN | apply Kd.S_drew)); exact Kd.S_mono (Kd.S_far (p := ⟨gb310, 1, none⟩) (Kd.S_far (p := ⟨gb310, 0, none⟩) (Kd.S_types HO307.out BK310.out (by decide)) (fun _ hk => hk.2) (.slice Ao18 t302.length co18)) (fun _ hk => hk.2) (.slice Ao22 t305.length co22)) (fun _ hk => by first | exact ⟨hk.1.1.1.2, ⟨hk.1.1.2, ⟨hk.1.2, hk.1.1.1.1⟩⟩⟩ | (repeat' apply And.intro) <;> first  | exact hk.1.1.1.2 | exact hk.1.1.2 | exact hk.1.2 | exact hk.1.1.1.1)⟩, ⟨by (with_reducible repeat (first | refine blk_drewN ?_ _ | refine blk_drew ?_ | refine blk_alloc ?_ _)); refine blk_far ?_ NB297_310.out _; (with_reducible repeat (first | refine blk_drewN ?_ _ | refine blk_drew ?_ | refine blk_alloc ?_ _)); refine blk_far ?_ NB297_310.out _; (with_reducible repeat (first | refine blk_drewN ?_ _ | refine blk_drew ?_ | refine blk_alloc ?_ _)); exact BK297.out⟩, ⟨by (with_reducible repeat (first | refine blk_drewN ?_ _ | refine blk_drew ?_ | refine blk_alloc ?_ _)); refine blk_far ?_ NB298_310.out _; (with_reducible repeat (first | refine blk_drewN ?_ _ | refine blk_drew ?_ | refine blk_alloc ?_ _)); refine blk_far ?_ NB298_310.out _; (with_reducible repeat (first | refine blk_drewN ?_ _ | refine blk_drew ?_ | refine blk_alloc ?_ _)); exact BK298.out⟩, ⟨by (with_reducible repeat (first | refine blk_drewN ?_ _ | refine blk_drew ?_ | refine blk_alloc ?_ _)); refine blk_put (cs := #[.slice Ao18 t302.length co18, .slice none 0 0]) ?_ 1 _ rfl; (with_reducible repeat (first | refine blk_drewN ?_ _ | refine blk_drew ?_ | refine blk_alloc ?_ _)); refine blk_put (cs := #[.slice none 0 0, .slice none 0 0]) ?_ 0 _ rfl; (with_reducible repeat (first | refine blk_drewN ?_ _ | refine blk_drew ?_ | refine blk_alloc ?_ _)); exact BK310.out⟩, ⟨by repeat (first | (with_reducible first | exact HB.out | apply below_alloc | apply pw_below_drewN | apply below_drew1 | refine below_set ?_ GE297.out | refine below_set ?_ GE298.out | refine below_set ?_ GE310.out) | exact HB.out)⟩⟩
                case rest =>
                  clear HC11
                  try clear c1
                  try clear c2
                  try clear p2
                  try clear p3
                  try clear q3
                  try clear hx3
                  try clear c5
                  try clear c5b0
                  try clear c6
                  try clear c7
                  try clear c7b0
                  try clear c8
                  try clear c8b0
                  try clear c10
                  try clear c11
                  try clear c12
                  try clear c19
                  try clear c20
                  try clear c23
                  try clear c23b0
                  try clear c23b1
                  try clear hcz13_0
                  try clear hcz13_1
                  try clear hcz21_0
                  try clear hcz21_1
                  try clear hfz13_0
                  try clear hfz13_1
                  try clear hfz21_0
                  try clear hfz21_1
                  try clear hx300_0
                  try clear p2
                  try clear p300
                  try clear q300
                  obtain ⟨kq, x42_10, rfl, HA, HJ10, HO_6, HO_299000, HO_299001, HO_311000, HO_311001, BK297, BK298, BK310, HB⟩ := hcut
                  cases kq with
                  | zero => exact absurd HA.out (by simp [foretellkeep_stocked.j2])
                  | succ kj10 =>
                    have H := HA.out
                    clear HA
                    simp only [foretellkeep_stocked.j2] at H
                    by_cases c26 : x42_10 = true
                    · subst c26
                      have H1 : (some (x299000_1, x299001_1, x6_1, false)) = some (r1, r2, r3, r4) := by rw [if_pos rfl] at H; exact H
                      clear H
                      have H := H1
                      clear H1
                      simp only [Option.some.injEq, Prod.mk.injEq] at H
                      obtain ⟨rfl, rfl, rfl, rfl⟩ := H
                      have hnb27 := NB298_297.out
                      have hnc27 := NB297_298.out
                      have hnb28 := NB298_310.out
                      have hnc28 := NB310_298.out
                      have hcz29_0 : wc.cell? ⟨gb298, 0, none⟩ = some (.slice Ao14 x299000_1.length co14) := (blk_cell BK298.out 0).trans rfl
                      have hcz29_1 : wc.cell? ⟨gb298, 1, none⟩ = some (.slice Ao15 x299001_1.length co15) := (blk_cell BK298.out 1).trans rfl
                      have hfz29_0 := blk_frozen BK298.out 0
                      have hfz29_1 := blk_frozen BK298.out 1
                      have hnb30 := NB297_310.out
                      have hnc30 := NB310_297.out
                      have hcz31_0 : wc.cell? ⟨gb297, 0, none⟩ = some (.slice none 0 0) := (blk_cell BK297.out 0).trans rfl
                      have hcz31_1 : wc.cell? ⟨gb297, 1, none⟩ = some (.slice none 0 0) := (blk_cell BK297.out 1).trans rfl
                      have hfz31_0 := blk_frozen BK297.out 0
                      have hfz31_1 := blk_frozen BK297.out 1
                      go_wp2
                      refine bodyPost_ret (results_ctt rfl _ _ gb297 25 #[.slice Ao14 x299000_1.length co14, .slice Ao15 x299001_1.length co15] (0, 0) _ rfl (by (with_reducible repeat (first | refine blk_drewN ?_ _ | refine blk_drew ?_ | refine blk_alloc ?_ _)); refine blk_put (cs := #[.slice Ao14 x299000_1.length co14, .slice none 0 0]) ?_ 1 _ rfl; (with_reducible repeat (first | refine blk_drewN ?_ _ | refine blk_drew ?_ | refine blk_alloc ?_ _)); refine blk_put (cs := #[.slice none 0 0, .slice none 0 0]) ?_ 0 _ rfl; (with_reducible repeat (first | refine blk_drewN ?_ _ | refine blk_drew ?_ | refine blk_alloc ?_ _)); exact BK297.out) Try.underlying25 rfl (by kernel_rfl)) rfl ?_
                      exact ⟨_, _, _, by first | rfl | (simp [errW_none, errW_some] <;> rfl) | (simp [*, errW_none, errW_some] <;> rfl), by (with_reducible repeat (first | apply Kd.R_alloc | apply Kd.R_drewN | apply Kd.R_drew)); exact Kd.R_mono (Kd.R_far (p := ⟨gb297, 1, none⟩) (Kd.R_far (p := ⟨gb297, 0, none⟩) (Kd.R_types HO_299000.out BK297.out (by decide)) (fun _ hk => hk.2) (.slice Ao14 x299000_1.length co14)) (fun _ hk => hk.2) (.slice Ao15 x299001_1.length co15)) (fun _ hk => hk.1.1), by (with_reducible repeat (first | apply Kd.S_alloc | apply Kd.S_drewN | apply Kd.S_drew)); exact Kd.S_mono (Kd.S_far (p := ⟨gb297, 1, none⟩) (Kd.S_far (p := ⟨gb297, 0, none⟩) (Kd.S_types HO_299001.out BK297.out (by decide)) (fun _ hk => hk.2) (.slice Ao14 x299000_1.length co14)) (fun _ hk => hk.2) (.slice Ao15 x299001_1.length co15)) (fun _ hk => by first | exact ⟨hk.1.2.1, hk.1.1⟩ | (repeat' apply And.intro) <;> first  | exact hk.1.2.1 | exact hk.1.1), by (with_reducible repeat (first | apply Kd.R_alloc | apply Kd.R_drewN | apply Kd.R_drew)); exact Kd.R_mono (Kd.R_far (p := ⟨gb297, 1, none⟩) (Kd.R_far (p := ⟨gb297, 0, none⟩) (Kd.R_types HO_6.out BK297.out (by decide)) (fun _ hk => hk.2) (.slice Ao14 x299000_1.length co14)) (fun _ hk => hk.2) (.slice Ao15 x299001_1.length co15)) (fun _ hk => hk.1.1), by repeat (first | (with_reducible first | exact HB.out | apply below_alloc | apply pw_below_drewN | apply below_drew1 | refine below_set ?_ GE297.out | refine below_set ?_ GE298.out | refine below_set ?_ GE310.out) | exact HB.out)⟩
                    · replace c26 := Bool.eq_false_iff.mpr c26
                      subst c26
                      have H1 : (if t308 = true then (if x6_1.length < 17592186044416 then (foretellkeep_stocked.l0 kj10 l0 (x6_1 ++ [t301]) (wrap64 (x7_1 + 1)) t302 t305) else (none)) else (foretellkeep_stocked.l0 kj10 l0 x6_1 (wrap64 (x7_1 + 1)) t302 t305)) = some (r1, r2, r3, r4) := by rw [if_neg (show ¬ (false = true) by decide)] at H; exact H
                      clear H
                      have H := H1
                      clear H1
                      by_cases c32 : t308 = true
                      · subst c32
                        have H1 : (if x6_1.length < 17592186044416 then (foretellkeep_stocked.l0 kj10 l0 (x6_1 ++ [t301]) (wrap64 (x7_1 + 1)) t302 t305) else (none)) = some (r1, r2, r3, r4) := by rw [if_pos rfl] at H; exact H
                        clear H
                        have H := H1
                        clear H1
                        by_cases c33 : x6_1.length < 17592186044416
                        · rw [if_pos c33] at H
                          have LMc33 := Aside0.mk c33
                          clear c33
                          obtain ⟨y312, hy312⟩ : ∃ y_ : List Int, y_ = (x6_1 ++ [t301]) := ⟨_, rfl⟩
                          replace H : (foretellkeep_stocked.l0 kj10 l0 y312 (wrap64 (x7_1 + 1)) t302 t305) = some (r1, r2, r3, r4) := by first | (rw [hy312]; with_reducible exact H) | (have H2_ := (Option.bind_some _ _).symm.trans H; rw [hy312]; with_reducible exact H2_) | (have H2_ := (Option.bind_some _ _).symm.trans H; with_reducible exact H2_) | with_reducible exact H | (rw [hy312]; exact H) | exact H
                          have Ny312 := Aside0.mk hy312
                          clear hy312
                          have H' := Aside0.mk H
                          clear H
                          have hnb34 := NB310_297.out
                          have hnc34 := NB297_310.out
                          have hnb35 := NB310_298.out
                          have hnc35 := NB298_310.out
                          have hcz36_0 : wc.cell? ⟨gb310, 0, none⟩ = some (.slice Ao18 t302.length co18) := (blk_cell BK310.out 0).trans rfl
                          have hcz36_1 : wc.cell? ⟨gb310, 1, none⟩ = some (.slice Ao22 t305.length co22) := (blk_cell BK310.out 1).trans rfl
                          have hfz36_0 := blk_frozen BK310.out 0
                          have hfz36_1 := blk_frozen BK310.out 1
                          have hnb37 := NB298_297.out
                          have hnc37 := NB297_298.out
                          have hcz38_0 : wc.cell? ⟨gb298, 0, none⟩ = some (.slice Ao14 x299000_1.length co14) := (blk_cell BK298.out 0).trans rfl
                          have hcz38_1 : wc.cell? ⟨gb298, 1, none⟩ = some (.slice Ao15 x299001_1.length co15) := (blk_cell BK298.out 1).trans rfl
                          have hfz38_0 := blk_frozen BK298.out 0
                          have hfz38_1 := blk_frozen BK298.out 1
                          go_wp2_with (first | ((with_reducible refine gate_builtin (b := .append) (xs := #[.tmp 47, .tmp 49]) rfl ?_); at_builtin; refine Kd.R_append (Kd.int .i64) (w0 := w) w.heap.size rfl (.tmp 47) (.tmp 49) 22 3 (.int .i64 0) 8 rfl Try.underlying22 info3 rfl (by decide) (by omega) u6 x6_1 t301 [.int .i64 t301] (fun k_ => some k_ ≠ (.slice Ao14 x299000_1.length co14 : Value).ownBlock ∧ some k_ ≠ (.slice Ao18 t302.length co18 : Value).ownBlock) (fun _ => False) rfl (by first | (go_simp; done) | (go_simp; rfl)) ?aP (fun _ hk => hk.elim) ?aF ?aO ?aB ?aS ?aL ?_; (case aP => exact rfl); (case aB => exact (by repeat (first | (with_reducible first | exact HB.out | apply below_alloc | apply pw_below_drewN | apply below_drew1 | refine below_set ?_ GE297.out | refine below_set ?_ GE298.out | refine below_set ?_ GE310.out) | exact HB.out))); (case aF => exact (fun k_ hk => ⟨Kd.fresh' (Kd.R_lt (by (with_reducible repeat (first | apply Kd.R_alloc | apply Kd.R_drewN | apply Kd.R_drew)); exact (Kd.R_mono (Kd.R_far (p := ⟨gb298, 1, none⟩) (Kd.R_far (p := ⟨gb298, 0, none⟩) (Kd.R_types HO_299000.out BK298.out (by decide)) (fun _ hk => hk.2) (.slice Ao18 t302.length co18)) (fun _ hk => hk.2) (.slice Ao22 t305.length co22)) (fun _ h_ => h_.1)))) k_ hk, Kd.fresh' (Kd.R_lt (by (with_reducible repeat (first | apply Kd.R_alloc | apply Kd.R_drewN | apply Kd.R_drew)); exact (Kd.R_mono (Kd.R_far (p := ⟨gb298, 1, none⟩) (Kd.R_far (p := ⟨gb298, 0, none⟩) (Kd.R_types HO_311000.out BK298.out (by decide)) (fun _ hk => hk.2) (.slice Ao18 t302.length co18)) (fun _ hk => hk.2) (.slice Ao22 t305.length co22)) (fun _ h_ => h_.1)))) k_ hk⟩)); (case aO => exact (by (with_reducible repeat (first | apply Kd.R_alloc | apply Kd.R_drewN | apply Kd.R_drew)); exact Kd.R_mono (Kd.R_far (p := ⟨gb298, 1, none⟩) (Kd.R_far (p := ⟨gb298, 0, none⟩) (Kd.R_types HO_6.out BK298.out (by decide)) (fun _ hk => hk.2) (.slice Ao18 t302.length co18)) (fun _ hk => hk.2) (.slice Ao22 t305.length co22)) (fun _ hk => by first | exact ⟨hk.1.1, hk.1.2⟩ | (repeat' apply And.intro) <;> first  | exact hk.1.1 | exact hk.1.2))); (case aS => exact (below_size (by repeat (first | (with_reducible first | exact HB.out | apply below_alloc | apply pw_below_drewN | apply below_drew1 | refine below_set ?_ GE297.out | refine below_set ?_ GE298.out | refine below_set ?_ GE310.out) | exact HB.out)))); (case aL => have := LMc33.out; omega); intro v313 w39 ho hb hg hat; rw [← Ny312.out] at ho; have n0_ := Aside0.mk (Kd.R_after (ok := (fun k_ => some k_ ≠ (.slice Ao18 t302.length co18 : Value).ownBlock)) (by (with_reducible repeat (first | apply Kd.R_alloc | apply Kd.R_drewN | apply Kd.R_drew)); exact Kd.R_mono (Kd.R_far (p := ⟨gb298, 1, none⟩) (Kd.R_far (p := ⟨gb298, 0, none⟩) (Kd.R_types HO_299000.out BK298.out (by decide)) (fun _ hk => hk.2) (.slice Ao18 t302.length co18)) (fun _ hk => hk.2) (.slice Ao22 t305.length co22)) (fun _ hk => by first | exact ⟨hk.1.2, hk.1.1⟩ | (repeat' apply And.intro) <;> first  | exact hk.1.2 | exact hk.1.1)) hg hat); have n1_ := Aside0.mk (Kd.S_after (ok := (fun k_ => some k_ ≠ (.slice Ao14 x299000_1.length co14 : Value).ownBlock ∧ some k_ ≠ (.slice Ao18 t302.length co18 : Value).ownBlock ∧ some k_ ≠ (.slice Ao22 t305.length co22 : Value).ownBlock)) (by (with_reducible repeat (first | apply Kd.S_alloc | apply Kd.S_drewN | apply Kd.S_drew)); exact Kd.S_mono (Kd.S_far (p := ⟨gb298, 1, none⟩) (Kd.S_far (p := ⟨gb298, 0, none⟩) (Kd.S_types HO_299001.out BK298.out (by decide)) (fun _ hk => hk.2) (.slice Ao18 t302.length co18)) (fun _ hk => hk.2) (.slice Ao22 t305.length co22)) (fun _ hk => ⟨⟨hk.1.2.1, ⟨hk.1.2.2.1, hk.1.2.2.2⟩⟩, hk.1.1⟩)) hg hat); have n2_ := Aside0.mk (Kd.R_after (ok := (fun k_ => some k_ ≠ (.slice Ao14 x299000_1.length co14 : Value).ownBlock)) (by (with_reducible repeat (first | apply Kd.R_alloc | apply Kd.R_drewN | apply Kd.R_drew)); exact Kd.R_mono (Kd.R_far (p := ⟨gb298, 1, none⟩) (Kd.R_far (p := ⟨gb298, 0, none⟩) (Kd.R_types HO_311000.out BK298.out (by decide)) (fun _ hk => hk.2) (.slice Ao18 t302.length co18)) (fun _ hk => hk.2) (.slice Ao22 t305.length co22)) (fun _ hk => by first | exact ⟨hk.1.2, hk.1.1⟩ | (repeat' apply And.intro) <;> first  | exact hk.1.2 | exact hk.1.1)) hg hat); have n3_ := Aside0.mk (Kd.S_after (ok := (fun k_ => some k_ ≠ (.slice Ao14 x299000_1.length co14 : Value).ownBlock ∧ some k_ ≠ (.slice Ao15 x299001_1.length co15 : Value).ownBlock ∧ some k_ ≠ (.slice Ao18 t302.length co18 : Value).ownBlock)) (by (with_reducible repeat (first | apply Kd.S_alloc | apply Kd.S_drewN | apply Kd.S_drew)); exact Kd.S_mono (Kd.S_far (p := ⟨gb298, 1, none⟩) (Kd.S_far (p := ⟨gb298, 0, none⟩) (Kd.S_types HO_311001.out BK298.out (by decide)) (fun _ hk => hk.2) (.slice Ao18 t302.length co18)) (fun _ hk => hk.2) (.slice Ao22 t305.length co22)) (fun _ hk => ⟨⟨hk.1.2.1, ⟨hk.1.2.2.1, hk.1.2.2.2⟩⟩, hk.1.1⟩)) hg hat); have n4_ := Aside0.mk (blk_grown (g := gb297) (o := .cells #[.slice none 0 0, .slice none 0 0] 25 (0, 0)) (by (with_reducible repeat (first | refine blk_drewN ?_ _ | refine blk_drew ?_ | refine blk_alloc ?_ _)); refine blk_far ?_ NB297_298.out _; (with_reducible repeat (first | refine blk_drewN ?_ _ | refine blk_drew ?_ | refine blk_alloc ?_ _)); refine blk_far ?_ NB297_298.out _; (with_reducible repeat (first | refine blk_drewN ?_ _ | refine blk_drew ?_ | refine blk_alloc ?_ _)); exact BK297.out) hg (Kd.R_ne HO_6.out BK297.out (by decide))); have n5_ := Aside0.mk (blk_grown (g := gb298) (o := .cells #[.slice Ao18 t302.length co18, .slice Ao22 t305.length co22] 25 (0, 0)) (by (with_reducible repeat (first | refine blk_drewN ?_ _ | refine blk_drew ?_ | refine blk_alloc ?_ _)); refine blk_put (cs := #[.slice Ao18 t302.length co18, .slice Ao15 x299001_1.length co15]) ?_ 1 _ rfl; (with_reducible repeat (first | refine blk_drewN ?_ _ | refine blk_drew ?_ | refine blk_alloc ?_ _)); refine blk_put (cs := #[.slice Ao14 x299000_1.length co14, .slice Ao15 x299001_1.length co15]) ?_ 0 _ rfl; (with_reducible repeat (first | refine blk_drewN ?_ _ | refine blk_drew ?_ | refine blk_alloc ?_ _)); exact BK298.out) hg (Kd.R_ne HO_6.out BK298.out (by decide))); have n6_ := Aside0.mk (blk_grown (g := gb310) (o := .cells #[.slice Ao18 t302.length co18, .slice Ao22 t305.length co22] 25 (0, 0)) (by (with_reducible repeat (first | refine blk_drewN ?_ _ | refine blk_drew ?_ | refine blk_alloc ?_ _)); refine blk_far ?_ NB310_298.out _; (with_reducible repeat (first | refine blk_drewN ?_ _ | refine blk_drew ?_ | refine blk_alloc ?_ _)); refine blk_far ?_ NB310_298.out _; (with_reducible repeat (first | refine blk_drewN ?_ _ | refine blk_drew ?_ | refine blk_alloc ?_ _)); exact BK310.out) hg (Kd.R_ne HO_6.out BK310.out (by decide))); have n7_ := Aside0.mk (hb); have n8_ := Aside0.mk (ho); clear HO_299000; clear HO_299001; clear HO_311000; clear HO_311001; clear BK297; clear BK298; clear BK310; clear HB; clear HO_6; have HO_299000 := n0_; have HO_299001 := n1_; have HO_311000 := n2_; have HO_311001 := n3_; have BK297 := n4_; have BK298 := n5_; have BK310 := n6_; have HB := n7_; have HO314 := n8_; clear n0_ n1_ n2_ n3_ n4_ n5_ n6_ n7_ n8_; clear ho hb hg hat))
                          go_roundg kj10
                          case measure => have := HK1.out; have := HJ3.out; have := HJ10.out; omega
                          case rel => exact ⟨(y312), (wrap64 (x7_1 + 1)), (t302), (t305), (.slice Ao18 t302.length co18), (.slice Ao22 t305.length co22), (by first | rfl | (simp; done) | (simp [*]; done)), H', ⟨by have := HK1.out; have := HJ3.out; have := HJ10.out; omega⟩, ⟨by (with_reducible repeat (first | apply Kd.R_alloc | apply Kd.R_drewN | apply Kd.R_drew)); exact Kd.R_mono HO314.out (fun _ hk => hk.2)⟩, ⟨by (with_reducible repeat (first | apply Kd.R_alloc | apply Kd.R_drewN | apply Kd.R_drew)); exact Kd.R_mono HO_311000.out (fun _ hk => hk.2)⟩, ⟨by (with_reducible repeat (first | apply Kd.S_alloc | apply Kd.S_drewN | apply Kd.S_drew)); exact Kd.S_mono HO_311001.out (fun _ hk => by first | exact ⟨hk.2, hk.1.2.2⟩ | (repeat' apply And.intro) <;> first  | exact hk.2 | exact hk.1.2.2)⟩, ⟨by (with_reducible repeat (first | refine blk_drewN ?_ _ | refine blk_drew ?_ | refine blk_alloc ?_ _)); exact BK297.out⟩, ⟨by (with_reducible repeat (first | refine blk_drewN ?_ _ | refine blk_drew ?_ | refine blk_alloc ?_ _)); exact BK298.out⟩, ⟨by repeat (first | (with_reducible first | exact HB.out | apply below_alloc | apply pw_below_drewN | apply below_drew1 | refine below_set ?_ GE297.out | refine below_set ?_ GE298.out | refine below_set ?_ GE310.out) | exact HB.out)⟩⟩
                        · rw [if_neg c33] at H
                          exact absurd H (by simp)
                      · replace c32 := Bool.eq_false_iff.mpr c32
                        subst c32
                        have H1 : (foretellkeep_stocked.l0 kj10 l0 x6_1 (wrap64 (x7_1 + 1)) t302 t305) = some (r1, r2, r3, r4) := by rw [if_neg (show ¬ (false = true) by decide)] at H; exact H
                        clear H
                        have H := H1
                        clear H1
                        have H' := Aside0.mk H
                        clear H
                        have hnb40 := NB310_297.out
                        have hnc40 := NB297_310.out
                        have hnb41 := NB310_298.out
                        have hnc41 := NB298_310.out
                        have hcz42_0 : wc.cell? ⟨gb310, 0, none⟩ = some (.slice Ao18 t302.length co18) := (blk_cell BK310.out 0).trans rfl
                        have hcz42_1 : wc.cell? ⟨gb310, 1, none⟩ = some (.slice Ao22 t305.length co22) := (blk_cell BK310.out 1).trans rfl
                        have hfz42_0 := blk_frozen BK310.out 0
                        have hfz42_1 := blk_frozen BK310.out 1
                        have hnb43 := NB298_297.out
                        have hnc43 := NB297_298.out
                        have hcz44_0 : wc.cell? ⟨gb298, 0, none⟩ = some (.slice Ao14 x299000_1.length co14) := (blk_cell BK298.out 0).trans rfl
                        have hcz44_1 : wc.cell? ⟨gb298, 1, none⟩ = some (.slice Ao15 x299001_1.length co15) := (blk_cell BK298.out 1).trans rfl
                        have hfz44_0 := blk_frozen BK298.out 0
                        have hfz44_1 := blk_frozen BK298.out 1
                        go_wp2
                        go_roundg kj10
                        case measure => have := HK1.out; have := HJ3.out; have := HJ10.out; omega
                        case rel => exact ⟨(x6_1), (wrap64 (x7_1 + 1)), (t302), (t305), (.slice Ao18 t302.length co18), (.slice Ao22 t305.length co22), (by first | rfl | (simp; done) | (simp [*]; done)), H', ⟨by have := HK1.out; have := HJ3.out; have := HJ10.out; omega⟩, ⟨by (with_reducible repeat (first | apply Kd.R_alloc | apply Kd.R_drewN | apply Kd.R_drew)); exact Kd.R_mono (Kd.R_far (p := ⟨gb298, 1, none⟩) (Kd.R_far (p := ⟨gb298, 0, none⟩) (Kd.R_types HO_6.out BK298.out (by decide)) (fun _ hk => hk.2) (.slice Ao18 t302.length co18)) (fun _ hk => hk.2) (.slice Ao22 t305.length co22)) (fun _ hk => hk.1.2)⟩, ⟨by (with_reducible repeat (first | apply Kd.R_alloc | apply Kd.R_drewN | apply Kd.R_drew)); exact Kd.R_mono (Kd.R_far (p := ⟨gb298, 1, none⟩) (Kd.R_far (p := ⟨gb298, 0, none⟩) (Kd.R_types HO_311000.out BK298.out (by decide)) (fun _ hk => hk.2) (.slice Ao18 t302.length co18)) (fun _ hk => hk.2) (.slice Ao22 t305.length co22)) (fun _ hk => hk.1.1)⟩, ⟨by (with_reducible repeat (first | apply Kd.S_alloc | apply Kd.S_drewN | apply Kd.S_drew)); exact Kd.S_mono (Kd.S_far (p := ⟨gb298, 1, none⟩) (Kd.S_far (p := ⟨gb298, 0, none⟩) (Kd.S_types HO_311001.out BK298.out (by decide)) (fun _ hk => hk.2) (.slice Ao18 t302.length co18)) (fun _ hk => hk.2) (.slice Ao22 t305.length co22)) (fun _ hk => by first | exact ⟨hk.1.1, hk.1.2.2.2⟩ | (repeat' apply And.intro) <;> first  | exact hk.1.1 | exact hk.1.2.2.2)⟩, ⟨by (with_reducible repeat (first | refine blk_drewN ?_ _ | refine blk_drew ?_ | refine blk_alloc ?_ _)); refine blk_far ?_ NB297_298.out _; (with_reducible repeat (first | refine blk_drewN ?_ _ | refine blk_drew ?_ | refine blk_alloc ?_ _)); refine blk_far ?_ NB297_298.out _; (with_reducible repeat (first | refine blk_drewN ?_ _ | refine blk_drew ?_ | refine blk_alloc ?_ _)); exact BK297.out⟩, ⟨by (with_reducible repeat (first | refine blk_drewN ?_ _ | refine blk_drew ?_ | refine blk_alloc ?_ _)); refine blk_put (cs := #[.slice Ao18 t302.length co18, .slice Ao15 x299001_1.length co15]) ?_ 1 _ rfl; (with_reducible repeat (first | refine blk_drewN ?_ _ | refine blk_drew ?_ | refine blk_alloc ?_ _)); refine blk_put (cs := #[.slice Ao14 x299000_1.length co14, .slice Ao15 x299001_1.length co15]) ?_ 0 _ rfl; (with_reducible repeat (first | refine blk_drewN ?_ _ | refine blk_drew ?_ | refine blk_alloc ?_ _)); exact BK298.out⟩, ⟨by repeat (first | (with_reducible first | exact HB.out | apply below_alloc | apply pw_below_drewN | apply below_drew1 | refine below_set ?_ GE297.out | refine below_set ?_ GE298.out | refine below_set ?_ GE310.out) | exact HB.out)⟩⟩
              · rw [if_neg c8] at H
                exact absurd H (by simp)
            · rw [if_neg c7] at H
              exact absurd H (by simp)
          · replace c6 := Bool.eq_false_iff.mpr c6
            subst c6
            have H1 : ((store_Check.f kj3 x299000_1 x299001_1).bind fun t299 => (some (x299000_1, x299001_1, x6_1, (t299 == 0)))) = some (r1, r2, r3, r4) := by rw [if_neg (show ¬ (false = true) by decide)] at H; exact H
            clear H
            have H := H1
            clear H1
            replace H := Option.bind_eq_some_iff.mp H
            obtain ⟨t299, A450, H⟩ := H
            replace H : (some (x299000_1, x299001_1, x6_1, (t299 == 0))) = some (r1, r2, r3, r4) := H
            have A45 := Aside0.mk A450
            clear A450
            simp only [Option.some.injEq, Prod.mk.injEq] at H
            obtain ⟨rfl, rfl, rfl, rfl⟩ := H
            try go_wp2
            have n0_ := Aside0.mk (Kd.R_drew HO_6.out)
            have n1_ := Aside0.mk (Kd.R_drew HO_299000.out)
            have n2_ := Aside0.mk (Kd.S_drew HO_299001.out)
            have n3_ := Aside0.mk (blk_drew BK297.out)
            have n4_ := Aside0.mk (blk_drew BK298.out)
            have n5_ := Aside0.mk (below_drew1 HB.out)
            clear HO_6
            clear HO_299000
            clear HO_299001
            clear BK297
            clear BK298
            clear HB
            have HO_6 := n0_
            have HO_299000 := n1_
            have HO_299001 := n2_
            have BK297 := n3_
            have BK298 := n4_
            have HB := n5_
            clear n0_ n1_ n2_ n3_ n4_ n5_
            obtain ⟨Ao47, co47, eo47⟩ := Kd.R_slice HO_299000.out
            (first | subst eo47 | (injection eo47 with f1_ f2_ f3_; have f4_ := f1_.symm; have f5_ := f3_.symm; clear f1_ f2_ f3_; subst f4_; subst f5_))
            obtain ⟨Ao48, co48, eo48⟩ := Kd.S_slice HO_299001.out
            (first | subst eo48 | (injection eo48 with f1_ f2_ f3_; have f4_ := f1_.symm; have f5_ := f3_.symm; clear f1_ f2_ f3_; subst f4_; subst f5_))
            refine start_ (n := 8) (S := fun w' => w'.cell? ⟨gb298, 0, none⟩ = some (.slice Ao47 x299000_1.length co47) ∧ w'.cell? ⟨gb298, 1, none⟩ = some (.slice Ao48 x299001_1.length co48)) (ds := []) #[false, false, false, false, false, false, false, false] (by kernel_rfl) rfl rfl ⟨(blk_cell BK298.out 0).trans rfl, (blk_cell BK298.out 1).trans rfl⟩ (fun hHeld => ?_); refine with_tabW foretellkeep_stocked.tab13 foretellkeep_stocked.bits13 (fun HT_ HW_ => ?_)
            generalize wc.drew = w46 at HO_6 HO_299000 HO_299001 BK297 BK298 HB hHeld ⊢
            refine pure_ (i := 1) (N := some 52) (v := ?_) (a' := ?_) #[false, true, false, false, false, false, false, false] rfl rfl (any_of HT_.out (by kernel_rfl)) (fun _ _ _ h => h) (Or.inl ⟨by rfl, ?_⟩) ?_ ?_
            rotate_left
            · intro w'
              go_simp
              with_reducible rfl
            rotate_left
            · simp only [Act.put, List.setIfInBounds_toArray, List.set_cons_zero, List.set_cons_succ, i64_w, i32_w]
              rfl
            refine take_ (i := 0) (N := some 51) (v := ?_) (a' := ?_) #[true, true, false, false, false, false, false, false] rfl rfl (take_ofW HT_.out HW_.out (by kernel_rfl)) (fun _ _ _ h => h) (Or.inl ⟨by rfl, ?_⟩) hHeld ?_ ?_
            rotate_left
            · rintro w' ⟨s0, s1⟩
              go_simp
              with_reducible rfl
            rotate_left
            · simp only [Act.put, List.setIfInBounds_toArray, List.set_cons_zero, List.set_cons_succ, i64_w, i32_w]
              rfl
            refine take_ (i := 2) (N := some 53) (v := ?_) (a' := ?_) #[true, true, true, false, false, false, false, false] rfl rfl (take_ofW HT_.out HW_.out (by kernel_rfl)) (fun _ _ _ h => h) (Or.inl ⟨by rfl, ?_⟩) hHeld ?_ ?_
            rotate_left
            · rintro w' ⟨s0, s1⟩
              go_simp
              with_reducible rfl
            rotate_left
            · simp only [Act.put, List.setIfInBounds_toArray, List.set_cons_zero, List.set_cons_succ, i64_w, i32_w]
              rfl
            refine one_ (i := 3) (N := some 54) #[true, true, true, true, false, false, false, false] rfl rfl (one_of HT_.out (by kernel_rfl)) (by decide) (fun K hK => ?_)
            refine goes_ Try.func16 (by kernel_rfl) rfl #[.agg #[.slice Ao47 x299000_1.length co47, .slice Ao48 x299001_1.length co48]] (by rfl) rfl rfl (by (try simp only [List.map_toArray, List.map_cons, List.map_nil]); first | done | rfl | (simp only [List.length_drop, List.length_take]; rfl)) ?_
            with_reducible refine (store_Check.calls kj3 _ _ x299000_1 _ _ x299001_1 t299 _ ?side1 ?side2 ?side3 ?side4 A45.out).mono ?_
            (case side1 => repeat (first | exact (Kd.R_reads' HO_299000.out).2.2 | (with_reducible refine Kd.C_alloc ?_ _) | (with_reducible refine Kd.C_drewN ?_ _) | (with_reducible refine Kd.C_drew ?_)))
            (case side2 => exact (Kd.R_reads' HO_299000.out).2.1)
            (case side3 => repeat (first | exact (Kd.S_reads' HO_299001.out).2.2 | (with_reducible refine Kd.C_alloc ?_ _) | (with_reducible refine Kd.C_drewN ?_ _) | (with_reducible refine Kd.C_drew ?_)))
            (case side4 => exact (Kd.S_reads' HO_299001.out).2.1)
            rintro e w49 ⟨rfl, hb⟩
            refine ⟨_, rfl, ?_⟩
            have n0_ := Aside0.mk (Kd.R_below (by (with_reducible repeat (first | apply Kd.R_alloc | apply Kd.R_drewN | apply Kd.R_drew)); exact HO_6.out) hb)
            have n1_ := Aside0.mk (Kd.R_below (by (with_reducible repeat (first | apply Kd.R_alloc | apply Kd.R_drewN | apply Kd.R_drew)); exact HO_299000.out) hb)
            have n2_ := Aside0.mk (Kd.S_below (by (with_reducible repeat (first | apply Kd.S_alloc | apply Kd.S_drewN | apply Kd.S_drew)); exact HO_299001.out) hb)
            have n3_ := Aside0.mk (blk_below (g := gb297) (o := .cells #[.slice none 0 0, .slice none 0 0] 25 (0, 0)) (by (with_reducible repeat (first | refine blk_drewN ?_ _ | refine blk_drew ?_ | refine blk_alloc ?_ _)); exact BK297.out) hb)
            have n4_ := Aside0.mk (blk_below (g := gb298) (o := .cells #[.slice Ao47 x299000_1.length co47, .slice Ao48 x299001_1.length co48] 25 (0, 0)) (by (with_reducible repeat (first | refine blk_drewN ?_ _ | refine blk_drew ?_ | refine blk_alloc ?_ _)); exact BK298.out) hb)
            have n5_ := Aside0.mk (below_step (by repeat (first | (with_reducible first | exact HB.out | apply below_alloc | apply pw_below_drewN | apply below_drew1 | refine below_set ?_ GE297.out | refine below_set ?_ GE298.out) | exact HB.out)) hb)
            clear HO_6
            clear HO_299000
            clear HO_299001
            clear BK297
            clear BK298
            clear HB
            have HO_6 := n0_
            have HO_299000 := n1_
            have HO_299001 := n2_
            have BK297 := n3_
            have BK298 := n4_
            have HB := n5_
            clear n0_ n1_ n2_ n3_ n4_ n5_
            (try clear hb)
            (try clear hb2)
            (try clear hk)
            (try clear hi)
            refine hK.out _ _ ⟨(blk_cell BK298.out 0).trans rfl, (blk_cell BK298.out 1).trans rfl⟩ (fun hHeld => ?_)
            clear hK K
            refine norm_ (a' := ?_) ?_ ?_
            rotate_left
            · show Act.put _ (some 54) _ = _
              simp only [Act.put, List.setIfInBounds_toArray, List.set_cons_zero, List.set_cons_succ, i64_w, i32_w]
              rfl
            refine pure_ (i := 4) (N := some 55) (v := ?_) (a' := ?_) #[true, true, true, true, true, false, false, false] rfl rfl (any_of HT_.out (by kernel_rfl)) (fun _ _ _ h => h) (Or.inl ⟨by rfl, ?_⟩) ?_ ?_
            rotate_left
            · intro w'
              go_simp
              with_reducible rfl
            rotate_left
            · simp only [Act.put, List.setIfInBounds_toArray, List.set_cons_zero, List.set_cons_succ, i64_w, i32_w]
              rfl
            refine one_ (i := 5) (N := none) #[true, true, true, true, true, true, false, false] rfl rfl (one_of HT_.out (by kernel_rfl)) (by decide) (fun K hK => ?_)
            have hs50 : w49.cell? ⟨gb297, 0, none⟩ = some (.slice none 0 0) := (blk_cell BK297.out 0).trans rfl
            have hfs50 := blk_frozen BK297.out 0
            have hns50_1 := NB298_297.out
            have hms50_1 := NB297_298.out
            have hs51 : w49.cell? ⟨gb297, 1, none⟩ = some (.slice none 0 0) := (blk_cell BK297.out 1).trans rfl
            have hfs51 := blk_frozen BK297.out 1
            have hns51_1 := NB298_297.out
            have hms51_1 := NB297_298.out
            refine skip_ (w1 := ?_) (by rfl) rfl ?_ ?_
            rotate_left
            · go_simp
              rfl
            refine hK.out _ _ ⟨((cell_far (p := ⟨gb297, _, none⟩) NB298_297.out _).trans (((cell_far (p := ⟨gb297, _, none⟩) NB298_297.out _).trans (hHeld.1)))), ((cell_far (p := ⟨gb297, _, none⟩) NB298_297.out _).trans (((cell_far (p := ⟨gb297, _, none⟩) NB298_297.out _).trans (hHeld.2))))⟩ (fun hHeld => ?_)
            clear hK K
            refine pure_ (i := 6) (N := some 3) (v := ?_) (a' := ?_) #[true, true, true, true, true, true, true, false] rfl rfl (any_of HT_.out (by kernel_rfl)) (fun _ _ _ h => h) (Or.inl ⟨by rfl, ?_⟩) ?_ ?_
            rotate_left
            · intro w'
              go_simp
              with_reducible rfl
            rotate_left
            · simp only [Act.put, List.setIfInBounds_toArray, List.set_cons_zero, List.set_cons_succ, i64_w, i32_w]
              rfl
            refine pure_ (i := 7) (N := some 4) (v := ?_) (a' := ?_) #[true, true, true, true, true, true, true, true] rfl rfl (any_of HT_.out (by kernel_rfl)) (fun _ _ _ h => h) (Or.inl ⟨by rfl, ?_⟩) ?_ ?_
            rotate_left
            · intro w'
              go_simp
              with_reducible rfl
            rotate_left
            · simp only [Act.put, List.setIfInBounds_toArray, List.set_cons_zero, List.set_cons_succ, i64_w, i32_w]
              rfl
            refine done_ (done_of HT_.out (by kernel_rfl)) ?_
            try go_wp2
            refine bodyPost_ret (results_ctt rfl _ _ gb297 25 #[.slice Ao47 x299000_1.length co47, .slice Ao48 x299001_1.length co48] (0, 0) _ rfl (by (with_reducible repeat (first | refine blk_drewN ?_ _ | refine blk_drew ?_ | refine blk_alloc ?_ _)); refine blk_put (cs := #[.slice Ao47 x299000_1.length co47, .slice none 0 0]) ?_ 1 _ rfl; (with_reducible repeat (first | refine blk_drewN ?_ _ | refine blk_drew ?_ | refine blk_alloc ?_ _)); refine blk_put (cs := #[.slice none 0 0, .slice none 0 0]) ?_ 0 _ rfl; (with_reducible repeat (first | refine blk_drewN ?_ _ | refine blk_drew ?_ | refine blk_alloc ?_ _)); exact BK297.out) Try.underlying25 rfl (by kernel_rfl)) rfl ?_
            exact ⟨_, _, _, by first | rfl | (simp [errW_none, errW_some] <;> rfl) | (simp [*, errW_none, errW_some] <;> rfl), by (with_reducible repeat (first | apply Kd.R_alloc | apply Kd.R_drewN | apply Kd.R_drew)); exact Kd.R_mono (Kd.R_far (p := ⟨gb297, 1, none⟩) (Kd.R_far (p := ⟨gb297, 0, none⟩) (Kd.R_types HO_299000.out BK297.out (by decide)) (fun _ hk => hk.2) (.slice Ao47 x299000_1.length co47)) (fun _ hk => hk.2) (.slice Ao48 x299001_1.length co48)) (fun _ hk => hk.1), by (with_reducible repeat (first | apply Kd.S_alloc | apply Kd.S_drewN | apply Kd.S_drew)); exact Kd.S_mono (Kd.S_far (p := ⟨gb297, 1, none⟩) (Kd.S_far (p := ⟨gb297, 0, none⟩) (Kd.S_types HO_299001.out BK297.out (by decide)) (fun _ hk => hk.2) (.slice Ao47 x299000_1.length co47)) (fun _ hk => hk.2) (.slice Ao48 x299001_1.length co48)) (fun _ hk => by first | exact ⟨hk.1.2, hk.1.1⟩ | (repeat' apply And.intro) <;> first  | exact hk.1.2 | exact hk.1.1), by (with_reducible repeat (first | apply Kd.R_alloc | apply Kd.R_drewN | apply Kd.R_drew)); exact Kd.R_mono (Kd.R_far (p := ⟨gb297, 1, none⟩) (Kd.R_far (p := ⟨gb297, 0, none⟩) (Kd.R_types HO_6.out BK297.out (by decide)) (fun _ hk => hk.2) (.slice Ao47 x299000_1.length co47)) (fun _ hk => hk.2) (.slice Ao48 x299001_1.length co48)) (fun _ hk => hk.1), by repeat (first | (with_reducible first | exact HB.out | apply below_alloc | apply pw_below_drewN | apply below_drew1 | refine below_set ?_ GE297.out | refine below_set ?_ GE298.out) | exact HB.out)⟩

end Go.Proofs.Ytobgkjdchpokgaa.P
end
