-- PACKED by pack.py of this repo: FForetellkeepFairRound
import Derived.Test.YtpkigkmkolbiiaaK2
import Derived.Test.YtpkigkmkolbiiaaK3
import Derived.Test.YtpkigkmkolbiiaaK10
section
namespace Go.Proofs.Ytpkigkmkolbiiaa.P
open Go.RowKit Go.Proofs.YtpkigkmkolbiiaaW.PrintWords Go.Proofs.YtpkigkmkolbiiaaW.PrintLast Go.Proofs.YtpkigkmkolbiiaaW.PrintMore Go.Proofs.Ytpkigkmkolbiiaa.G
attribute [local go_sem] max2_int min2_int max_two min_two max_three min_three max_four min_four   -- for this text's walks alone
set_option linter.unusedVariables false
set_option linter.unusedSimpArgs false

/-! ### foretellkeep_FairRound: function 6 -/
def foretellkeep_FairRound.l0 : Nat → Int → Int → Int → List (S45) → Int → List (List Int) → List Int → Int → Option (Bool)
 | 0, _, _, _, _, _, _, _, _ => none
 | k + 1, x5, x6, x8, x285000, x285001, x285002, x285003, x285004 => if x8 < x5 then (if x8 < x6 then (if 0 ≤ x8 then (if x5 < x6 then (if x8 = (wrap64 (x5 - 1)) then (if 0 ≤ x6 then (if x285000.length < 8796093022208 then (if x5 = 0 then (none) else (if x285002.length < 5864062014805 then (if x285003.length < 17592186044416 then (foretellkeep_FairRound.l0 k x5 x6 (wrap64 (x8 + 1)) (x285000 ++ [(⟨x8, 0⟩ : S45)]) x285001 (x285002 ++ [(([Int.tmod (wrap64 (x8 + 1)) x5] : List Int))]) (x285003 ++ [wrap64 ((shl .i64 1 x6) - 1)]) x285004) else (none)) else (none))) else (none)) else (none)) else (if x285000.length < 8796093022208 then (if x5 = 0 then (none) else (if x285002.length < 5864062014805 then (if x285003.length < 17592186044416 then (foretellkeep_FairRound.l0 k x5 x6 (wrap64 (x8 + 1)) (x285000 ++ [(⟨x8, 0⟩ : S45)]) x285001 (x285002 ++ [(([Int.tmod (wrap64 (x8 + 1)) x5] : List Int))]) (x285003 ++ [shl .i64 1 x8]) x285004) else (none)) else (none))) else (none))) else (if x285000.length < 8796093022208 then (if x5 = 0 then (none) else (if x285002.length < 5864062014805 then (if x285003.length < 17592186044416 then (foretellkeep_FairRound.l0 k x5 x6 (wrap64 (x8 + 1)) (x285000 ++ [(⟨x8, 0⟩ : S45)]) x285001 (x285002 ++ [(([Int.tmod (wrap64 (x8 + 1)) x5] : List Int))]) (x285003 ++ [shl .i64 1 x8]) x285004) else (none)) else (none))) else (none))) else (none)) else (if x5 < x6 then (if x8 = (wrap64 (x5 - 1)) then (if 0 ≤ x6 then (if x285000.length < 8796093022208 then (if x5 = 0 then (none) else (if x285002.length < 5864062014805 then (if x285003.length < 17592186044416 then (foretellkeep_FairRound.l0 k x5 x6 (wrap64 (x8 + 1)) (x285000 ++ [(⟨x8, 0⟩ : S45)]) x285001 (x285002 ++ [(([Int.tmod (wrap64 (x8 + 1)) x5] : List Int))]) (x285003 ++ [wrap64 ((shl .i64 1 x6) - 1)]) x285004) else (none)) else (none))) else (none)) else (none)) else (if x285000.length < 8796093022208 then (if x5 = 0 then (none) else (if x285002.length < 5864062014805 then (if x285003.length < 17592186044416 then (foretellkeep_FairRound.l0 k x5 x6 (wrap64 (x8 + 1)) (x285000 ++ [(⟨x8, 0⟩ : S45)]) x285001 (x285002 ++ [(([Int.tmod (wrap64 (x8 + 1)) x5] : List Int))]) (x285003 ++ [0]) x285004) else (none)) else (none))) else (none))) else (if x285000.length < 8796093022208 then (if x5 = 0 then (none) else (if x285002.length < 5864062014805 then (if x285003.length < 17592186044416 then (foretellkeep_FairRound.l0 k x5 x6 (wrap64 (x8 + 1)) (x285000 ++ [(⟨x8, 0⟩ : S45)]) x285001 (x285002 ++ [(([Int.tmod (wrap64 (x8 + 1)) x5] : List Int))]) (x285003 ++ [0]) x285004) else (none)) else (none))) else (none)))) else ((scc_Fair.f k x285000 x285001 x285002 x285003 x285004).bind fun bt285 => (if 0 ≤ (wrap64 (x5 - 1)) then (if (wrap64 (x5 - 1)) < (x285002.length : Int) then ((scc_Fair.f k x285000 x285001 (x285002.set ((wrap64 (x5 - 1)) : Int).toNat ([] : List Int)) x285003 x285004).bind fun bt288 => (if bt285.2 = 0 then (if bt285.1 = 0 then (some (bt288.2 == 11)) else (some false)) else (some false))) else (none)) else (none)))
def foretellkeep_FairRound.f (k : Nat) (a0 : Int) (a1 : Int) : Option (Bool) := (foretellkeep_picked.f a0 10).bind fun t282 => ((foretellkeep_picked.f a1 4).bind fun t283 => (foretellkeep_FairRound.l0 k (wrap64 (1 + t282)) t283 0 ([] : List (S45)) 1 ([] : List (List Int)) ([] : List Int) t283))
theorem foretellkeep_FairRound.mono_l : ∀ k, (∀ y0 y1 y2 y3 y4 y5 y6 y7, LeO (foretellkeep_FairRound.l0 k y0 y1 y2 y3 y4 y5 y6 y7) (foretellkeep_FairRound.l0 (k + 1) y0 y1 y2 y3 y4 y5 y6 y7))
 | 0 => fun _ _ _ _ _ _ _ _ r h => by simp [foretellkeep_FairRound.l0] at h
 | k + 1 => by
  have ih0 := foretellkeep_FairRound.mono_l k
  ·
   intro y0 y1 y2 y3 y4 y5 y6 y7
   unfold foretellkeep_FairRound.l0
   repeat' first
   | (with_reducible exact ih0 _ _ _ _ _ _ _ _)
   | (with_reducible exact scc_Fair.mono _ _ _ _ _ _)
   | (with_reducible exact LeO.refl _)
   | (with_reducible exact LeO.none _)
   | (with_reducible refine LeO.ite ?_ ?_)
   | (with_reducible refine LeO.bind ?_ (fun _ => ?_))
   | exact ih0 _ _ _ _ _ _ _ _
   | exact scc_Fair.mono _ _ _ _ _ _
   | exact LeO.none _
   | refine LeO.ite ?_ ?_
   | refine LeO.bind ?_ (fun _ => ?_)
theorem foretellkeep_FairRound.mono : ∀ a0 a1 k, LeO (foretellkeep_FairRound.f k a0 a1) (foretellkeep_FairRound.f (k + 1) a0 a1) := by
 intro a0 a1 k
 have ih0 := foretellkeep_FairRound.mono_l k
 unfold foretellkeep_FairRound.f
 repeat' first
   | (with_reducible exact ih0 _ _ _ _ _ _ _ _)
   | (with_reducible exact scc_Fair.mono _ _ _ _ _ _)
   | (with_reducible exact LeO.refl _)
   | (with_reducible exact LeO.none _)
   | (with_reducible refine LeO.ite ?_ ?_)
   | (with_reducible refine LeO.bind ?_ (fun _ => ?_))
   | exact ih0 _ _ _ _ _ _ _ _
   | exact scc_Fair.mono _ _ _ _ _ _
   | exact LeO.none _
   | refine LeO.ite ?_ ?_
   | refine LeO.bind ?_ (fun _ => ?_)
def foretellkeep_FairRound.T13 : Bool × List (List Nat × List Nat) := (true, [([], []), ([0], [0]), ([], []), ([2], [2]), ([], []), ([3, 4], [3, 4]), ([5], [5]), ([6], [6]), ([1, 7], [1, 7]), ([0, 1, 2, 3, 4, 5, 6, 7, 8], []), ([9, 8, 8, 0, 1, 2, 3, 4, 5, 6, 7, 8], [8, 9])])
def foretellkeep_FairRound.B13 : List Nat := [0, 1, 0, 4, 0, 28, 60, 124, 255, 511, 1023]
theorem foretellkeep_FairRound.tab13 : rtab .any (opsOf Try.f6 13) = foretellkeep_FairRound.T13 := by kernel_rfl
theorem foretellkeep_FairRound.bits13 : waitsOk foretellkeep_FairRound.T13.2 foretellkeep_FairRound.B13 = true := by kernel_rfl
set_option maxHeartbeats 8000000 in
set_option maxRecDepth 100000 in
theorem foretellkeep_FairRound.calls (k : Nat) (a0 : Int) (a1 : Int) (r : Bool) (w : World) (hr_ : Aside0 (r = true)) (h : foretellkeep_FairRound.f k a0 a1 = some r) :
  Calls Try.prog 6 #[.int .i64 a0, .int .i64 a1] w fun e w' => e = .returned (.bool r) ∧ Below w.heap.size w w' := by
 have hu28 := Try.underlying28
 have hu45 := Try.underlying45
 have HB := Aside0.mk (Below.refl w.heap.size w)
 have H : ((foretellkeep_picked.f a0 10).bind fun t282 => ((foretellkeep_picked.f a1 4).bind fun t283 => (foretellkeep_FairRound.l0 k (wrap64 (1 + t282)) t283 0 ([] : List (S45)) 1 ([] : List (List Int)) ([] : List Int) t283))) = some r := h
 clear h
 replace H := Option.bind_eq_some_iff.mp H
 obtain ⟨t282, A30, H⟩ := H
 replace H : ((foretellkeep_picked.f a1 4).bind fun t283 => (foretellkeep_FairRound.l0 k (wrap64 (1 + t282)) t283 0 ([] : List (S45)) 1 ([] : List (List Int)) ([] : List Int) t283)) = some r := H
 have A3 := Aside0.mk A30
 clear A30
 replace H := Option.bind_eq_some_iff.mp H
 obtain ⟨t283, A40, H⟩ := H
 replace H : (foretellkeep_FairRound.l0 k (wrap64 (1 + t282)) t283 0 ([] : List (S45)) 1 ([] : List (List Int)) ([] : List Int) t283) = some r := H
 have A4 := Aside0.mk A40
 clear A40
 have H' := Aside0.mk H
 clear H
 go_enter Try.func6, Try.ntmps6
 go_wp2_with (first | ((with_reducible refine gate_callee (f := 14) rfl ?_); refine goesL_ (some 15) rfl rfl Try.func14 (by kernel_rfl) rfl #[.int .i64 a0, .int .i64 10] rfl (by (try simp only [List.map_toArray, List.map_cons, List.map_nil]); first | done | rfl | (simp only [List.length_drop, List.length_take]; rfl)) ?_; (with_reducible refine (foretellkeep_picked.calls a0 10 t282 _ A3.out).mono ?_); rintro e w' ⟨rfl, ⟨nd, rfl⟩⟩; refine ⟨_, rfl, ?_⟩) | ((with_reducible refine gate_callee (f := 14) rfl ?_); refine goesL_ (some 18) rfl rfl Try.func14 (by kernel_rfl) rfl #[.int .i64 a1, .int .i64 4] rfl (by (try simp only [List.map_toArray, List.map_cons, List.map_nil]); first | done | rfl | (simp only [List.length_drop, List.length_take]; rfl)) ?_; (with_reducible refine (foretellkeep_picked.calls a1 4 t283 _ A4.out).mono ?_); rintro e w' ⟨rfl, ⟨nd, rfl⟩⟩; refine ⟨_, rfl, ?_⟩) | ((with_reducible refine gate_dst (N := 7) rfl ?_); refine box_event ?hg (N := 7) ?hd (cs := #[.slice none 0 0, .int .i64 0, .slice none 0 0, .slice none 0 0, .int .i64 0]) (t := 28) ?hr ?_; (case hd => rfl); (case hg => rfl); (case hr => first | (go_simp; done) | (go_simp; rfl)); intro gb284 hg w5 hbox hb; have n0_ := Aside0.mk (below_step (by repeat (first | (with_reducible first | exact HB.out | apply below_alloc | apply pw_below_drewN | apply below_drew1) | exact HB.out)) hb); have n1_ := Aside0.mk (hbox); have n2_ := Aside0.mk ((by rw [hg]; exact (below_size (by repeat (first | (with_reducible first | exact HB.out | apply below_alloc | apply pw_below_drewN | apply below_drew1) | exact HB.out))) : w.heap.size ≤ gb284)); have n3_ := Aside0.mk ((by rw [hg]; exact (below_size (by repeat (first | (with_reducible first | exact HB.out | apply below_alloc | apply pw_below_drewN | apply below_drew1) | exact HB.out))) : w.heap.size ≤ gb284)); clear HB; have HB := n0_; have BK284 := n1_; have GW284 := n2_; have GE284 := n3_; clear n0_ n1_ n2_ n3_; clear hb hbox hg; have hcz6_0 : w5.cell? ⟨gb284, 0, none⟩ = some (.slice none 0 0) := (blk_cell BK284.out 0).trans rfl; have hcz6_1 : w5.cell? ⟨gb284, 1, none⟩ = some (.int .i64 0) := (blk_cell BK284.out 1).trans rfl; have hcz6_2 : w5.cell? ⟨gb284, 2, none⟩ = some (.slice none 0 0) := (blk_cell BK284.out 2).trans rfl; have hcz6_3 : w5.cell? ⟨gb284, 3, none⟩ = some (.slice none 0 0) := (blk_cell BK284.out 3).trans rfl; have hcz6_4 : w5.cell? ⟨gb284, 4, none⟩ = some (.int .i64 0) := (blk_cell BK284.out 4).trans rfl; have hfz6_0 := blk_frozen BK284.out 0; have hfz6_1 := blk_frozen BK284.out 1; have hfz6_2 := blk_frozen BK284.out 2; have hfz6_3 := blk_frozen BK284.out 3; have hfz6_4 := blk_frozen BK284.out 4))
 go_loopg [8] k (fun kq v8 w' => ∃ (x8_1 : Int) (x285000_1 : List (S45)) (x285002_1 : List (List Int)) (x285003_1 : List Int) (u285000 : Value) (u285002 : Value) (u285003 : Value), v8 = .int .i64 x8_1 ∧ Aside0 (foretellkeep_FairRound.l0 kq (wrap64 (1 + t282)) t283 x8_1 x285000_1 1 x285002_1 x285003_1 t283 = some r) ∧ Aside0 (kq ≤ k) ∧ Aside0 (Kd.R k45 45 w' w.heap.size (fun _ => True) u285000 x285000_1) ∧ Aside0 (Kd.S (Kd.slice 3 (Kd.int .i64)) 23 w' w.heap.size (fun k_ => some k_ ≠ (u285003 : Value).ownBlock) u285002 x285002_1) ∧ Aside0 (Kd.R (Kd.int .i64) 3 w' w.heap.size (fun _ => True) u285003 x285003_1) ∧ Aside0 (w'.heap[gb284]? = some (.cells #[u285000, .int .i64 1, u285002, u285003, .int .i64 t283] 28 (0, 0))) ∧ Aside0 (Below w.heap.size w w'))
 case atStart => exact ⟨(0), (([] : List (S45))), (([] : List (List Int))), (([] : List Int)), (.slice none 0 0), (.slice none 0 0), (.slice none 0 0), (by first | rfl | (simp; done) | (simp [*]; done)), H', ⟨Nat.le_refl _⟩, ⟨by first | exact Kd.R_nil _ _ _ _ _ | exact Kd.N_nil _ _ _ _ _ | exact Kd.V_nil _ _ _ _ _ | exact Kd.Q_nil _ _ _ _ _ | exact Kd.S_nil _ _ _ _ _⟩, ⟨by first | exact Kd.S_nil _ _ _ _ _ | exact Kd.N_nil _ _ _ _ _ | exact Kd.V_nil _ _ _ _ _ | exact Kd.Q_nil _ _ _ _ _ | exact Kd.R_nil _ _ _ _ _⟩, ⟨by first | exact Kd.R_nil _ _ _ _ _ | exact Kd.N_nil _ _ _ _ _ | exact Kd.V_nil _ _ _ _ _ | exact Kd.Q_nil _ _ _ _ _ | exact Kd.S_nil _ _ _ _ _⟩, ⟨by (with_reducible repeat (first | refine blk_drewN ?_ _ | refine blk_drew ?_ | refine blk_alloc ?_ _)); refine blk_put (cs := #[.slice none 0 0, .int .i64 1, .slice none 0 0, .slice none 0 0, .int .i64 0]) ?_ 4 _ rfl; (with_reducible repeat (first | refine blk_drewN ?_ _ | refine blk_drew ?_ | refine blk_alloc ?_ _)); refine blk_put (cs := #[.slice none 0 0, .int .i64 1, .slice none 0 0, .slice none 0 0, .int .i64 0]) ?_ 3 _ rfl; (with_reducible repeat (first | refine blk_drewN ?_ _ | refine blk_drew ?_ | refine blk_alloc ?_ _)); refine blk_put (cs := #[.slice none 0 0, .int .i64 1, .slice none 0 0, .slice none 0 0, .int .i64 0]) ?_ 2 _ rfl; (with_reducible repeat (first | refine blk_drewN ?_ _ | refine blk_drew ?_ | refine blk_alloc ?_ _)); refine blk_put (cs := #[.slice none 0 0, .int .i64 0, .slice none 0 0, .slice none 0 0, .int .i64 0]) ?_ 1 _ rfl; (with_reducible repeat (first | refine blk_drewN ?_ _ | refine blk_drew ?_ | refine blk_alloc ?_ _)); refine blk_put (cs := #[.slice none 0 0, .int .i64 0, .slice none 0 0, .slice none 0 0, .int .i64 0]) ?_ 0 _ rfl; (with_reducible repeat (first | refine blk_drewN ?_ _ | refine blk_drew ?_ | refine blk_alloc ?_ _)); exact BK284.out⟩, ⟨by repeat (first | (with_reducible first | exact HB.out | apply below_alloc | apply pw_below_drewN | apply below_drew1 | refine below_set ?_ GE284.out) | exact HB.out)⟩⟩
 case round =>
  clear H'
  try clear c1
  try clear p2
  try clear c6
  try clear p6
  try clear hcz6_0
  try clear hcz6_1
  try clear hcz6_2
  try clear hcz6_3
  try clear hcz6_4
  try clear hfz6_0
  try clear hfz6_1
  try clear hfz6_2
  try clear hfz6_3
  try clear hfz6_4
  obtain ⟨x8_1, x285000_1, x285002_1, x285003_1, u285000, u285002, u285003, rfl, HA, HK1, HO_285000, HO_285002, HO_285003, BK284, HB⟩ := hrel
  cases gk with
  | zero => exact absurd HA.out (by simp [foretellkeep_FairRound.l0])
  | succ k1 =>
   have H := HA.out
   clear HA
   simp only [foretellkeep_FairRound.l0] at H
   by_cases c7 : x8_1 < (wrap64 (1 + t282))
   ·
    rw [if_pos c7] at H
    have c7b0 : decide (x8_1 < (wrap64 (1 + t282))) = true := decide_eq_true c7
    clear c7
    by_cases c8 : x8_1 < t283
    ·
     rw [if_pos c8] at H
     have c8b0 : decide (x8_1 < t283) = true := decide_eq_true c8
     clear c8
     by_cases c9 : 0 ≤ x8_1
     ·
      rw [if_pos c9] at H
      have c9b0 := eq_true c9
      have c9b1 : decide (0 ≤ x8_1) = true := decide_eq_true c9
      clear c9
      obtain ⟨ji10, hji10⟩ : ∃ j_ : Int, (shl .i64 1 x8_1) = j_ := ⟨_, rfl⟩
      replace H : (if (wrap64 (1 + t282)) < t283 then (if x8_1 = (wrap64 ((wrap64 (1 + t282)) - 1)) then (if 0 ≤ t283 then (if x285000_1.length < 8796093022208 then (if (wrap64 (1 + t282)) = 0 then (none) else (if x285002_1.length < 5864062014805 then (if x285003_1.length < 17592186044416 then (foretellkeep_FairRound.l0 k1 (wrap64 (1 + t282)) t283 (wrap64 (x8_1 + 1)) (x285000_1 ++ [(⟨x8_1, 0⟩ : S45)]) 1 (x285002_1 ++ [(([Int.tmod (wrap64 (x8_1 + 1)) (wrap64 (1 + t282))] : List Int))]) (x285003_1 ++ [wrap64 ((shl .i64 1 t283) - 1)]) t283) else (none)) else (none))) else (none)) else (none)) else (if x285000_1.length < 8796093022208 then (if (wrap64 (1 + t282)) = 0 then (none) else (if x285002_1.length < 5864062014805 then (if x285003_1.length < 17592186044416 then (foretellkeep_FairRound.l0 k1 (wrap64 (1 + t282)) t283 (wrap64 (x8_1 + 1)) (x285000_1 ++ [(⟨x8_1, 0⟩ : S45)]) 1 (x285002_1 ++ [(([Int.tmod (wrap64 (x8_1 + 1)) (wrap64 (1 + t282))] : List Int))]) (x285003_1 ++ [ji10]) t283) else (none)) else (none))) else (none))) else (if x285000_1.length < 8796093022208 then (if (wrap64 (1 + t282)) = 0 then (none) else (if x285002_1.length < 5864062014805 then (if x285003_1.length < 17592186044416 then (foretellkeep_FairRound.l0 k1 (wrap64 (1 + t282)) t283 (wrap64 (x8_1 + 1)) (x285000_1 ++ [(⟨x8_1, 0⟩ : S45)]) 1 (x285002_1 ++ [(([Int.tmod (wrap64 (x8_1 + 1)) (wrap64 (1 + t282))] : List Int))]) (x285003_1 ++ [ji10]) t283) else (none)) else (none))) else (none))) = some r := by first | (rw [hji10] at H; exact H) | (simp only [hji10] at H ⊢; exact H)
      have hji10_ : (IntKind.i64.wrap (1 * 2 ^ min x8_1.toNat 64)) = ji10 := hji10
      have hji10z : x8_1 ≤ 64 → (IntKind.i64.wrap (1 * 2 ^ x8_1.toNat)) = ji10 := shl_small hji10
      have hji10u : (IntKind.i64.wrap (2 ^ min x8_1.toNat 64)) = ji10 := by have h_ := hji10_; rw [Int.one_mul] at h_; exact h_
      have hji10v : x8_1 ≤ 64 → (IntKind.i64.wrap (2 ^ x8_1.toNat)) = ji10 := fun hle_ => by have h_ := hji10z hle_; rw [Int.one_mul] at h_; exact h_
      have hji10y : (wrap64 (1 * 2 ^ min x8_1.toNat 64)) = ji10 := (i64_w _).symm.trans hji10_
      have hji10x : x8_1 ≤ 64 → (wrap64 (1 * 2 ^ x8_1.toNat)) = ji10 := fun h_ => (i64_w _).symm.trans (hji10z h_)
      by_cases c11 : (wrap64 (1 + t282)) < t283
      ·
       rw [if_pos c11] at H
       have c11b0 : decide ((wrap64 (1 + t282)) < t283) = true := decide_eq_true c11
       clear c11
       by_cases c12 : x8_1 = (wrap64 ((wrap64 (1 + t282)) - 1))
       ·
        rw [if_pos c12] at H
        have c12b0 : (x8_1 == (wrap64 ((wrap64 (1 + t282)) - 1))) = true := beq_iff_eq.mpr c12
        have c12b1 : (x8_1 != (wrap64 ((wrap64 (1 + t282)) - 1))) = false := bne_eq_false_iff_eq.mpr c12
        clear c12
        by_cases c13 : 0 ≤ t283
        ·
         rw [if_pos c13] at H
         have c13b0 := eq_true c13
         have c13b1 : decide (0 ≤ t283) = true := decide_eq_true c13
         clear c13
         obtain ⟨ji14, hji14⟩ : ∃ j_ : Int, (shl .i64 1 t283) = j_ := ⟨_, rfl⟩
         replace H : (if x285000_1.length < 8796093022208 then (if (wrap64 (1 + t282)) = 0 then (none) else (if x285002_1.length < 5864062014805 then (if x285003_1.length < 17592186044416 then (foretellkeep_FairRound.l0 k1 (wrap64 (1 + t282)) t283 (wrap64 (x8_1 + 1)) (x285000_1 ++ [(⟨x8_1, 0⟩ : S45)]) 1 (x285002_1 ++ [(([Int.tmod (wrap64 (x8_1 + 1)) (wrap64 (1 + t282))] : List Int))]) (x285003_1 ++ [wrap64 ((ji14) - 1)]) t283) else (none)) else (none))) else (none)) = some r := by first | (rw [hji14] at H; exact H) | (simp only [hji14] at H ⊢; exact H)
         have hji14_ : (IntKind.i64.wrap (1 * 2 ^ min t283.toNat 64)) = ji14 := hji14
         have hji14z : t283 ≤ 64 → (IntKind.i64.wrap (1 * 2 ^ t283.toNat)) = ji14 := shl_small hji14
         have hji14u : (IntKind.i64.wrap (2 ^ min t283.toNat 64)) = ji14 := by have h_ := hji14_; rw [Int.one_mul] at h_; exact h_
         have hji14v : t283 ≤ 64 → (IntKind.i64.wrap (2 ^ t283.toNat)) = ji14 := fun hle_ => by have h_ := hji14z hle_; rw [Int.one_mul] at h_; exact h_
         have hji14y : (wrap64 (1 * 2 ^ min t283.toNat 64)) = ji14 := (i64_w _).symm.trans hji14_
         have hji14x : t283 ≤ 64 → (wrap64 (1 * 2 ^ t283.toNat)) = ji14 := fun h_ => (i64_w _).symm.trans (hji14z h_)
         by_cases c15 : x285000_1.length < 8796093022208
         ·
          rw [if_pos c15] at H
          have LMc15 := Aside0.mk c15
          clear c15
          obtain ⟨y290, hy290⟩ : ∃ y_ : List (S45), y_ = (x285000_1 ++ [(⟨x8_1, 0⟩ : S45)]) := ⟨_, rfl⟩
          replace H : (if (wrap64 (1 + t282)) = 0 then (none) else (if x285002_1.length < 5864062014805 then (if x285003_1.length < 17592186044416 then (foretellkeep_FairRound.l0 k1 (wrap64 (1 + t282)) t283 (wrap64 (x8_1 + 1)) y290 1 (x285002_1 ++ [(([Int.tmod (wrap64 (x8_1 + 1)) (wrap64 (1 + t282))] : List Int))]) (x285003_1 ++ [wrap64 ((ji14) - 1)]) t283) else (none)) else (none))) = some r := by first | (rw [hy290]; with_reducible exact H) | (have H2_ := (Option.bind_some _ _).symm.trans H; rw [hy290]; with_reducible exact H2_) | (have H2_ := (Option.bind_some _ _).symm.trans H; with_reducible exact H2_) | with_reducible exact H | (rw [hy290]; exact H) | exact H
          have Ny290 := Aside0.mk hy290
          clear hy290
          by_cases c16 : (wrap64 (1 + t282)) = 0
          ·
           rw [if_pos c16] at H
           exact absurd H (by simp)
          ·
           rw [if_neg c16] at H
           have c16b0 : ((wrap64 (1 + t282)) == 0) = false := beq_eq_false_iff_ne.mpr c16
           have c16b1 : ((wrap64 (1 + t282)) != 0) = true := bne_iff_ne.mpr c16
           obtain ⟨y293, hy293⟩ : ∃ y_ : List Int, y_ = (([Int.tmod (wrap64 (x8_1 + 1)) (wrap64 (1 + t282))] : List Int)) := ⟨_, rfl⟩
           replace H : (if x285002_1.length < 5864062014805 then (if x285003_1.length < 17592186044416 then (foretellkeep_FairRound.l0 k1 (wrap64 (1 + t282)) t283 (wrap64 (x8_1 + 1)) y290 1 (x285002_1 ++ [y293]) (x285003_1 ++ [wrap64 ((ji14) - 1)]) t283) else (none)) else (none)) = some r := by first | (rw [hy293]; with_reducible exact H) | (have H2_ := (Option.bind_some _ _).symm.trans H; rw [hy293]; with_reducible exact H2_) | (have H2_ := (Option.bind_some _ _).symm.trans H; with_reducible exact H2_) | with_reducible exact H | (rw [hy293]; exact H) | exact H
           have Ny293 := Aside0.mk hy293
           clear hy293
           by_cases c17 : x285002_1.length < 5864062014805
           ·
            rw [if_pos c17] at H
            have LMc17 := Aside0.mk c17
            clear c17
            obtain ⟨y296, hy296⟩ : ∃ y_ : List (List Int), y_ = (x285002_1 ++ [y293]) := ⟨_, rfl⟩
            replace H : (if x285003_1.length < 17592186044416 then (foretellkeep_FairRound.l0 k1 (wrap64 (1 + t282)) t283 (wrap64 (x8_1 + 1)) y290 1 y296 (x285003_1 ++ [wrap64 ((ji14) - 1)]) t283) else (none)) = some r := by first | (rw [hy296]; with_reducible exact H) | (have H2_ := (Option.bind_some _ _).symm.trans H; rw [hy296]; with_reducible exact H2_) | (have H2_ := (Option.bind_some _ _).symm.trans H; with_reducible exact H2_) | with_reducible exact H | (rw [hy296]; exact H) | exact H
            have Ny296 := Aside0.mk hy296
            clear hy296
            by_cases c18 : x285003_1.length < 17592186044416
            ·
             rw [if_pos c18] at H
             have LMc18 := Aside0.mk c18
             clear c18
             obtain ⟨y299, hy299⟩ : ∃ y_ : List Int, y_ = (x285003_1 ++ [wrap64 ((ji14) - 1)]) := ⟨_, rfl⟩
             replace H : (foretellkeep_FairRound.l0 k1 (wrap64 (1 + t282)) t283 (wrap64 (x8_1 + 1)) y290 1 y296 y299 t283) = some r := by first | (rw [hy299]; with_reducible exact H) | (have H2_ := (Option.bind_some _ _).symm.trans H; rw [hy299]; with_reducible exact H2_) | (have H2_ := (Option.bind_some _ _).symm.trans H; with_reducible exact H2_) | with_reducible exact H | (rw [hy299]; exact H) | exact H
             have Ny299 := Aside0.mk hy299
             clear hy299
             have H' := Aside0.mk H
             clear H
             have hcz19_0 : wr.cell? ⟨gb284, 0, none⟩ = some (u285000) := (blk_cell BK284.out 0).trans rfl
             have hcz19_1 : wr.cell? ⟨gb284, 1, none⟩ = some (.int .i64 1) := (blk_cell BK284.out 1).trans rfl
             have hcz19_2 : wr.cell? ⟨gb284, 2, none⟩ = some (u285002) := (blk_cell BK284.out 2).trans rfl
             have hcz19_3 : wr.cell? ⟨gb284, 3, none⟩ = some (u285003) := (blk_cell BK284.out 3).trans rfl
             have hcz19_4 : wr.cell? ⟨gb284, 4, none⟩ = some (.int .i64 t283) := (blk_cell BK284.out 4).trans rfl
             have hfz19_0 := blk_frozen BK284.out 0
             have hfz19_1 := blk_frozen BK284.out 1
             have hfz19_2 := blk_frozen BK284.out 2
             have hfz19_3 := blk_frozen BK284.out 3
             have hfz19_4 := blk_frozen BK284.out 4
             try go_wp2_with (first | ((with_reducible refine gate_builtin (b := .append) (xs := #[.tmp 44, .tmp 47]) rfl ?_); at_builtin; refine Kd.R_append k45 (w0 := w) w.heap.size rfl (.tmp 44) (.tmp 47) 26 45 (.agg #[(.int .i64 0), (.int .i64 0)]) 16 rfl Try.underlying26 info45 rfl (by decide) (by omega) u285000 x285000_1 (⟨x8_1, 0⟩ : S45) [.int .i64 x8_1, .int .i64 0] (fun _ => True) (fun _ => False) rfl rfl ?aP (fun _ hk => hk.elim) ?aF ?aO ?aB ?aS ?aL ?_; (case aP => exact k45_mkM _ _ _ (⟨x8_1, 0⟩ : S45)); (case aB => exact (by repeat (first | (with_reducible first | exact HB.out | apply below_alloc | apply pw_below_drewN | apply below_drew1 | refine below_set ?_ GE284.out) | exact HB.out))); (case aF => exact (fun _ _ => trivial)); (case aO => exact (by (with_reducible repeat (first | apply Kd.R_alloc | apply Kd.R_drewN | apply Kd.R_drew)); exact HO_285000.out)); (case aS => exact (below_size (by repeat (first | (with_reducible first | exact HB.out | apply below_alloc | apply pw_below_drewN | apply below_drew1 | refine below_set ?_ GE284.out) | exact HB.out)))); (case aL => have := LMc15.out; omega); intro v291 w20 ho hb hg hat; rw [← Ny290.out] at ho; have n0_ := Aside0.mk (Kd.S_over' (by (with_reducible repeat (first | apply Kd.S_alloc | apply Kd.S_drewN | apply Kd.S_drew)); exact HO_285002.out) (Kd.R_typed (by (with_reducible repeat (first | apply Kd.R_alloc | apply Kd.R_drewN | apply Kd.R_drew)); exact HO_285000.out)) (by decide) hg); have n1_ := Aside0.mk (Kd.R_over' (by (with_reducible repeat (first | apply Kd.R_alloc | apply Kd.R_drewN | apply Kd.R_drew)); exact HO_285003.out) (Kd.R_typed (by (with_reducible repeat (first | apply Kd.R_alloc | apply Kd.R_drewN | apply Kd.R_drew)); exact HO_285000.out)) (by decide) hg); have n2_ := Aside0.mk (blk_grown (g := gb284) (o := .cells #[u285000, .int .i64 1, u285002, u285003, .int .i64 t283] 28 (0, 0)) (by (with_reducible repeat (first | refine blk_drewN ?_ _ | refine blk_drew ?_ | refine blk_alloc ?_ _)); exact BK284.out) hg (Kd.R_ne HO_285000.out BK284.out (by decide))); have n3_ := Aside0.mk (hb); have n4_ := Aside0.mk (ho); clear HO_285002; clear HO_285003; clear BK284; clear HB; clear HO_285000; have HO_285002 := n0_; have HO_285003 := n1_; have BK284 := n2_; have HB := n3_; have HO292 := n4_; clear n0_ n1_ n2_ n3_ n4_; clear ho hb hg hat; obtain ⟨Ao21, co21, eo21⟩ := Kd.R_slice HO292.out; subst eo21; have hcz22_0 : w20.cell? ⟨gb284, 0, none⟩ = some (u285000) := (blk_cell BK284.out 0).trans rfl; have hcz22_1 : w20.cell? ⟨gb284, 1, none⟩ = some (.int .i64 1) := (blk_cell BK284.out 1).trans rfl; have hcz22_2 : w20.cell? ⟨gb284, 2, none⟩ = some (u285002) := (blk_cell BK284.out 2).trans rfl; have hcz22_3 : w20.cell? ⟨gb284, 3, none⟩ = some (u285003) := (blk_cell BK284.out 3).trans rfl; have hcz22_4 : w20.cell? ⟨gb284, 4, none⟩ = some (.int .i64 t283) := (blk_cell BK284.out 4).trans rfl; have hfz22_0 := blk_frozen BK284.out 0; have hfz22_1 := blk_frozen BK284.out 1; have hfz22_2 := blk_frozen BK284.out 2; have hfz22_3 := blk_frozen BK284.out 3; have hfz22_4 := blk_frozen BK284.out 4))
             have n0_ : Aside0 (Kd.S (Kd.slice 3 (Kd.int .i64)) 23 (w20.setCell ⟨gb284, 0, none⟩ (.slice Ao21 y290.length co21)) w.heap.size (fun k_ => some k_ ≠ (u285003 : Value).ownBlock) u285002 x285002_1) := ⟨by (with_reducible repeat (first | apply Kd.S_alloc | apply Kd.S_drewN | apply Kd.S_drew)); exact Kd.S_mono (Kd.S_far (p := ⟨gb284, 0, none⟩) (Kd.S_types HO_285002.out BK284.out (by decide)) (fun _ hk => hk.2) (.slice Ao21 y290.length co21)) (fun _ hk => hk.1)⟩
             have n1_ : Aside0 (Kd.R (Kd.int .i64) 3 (w20.setCell ⟨gb284, 0, none⟩ (.slice Ao21 y290.length co21)) w.heap.size (fun _ => True) u285003 x285003_1) := ⟨by (with_reducible repeat (first | apply Kd.R_alloc | apply Kd.R_drewN | apply Kd.R_drew)); exact Kd.R_mono (Kd.R_far (p := ⟨gb284, 0, none⟩) (Kd.R_types HO_285003.out BK284.out (by decide)) (fun _ hk => hk.2) (.slice Ao21 y290.length co21)) (fun _ hk => trivial)⟩
             have n2_ : Aside0 (Kd.R k45 45 (w20.setCell ⟨gb284, 0, none⟩ (.slice Ao21 y290.length co21)) w.heap.size (fun _ => True) (.slice Ao21 y290.length co21) y290) := ⟨by (with_reducible repeat (first | apply Kd.R_alloc | apply Kd.R_drewN | apply Kd.R_drew)); exact Kd.R_mono (Kd.R_far (p := ⟨gb284, 0, none⟩) (Kd.R_types HO292.out BK284.out (by decide)) (fun _ hk => hk.2) (.slice Ao21 y290.length co21)) (fun _ hk => trivial)⟩
             have n3_ : Aside0 ((w20.setCell ⟨gb284, 0, none⟩ (.slice Ao21 y290.length co21)).heap[gb284]? = some (.cells #[.slice Ao21 y290.length co21, .int .i64 1, u285002, u285003, .int .i64 t283] 28 (0, 0))) := ⟨by (with_reducible repeat (first | refine blk_drewN ?_ _ | refine blk_drew ?_ | refine blk_alloc ?_ _)); refine blk_put (cs := #[u285000, .int .i64 1, u285002, u285003, .int .i64 t283]) ?_ 0 _ rfl; (with_reducible repeat (first | refine blk_drewN ?_ _ | refine blk_drew ?_ | refine blk_alloc ?_ _)); exact BK284.out⟩
             have n4_ : Aside0 (Below w.heap.size w (w20.setCell ⟨gb284, 0, none⟩ (.slice Ao21 y290.length co21))) := ⟨by repeat (first | (with_reducible first | exact HB.out | apply below_alloc | apply pw_below_drewN | apply below_drew1 | refine below_set ?_ GE284.out) | exact HB.out)⟩
             (try clear HO_285002)
             (try clear HO_285003)
             (try clear HO292)
             (try clear BK284)
             (try clear HB)
             generalize (w20.setCell ⟨gb284, 0, none⟩ (.slice Ao21 y290.length co21)) = w23 at n0_ n1_ n2_ n3_ n4_ ⊢
             have HO_285002 := n0_
             have HO_285003 := n1_
             have HO292 := n2_
             have BK284 := n3_
             have HB := n4_
             clear n0_ n1_ n2_ n3_ n4_
             have n0_ := Aside0.mk (Kd.S_drew HO_285002.out)
             have n1_ := Aside0.mk (Kd.R_drew HO_285003.out)
             have n2_ := Aside0.mk (Kd.R_drew HO292.out)
             have n3_ := Aside0.mk (blk_drew BK284.out)
             have n4_ := Aside0.mk (below_drew1 HB.out)
             clear HO_285002
             clear HO_285003
             clear HO292
             clear BK284
             clear HB
             have HO_285002 := n0_
             have HO_285003 := n1_
             have HO292 := n2_
             have BK284 := n3_
             have HB := n4_
             clear n0_ n1_ n2_ n3_ n4_
             refine start_ (n := 11) (S := fun w' => w'.cell? ⟨gb284, 0, none⟩ = some (.slice Ao21 y290.length co21) ∧ w'.cell? ⟨gb284, 1, none⟩ = some (.int .i64 1) ∧ w'.cell? ⟨gb284, 2, none⟩ = some (u285002) ∧ w'.cell? ⟨gb284, 3, none⟩ = some (u285003) ∧ w'.cell? ⟨gb284, 4, none⟩ = some (.int .i64 t283)) (ds := [10]) #[false, false, false, false, false, false, false, false, false, false, false] (by kernel_rfl) rfl rfl ⟨(blk_cell BK284.out 0).trans rfl, (blk_cell BK284.out 1).trans rfl, (blk_cell BK284.out 2).trans rfl, (blk_cell BK284.out 3).trans rfl, (blk_cell BK284.out 4).trans rfl⟩ (fun hHeld => ?_); refine with_tabW foretellkeep_FairRound.tab13 foretellkeep_FairRound.bits13 (fun HT_ HW_ => ?_)
             generalize w23.drew = w24 at HO_285002 HO_285003 HO292 BK284 HB hHeld ⊢
             refine pure_ (i := 0) (N := some 50) (v := ?_) (a' := ?_) #[true, false, false, false, false, false, false, false, false, false, false] rfl rfl (any_of HT_.out (by kernel_rfl)) (fun _ _ _ h => h) (Or.inl ⟨by rfl, ?_⟩) ?_ ?_
             rotate_left
             ·
              intro w'
              go_simp
              with_reducible rfl
             rotate_left
             ·
              simp only [Act.put, List.setIfInBounds_toArray, List.set_cons_zero, List.set_cons_succ, i64_w, i32_w]
              rfl
             refine pure_ (i := 2) (N := some 52) (v := ?_) (a' := ?_) #[true, false, true, false, false, false, false, false, false, false, false] rfl rfl (any_of HT_.out (by kernel_rfl)) (fun _ _ _ h => h) (Or.inl ⟨by rfl, ?_⟩) ?_ ?_
             rotate_left
             ·
              intro w'
              go_simp
              with_reducible rfl
             rotate_left
             ·
              simp only [Act.put, List.setIfInBounds_toArray, List.set_cons_zero, List.set_cons_succ, i64_w, i32_w]
              rfl
             refine pure_ (i := 3) (N := some 53) (v := ?_) (a' := ?_) #[true, false, true, true, false, false, false, false, false, false, false] rfl rfl (any_of HT_.out (by kernel_rfl)) (fun _ _ _ h => h) (Or.inl ⟨by rfl, ?_⟩) ?_ ?_
             rotate_left
             ·
              intro w'
              go_simp
              with_reducible rfl
             rotate_left
             ·
              simp only [Act.put, List.setIfInBounds_toArray, List.set_cons_zero, List.set_cons_succ, i64_w, i32_w]
              rfl
             refine pure_ (i := 4) (N := some 54) (v := ?_) (a' := ?_) #[true, false, true, true, true, false, false, false, false, false, false] rfl rfl (any_of HT_.out (by kernel_rfl)) (fun _ _ _ h => h) (Or.inl ⟨by rfl, ?_⟩) ?_ ?_
             rotate_left
             ·
              intro w'
              go_simp
              with_reducible rfl
             rotate_left
             ·
              simp only [Act.put, List.setIfInBounds_toArray, List.set_cons_zero, List.set_cons_succ, i64_w, i32_w]
              rfl
             refine pure_ (i := 5) (N := some 55) (v := ?_) (a' := ?_) #[true, false, true, true, true, true, false, false, false, false, false] rfl rfl (any_of HT_.out (by kernel_rfl)) (fun _ _ _ h => h) (Or.inl ⟨by rfl, ?_⟩) ?_ ?_
             rotate_left
             ·
              intro w'
              go_simp
              with_reducible rfl
             rotate_left
             ·
              simp only [Act.put, List.setIfInBounds_toArray, List.set_cons_zero, List.set_cons_succ, i64_w, i32_w]
              rfl
             refine take_ (i := 1) (N := some 51) (v := ?_) (a' := ?_) #[true, true, true, true, true, true, false, false, false, false, false] rfl rfl (take_ofW HT_.out HW_.out (by kernel_rfl)) (fun _ _ _ h => h) (Or.inl ⟨by rfl, ?_⟩) hHeld ?_ ?_
             rotate_left
             ·
              rintro w' ⟨s0, s1, s2, s3, s4⟩
              go_simp
              with_reducible rfl
             rotate_left
             ·
              simp only [Act.put, List.setIfInBounds_toArray, List.set_cons_zero, List.set_cons_succ, i64_w, i32_w]
              rfl
             refine one_ (i := 6) (N := some 56) #[true, true, true, true, true, true, true, false, false, false, false] rfl rfl (one_of HT_.out (by kernel_rfl)) (by decide) (fun K hK => ?_)
             refine Kd.R_lit_step (Kd.int .i64) _ 3 ?hg (N := 56) ?hd (xs := ([Int.tmod (wrap64 (x8_1 + 1)) (wrap64 (1 + t282))] : List Int)) (inner := [.int .i64 (Int.tmod (wrap64 (x8_1 + 1)) (wrap64 (1 + t282)))]) (ok := fun _ => True) (okp := fun _ => True) ?hr ?hp (fun _ hk => hk) trivial (Below.refl _ _) (Nat.le_refl _) (by simp) ?_; (case hd => rfl); (case hg => rfl); (case hr => first | (go_simp; done) | (go_simp; rfl)); (case hp => exact (Reps.one (show Kd.M (Kd.int .i64) _ _ _ (Int.tmod (wrap64 (x8_1 + 1)) (wrap64 (1 + t282))) [.int .i64 (Int.tmod (wrap64 (x8_1 + 1)) (wrap64 (1 + t282)))] from rfl) (Reps.none _ _)))
             intro v294 w25 ho26 hb hg_ hnew_
             clear hg_ hnew_
             (first | rw [← Ny293.out] at ho26 | (simp only [Int.reduceToNat] at ho26; rw [← Ny293.out] at ho26))
             have n0_ := Aside0.mk (Kd.S_elder' (by (with_reducible repeat (first | apply Kd.S_alloc | apply Kd.S_drewN | apply Kd.S_drew)); exact HO_285002.out) (Kd.R_base ho26) hb)
             have n1_ := Aside0.mk (Kd.R_elder' (by (with_reducible repeat (first | apply Kd.R_alloc | apply Kd.R_drewN | apply Kd.R_drew)); exact HO_285003.out) (Kd.R_base ho26) hb)
             have n2_ := Aside0.mk (Kd.R_below (by (with_reducible repeat (first | apply Kd.R_alloc | apply Kd.R_drewN | apply Kd.R_drew)); exact HO292.out) hb)
             have n3_ := Aside0.mk (Kd.R_lower (Kd.R_new' ho26 (Kd.R_lt (by (with_reducible repeat (first | apply Kd.R_alloc | apply Kd.R_drewN | apply Kd.R_drew)); exact HO_285003.out))) (below_size (by repeat (first | (with_reducible first | exact HB.out | apply below_alloc | apply pw_below_drewN | apply below_drew1 | refine below_set ?_ GE284.out) | exact HB.out))))
             have n4_ := Aside0.mk (blk_below (g := gb284) (o := .cells #[.slice Ao21 y290.length co21, .int .i64 1, u285002, u285003, .int .i64 t283] 28 (0, 0)) (by (with_reducible repeat (first | refine blk_drewN ?_ _ | refine blk_drew ?_ | refine blk_alloc ?_ _)); exact BK284.out) hb)
             have n5_ := Aside0.mk (below_step (by repeat (first | (with_reducible first | exact HB.out | apply below_alloc | apply pw_below_drewN | apply below_drew1 | refine below_set ?_ GE284.out) | exact HB.out)) hb)
             clear HO_285002
             clear HO_285003
             clear HO292
             clear BK284
             clear HB
             have HO_285002 := n0_
             have HO_285003 := n1_
             have HO292 := n2_
             have HO295 := n3_
             have BK284 := n4_
             have HB := n5_
             clear n0_ n1_ n2_ n3_ n4_ n5_
             clear hb ho26
             obtain ⟨Ao28, co28, eo28⟩ := Kd.R_slice HO295.out
             (first | subst eo28 | (injection eo28 with f1_ f2_ f3_; have f4_ := f1_.symm; have f5_ := f3_.symm; clear f1_ f2_ f3_; subst f4_; subst f5_))
             refine hK.out _ _ ⟨(blk_cell BK284.out 0).trans rfl, (blk_cell BK284.out 1).trans rfl, (blk_cell BK284.out 2).trans rfl, (blk_cell BK284.out 3).trans rfl, (blk_cell BK284.out 4).trans rfl⟩ (fun hHeld => ?_)
             clear hK K
             refine norm_ (a' := ?_) ?_ ?_
             rotate_left
             ·
              show Act.put _ (some 56) _ = _
              simp only [Act.put, List.setIfInBounds_toArray, List.set_cons_zero, List.set_cons_succ, i64_w, i32_w]
              rfl
             refine one_ (i := 7) (N := some 57) #[true, true, true, true, true, true, true, true, false, false, false] rfl rfl (one_of HT_.out (by kernel_rfl)) (by decide) (fun K hK => ?_)
             refine value_ (w1 := ?_) (v := ?_) (by rfl) rfl ?_ ?_
             rotate_left 2
             ·
              go_simp
              constructor
              ·
               rfl
              ·
               rfl
             refine hK.out _ _ ⟨(blk_cell (blk_alloc BK284.out _) 0).trans rfl, (blk_cell (blk_alloc BK284.out _) 1).trans rfl, (blk_cell (blk_alloc BK284.out _) 2).trans rfl, (blk_cell (blk_alloc BK284.out _) 3).trans rfl, (blk_cell (blk_alloc BK284.out _) 4).trans rfl⟩ (fun hHeld => ?_)
             clear hK K
             refine norm_ (a' := ?_) ?_ ?_
             rotate_left
             ·
              show Act.put _ (some 57) _ = _
              simp only [Act.put, List.setIfInBounds_toArray, List.set_cons_zero, List.set_cons_succ, i64_w, i32_w]
              rfl
             refine one_ (i := 8) (N := some 58) #[true, true, true, true, true, true, true, true, true, false, false] rfl rfl (one_of HT_.out (by kernel_rfl)) (by decide) (fun K hK => ?_)
             refine Kd.S_append_step (Kd.slice 3 (Kd.int .i64)) (w0 := w) w.heap.size (by rfl) (.tmp 51) (.tmp 57) 22 23 (.slice none 0 0) 24 rfl Try.underlying22 info23 rfl (by decide) (by omega) u285002 x285002_1 y293 [.slice Ao28 y293.length co28] (fun k_ => some k_ ≠ (u285003 : Value).ownBlock) (fun k_ => some k_ = (.slice Ao28 y293.length co28 : Value).ownBlock) rfl rfl ?aP (fun k_ hk_ => ((Kd.R_mono (ok' := fun k_ => ((fun k_ => some k_ ≠ (u285003 : Value).ownBlock)) k_ ∧ some k_ ≠ (u285002 : Value).ownBlock) (Kd.R_apart' (HO295.out) (Kd.S_typed HO_285002.out) (by decide)) (fun k_ hk => ⟨hk.1.2, hk.2⟩))).1 k_ hk_.symm) ?aF ?aO ?aB ?aS ?aL ?_
             (case aP => exact Kd.M_row (Kd.R_mono (Kd.R_tight rfl (Kd.R_mono (ok' := fun k_ => ((fun k_ => some k_ ≠ (u285003 : Value).ownBlock)) k_ ∧ some k_ ≠ (u285002 : Value).ownBlock) (Kd.R_apart' (HO295.out) (Kd.S_typed HO_285002.out) (by decide)) (fun k_ hk => ⟨hk.1.2, hk.2⟩))) (fun _ h_ => h_)))
             (case aB => exact (by repeat (first | (with_reducible first | exact HB.out | apply below_alloc | apply pw_below_drewN | apply below_drew1 | refine below_set ?_ GE284.out) | exact HB.out)))
             (case aF => exact (fun k_ hk => Kd.fresh' (Kd.R_lt (by (with_reducible repeat (first | apply Kd.R_alloc | apply Kd.R_drewN | apply Kd.R_drew)); exact HO_285003.out)) k_ hk))
             (case aO => exact (by (with_reducible repeat (first | apply Kd.S_alloc | apply Kd.S_drewN | apply Kd.S_drew)); exact Kd.S_mono HO_285002.out (fun k_ hk => ⟨hk.1, fun e_ => hk.2 e_⟩)))
             (case aS => exact (below_size (by repeat (first | (with_reducible first | exact HB.out | apply below_alloc | apply pw_below_drewN | apply below_drew1 | refine below_set ?_ GE284.out) | exact HB.out))))
             (case aL => have := LMc17.out; omega)
             intro v297 w27 ho hb hg hat
             rw [← Ny296.out] at ho
             have n0_ := Aside0.mk (Kd.R_over' (by (with_reducible repeat (first | apply Kd.R_alloc | apply Kd.R_drewN | apply Kd.R_drew)); exact HO_285003.out) (Kd.S_typed (by (with_reducible repeat (first | apply Kd.S_alloc | apply Kd.S_drewN | apply Kd.S_drew)); exact HO_285002.out)) (by decide) hg)
             have n1_ := Aside0.mk (blk_grown (g := gb284) (o := .cells #[.slice Ao21 y290.length co21, .int .i64 1, u285002, u285003, .int .i64 t283] 28 (0, 0)) (by (with_reducible repeat (first | refine blk_drewN ?_ _ | refine blk_drew ?_ | refine blk_alloc ?_ _)); exact BK284.out) hg (Kd.S_ne HO_285002.out BK284.out (by decide)))
             have n2_ := Aside0.mk (Kd.R_over' (by (with_reducible repeat (first | apply Kd.R_alloc | apply Kd.R_drewN | apply Kd.R_drew)); exact HO292.out) (Kd.S_typed (by (with_reducible repeat (first | apply Kd.S_alloc | apply Kd.S_drewN | apply Kd.S_drew)); exact HO_285002.out)) (by decide) hg)
             have n3_ := Aside0.mk (hb)
             have n4_ := Aside0.mk (ho)
             clear HO_285003
             clear BK284
             clear HO292
             clear HB
             clear HO_285002
             clear HO295
             have HO_285003 := n0_
             have BK284 := n1_
             have HO292 := n2_
             have HB := n3_
             have HO298 := n4_
             clear n0_ n1_ n2_ n3_ n4_
             clear ho hb hg hat
             obtain ⟨Ao29, co29, eo29⟩ := Kd.S_slice HO298.out
             (first | subst eo29 | (injection eo29 with f1_ f2_ f3_; have f4_ := f1_.symm; have f5_ := f3_.symm; clear f1_ f2_ f3_; subst f4_; subst f5_))
             refine hK.out _ _ ⟨(blk_cell BK284.out 0).trans rfl, (blk_cell BK284.out 1).trans rfl, (blk_cell BK284.out 2).trans rfl, (blk_cell BK284.out 3).trans rfl, (blk_cell BK284.out 4).trans rfl⟩ (fun hHeld => ?_)
             clear hK K
             refine norm_ (a' := ?_) ?_ ?_
             rotate_left
             ·
              show Act.put _ (some 58) _ = _
              simp only [Act.put, List.setIfInBounds_toArray, List.set_cons_zero, List.set_cons_succ, i64_w, i32_w]
              rfl
             refine pure_ (i := 9) (N := some 59) (v := ?_) (a' := ?_) #[true, true, true, true, true, true, true, true, true, true, false] rfl rfl (any_of HT_.out (by kernel_rfl)) (fun _ _ _ h => h) (Or.inl ⟨by rfl, ?_⟩) ?_ ?_
             rotate_left
             ·
              intro w'
              go_simp
              with_reducible rfl
             rotate_left
             ·
              simp only [Act.put, List.setIfInBounds_toArray, List.set_cons_zero, List.set_cons_succ, i64_w, i32_w]
              rfl
             refine last_ (i := 10) (N := none) #[true, true, true, true, true, true, true, true, true, true, true] rfl rfl (one_of HT_.out (by kernel_rfl)) (by decide) (fun K hK => ?_)
             have hs30 : w27.cell? ⟨gb284, 2, none⟩ = some (u285002) := (blk_cell BK284.out 2).trans rfl
             have hfs30 := blk_frozen BK284.out 2
             refine skip_ (w1 := ?_) (by rfl) rfl ?_ ?_
             rotate_left
             ·
              go_simp
              rfl
             refine hK.out _ _ ?_
             clear hK K
             refine done_ (done_of HT_.out (by kernel_rfl)) ?_
             have hcz31_0 : w27.cell? ⟨gb284, 0, none⟩ = some (.slice Ao21 y290.length co21) := (blk_cell BK284.out 0).trans rfl
             have hcz31_1 : w27.cell? ⟨gb284, 1, none⟩ = some (.int .i64 1) := (blk_cell BK284.out 1).trans rfl
             have hcz31_2 : w27.cell? ⟨gb284, 2, none⟩ = some (u285002) := (blk_cell BK284.out 2).trans rfl
             have hcz31_3 : w27.cell? ⟨gb284, 3, none⟩ = some (u285003) := (blk_cell BK284.out 3).trans rfl
             have hcz31_4 : w27.cell? ⟨gb284, 4, none⟩ = some (.int .i64 t283) := (blk_cell BK284.out 4).trans rfl
             have hfz31_0 := blk_frozen BK284.out 0
             have hfz31_1 := blk_frozen BK284.out 1
             have hfz31_2 := blk_frozen BK284.out 2
             have hfz31_3 := blk_frozen BK284.out 3
             have hfz31_4 := blk_frozen BK284.out 4
             try go_wp2_with (first | ((with_reducible refine gate_builtin (b := .append) (xs := #[.tmp 61, .tmp 63]) rfl ?_); at_builtin; refine Kd.R_append (Kd.int .i64) (w0 := w) w.heap.size rfl (.tmp 61) (.tmp 63) 23 3 (.int .i64 0) 8 rfl Try.underlying23 info3 rfl (by decide) (by omega) u285003 x285003_1 (wrap64 ((ji14) - 1)) [.int .i64 (wrap64 ((ji14) - 1))] (fun _ => True) (fun _ => False) rfl (by first | (go_simp; done) | (go_simp; rfl)) ?aP (fun _ hk => hk.elim) ?aF ?aO ?aB ?aS ?aL ?_; (case aP => exact rfl); (case aB => exact (by repeat (first | (with_reducible first | exact HB.out | apply below_alloc | apply pw_below_drewN | apply below_drew1 | refine below_set ?_ GE284.out) | exact HB.out))); (case aF => exact (fun _ _ => trivial)); (case aO => exact (by (with_reducible repeat (first | apply Kd.R_alloc | apply Kd.R_drewN | apply Kd.R_drew)); exact Kd.R_mono (Kd.R_far (p := ⟨gb284, 2, none⟩) (Kd.R_types HO_285003.out BK284.out (by decide)) (fun _ hk => hk.2) (.slice Ao29 y296.length co29)) (fun _ hk => trivial))); (case aS => exact (below_size (by repeat (first | (with_reducible first | exact HB.out | apply below_alloc | apply pw_below_drewN | apply below_drew1 | refine below_set ?_ GE284.out) | exact HB.out)))); (case aL => have := LMc18.out; omega); intro v300 w32 ho hb hg hat; rw [← Ny299.out] at ho; have n0_ := Aside0.mk (blk_grown (g := gb284) (o := .cells #[.slice Ao21 y290.length co21, .int .i64 1, .slice Ao29 y296.length co29, u285003, .int .i64 t283] 28 (0, 0)) (by (with_reducible repeat (first | refine blk_drewN ?_ _ | refine blk_drew ?_ | refine blk_alloc ?_ _)); refine blk_put (cs := #[.slice Ao21 y290.length co21, .int .i64 1, u285002, u285003, .int .i64 t283]) ?_ 2 _ rfl; (with_reducible repeat (first | refine blk_drewN ?_ _ | refine blk_drew ?_ | refine blk_alloc ?_ _)); exact BK284.out) hg (Kd.R_ne HO_285003.out BK284.out (by decide))); have n1_ := Aside0.mk (Kd.R_over' (by (with_reducible repeat (first | apply Kd.R_alloc | apply Kd.R_drewN | apply Kd.R_drew)); exact (Kd.R_mono (Kd.R_far (p := ⟨gb284, 2, none⟩) (Kd.R_types HO292.out BK284.out (by decide)) (fun _ hk => hk.2) (.slice Ao29 y296.length co29)) (fun _ h_ => h_.1))) (Kd.R_typed (by (with_reducible repeat (first | apply Kd.R_alloc | apply Kd.R_drewN | apply Kd.R_drew)); exact (Kd.R_mono (Kd.R_far (p := ⟨gb284, 2, none⟩) (Kd.R_types HO_285003.out BK284.out (by decide)) (fun _ hk => hk.2) (.slice Ao29 y296.length co29)) (fun _ h_ => h_.1)))) (by decide) hg); have n2_ := Aside0.mk (Kd.S_after (ok := (fun _ => True)) (by (with_reducible repeat (first | apply Kd.S_alloc | apply Kd.S_drewN | apply Kd.S_drew)); exact Kd.S_mono (Kd.S_far (p := ⟨gb284, 2, none⟩) (Kd.S_types HO298.out BK284.out (by decide)) (fun _ hk => hk.2) (.slice Ao29 y296.length co29)) (fun _ hk => ⟨trivial, hk.1⟩)) hg hat); have n3_ := Aside0.mk (hb); have n4_ := Aside0.mk (ho); clear BK284; clear HO292; clear HO298; clear HB; clear HO_285003; have BK284 := n0_; have HO292 := n1_; have HO298 := n2_; have HB := n3_; have HO301 := n4_; clear n0_ n1_ n2_ n3_ n4_; clear ho hb hg hat; obtain ⟨Ao33, co33, eo33⟩ := Kd.R_slice HO301.out; subst eo33; have hcz34_0 : w32.cell? ⟨gb284, 0, none⟩ = some (.slice Ao21 y290.length co21) := (blk_cell BK284.out 0).trans rfl; have hcz34_1 : w32.cell? ⟨gb284, 1, none⟩ = some (.int .i64 1) := (blk_cell BK284.out 1).trans rfl; have hcz34_2 : w32.cell? ⟨gb284, 2, none⟩ = some (.slice Ao29 y296.length co29) := (blk_cell BK284.out 2).trans rfl; have hcz34_3 : w32.cell? ⟨gb284, 3, none⟩ = some (u285003) := (blk_cell BK284.out 3).trans rfl; have hcz34_4 : w32.cell? ⟨gb284, 4, none⟩ = some (.int .i64 t283) := (blk_cell BK284.out 4).trans rfl; have hfz34_0 := blk_frozen BK284.out 0; have hfz34_1 := blk_frozen BK284.out 1; have hfz34_2 := blk_frozen BK284.out 2; have hfz34_3 := blk_frozen BK284.out 3; have hfz34_4 := blk_frozen BK284.out 4))
             go_roundg k1
             case measure => have := HK1.out; omega
             case rel => exact ⟨(wrap64 (x8_1 + 1)), (y290), (y296), (y299), (.slice Ao21 y290.length co21), (.slice Ao29 y296.length co29), (.slice Ao33 y299.length co33), (by first | rfl | (simp; done) | (simp [*]; done)), (by first | exact H' | (rw [hji14]; exact H') | (rw [hji10]; exact H') | (rw [hji10, hji14]; exact H') | (rw [hji14, hji10]; exact H')), ⟨by have := HK1.out; omega⟩, ⟨by (with_reducible repeat (first | apply Kd.R_alloc | apply Kd.R_drewN | apply Kd.R_drew)); exact Kd.R_mono (Kd.R_far (p := ⟨gb284, 3, none⟩) (Kd.R_types HO292.out BK284.out (by decide)) (fun _ hk => hk.2) (.slice Ao33 y299.length co33)) (fun _ hk => trivial)⟩, ⟨by (with_reducible repeat (first | apply Kd.S_alloc | apply Kd.S_drewN | apply Kd.S_drew)); exact Kd.S_mono (Kd.S_far (p := ⟨gb284, 3, none⟩) (Kd.S_types HO298.out BK284.out (by decide)) (fun _ hk => hk.2) (.slice Ao33 y299.length co33)) (fun _ hk => hk.1.2)⟩, ⟨by (with_reducible repeat (first | apply Kd.R_alloc | apply Kd.R_drewN | apply Kd.R_drew)); exact Kd.R_mono (Kd.R_far (p := ⟨gb284, 3, none⟩) (Kd.R_types HO301.out BK284.out (by decide)) (fun _ hk => hk.2) (.slice Ao33 y299.length co33)) (fun _ hk => trivial)⟩, ⟨by (with_reducible repeat (first | refine blk_drewN ?_ _ | refine blk_drew ?_ | refine blk_alloc ?_ _)); refine blk_put (cs := #[.slice Ao21 y290.length co21, .int .i64 1, .slice Ao29 y296.length co29, u285003, .int .i64 t283]) ?_ 3 _ rfl; (with_reducible repeat (first | refine blk_drewN ?_ _ | refine blk_drew ?_ | refine blk_alloc ?_ _)); exact BK284.out⟩, ⟨by repeat (first | (with_reducible first | exact HB.out | apply below_alloc | apply pw_below_drewN | apply below_drew1 | refine below_set ?_ GE284.out) | exact HB.out)⟩⟩
            ·
             rw [if_neg c18] at H
             exact absurd H (by simp)
           ·
            rw [if_neg c17] at H
            exact absurd H (by simp)
         ·
          rw [if_neg c15] at H
          exact absurd H (by simp)
        ·
         rw [if_neg c13] at H
         exact absurd H (by simp)
       ·
        rw [if_neg c12] at H
        have c12b0 : (x8_1 == (wrap64 ((wrap64 (1 + t282)) - 1))) = false := beq_eq_false_iff_ne.mpr c12
        have c12b1 : (x8_1 != (wrap64 ((wrap64 (1 + t282)) - 1))) = true := bne_iff_ne.mpr c12
        by_cases c35 : x285000_1.length < 8796093022208
        ·
         rw [if_pos c35] at H
         have LMc35 := Aside0.mk c35
         clear c35
         obtain ⟨y302, hy302⟩ : ∃ y_ : List (S45), y_ = (x285000_1 ++ [(⟨x8_1, 0⟩ : S45)]) := ⟨_, rfl⟩
         replace H : (if (wrap64 (1 + t282)) = 0 then (none) else (if x285002_1.length < 5864062014805 then (if x285003_1.length < 17592186044416 then (foretellkeep_FairRound.l0 k1 (wrap64 (1 + t282)) t283 (wrap64 (x8_1 + 1)) y302 1 (x285002_1 ++ [(([Int.tmod (wrap64 (x8_1 + 1)) (wrap64 (1 + t282))] : List Int))]) (x285003_1 ++ [ji10]) t283) else (none)) else (none))) = some r := by first | (rw [hy302]; with_reducible exact H) | (have H2_ := (Option.bind_some _ _).symm.trans H; rw [hy302]; with_reducible exact H2_) | (have H2_ := (Option.bind_some _ _).symm.trans H; with_reducible exact H2_) | with_reducible exact H | (rw [hy302]; exact H) | exact H
         have Ny302 := Aside0.mk hy302
         clear hy302
         by_cases c36 : (wrap64 (1 + t282)) = 0
         ·
          rw [if_pos c36] at H
          exact absurd H (by simp)
         ·
          rw [if_neg c36] at H
          have c36b0 : ((wrap64 (1 + t282)) == 0) = false := beq_eq_false_iff_ne.mpr c36
          have c36b1 : ((wrap64 (1 + t282)) != 0) = true := bne_iff_ne.mpr c36
          obtain ⟨y305, hy305⟩ : ∃ y_ : List Int, y_ = (([Int.tmod (wrap64 (x8_1 + 1)) (wrap64 (1 + t282))] : List Int)) := ⟨_, rfl⟩
          replace H : (if x285002_1.length < 5864062014805 then (if x285003_1.length < 17592186044416 then (foretellkeep_FairRound.l0 k1 (wrap64 (1 + t282)) t283 (wrap64 (x8_1 + 1)) y302 1 (x285002_1 ++ [y305]) (x285003_1 ++ [ji10]) t283) else (none)) else (none)) = some r := by first | (rw [hy305]; with_reducible exact H) | (have H2_ := (Option.bind_some _ _).symm.trans H; rw [hy305]; with_reducible exact H2_) | (have H2_ := (Option.bind_some _ _).symm.trans H; with_reducible exact H2_) | with_reducible exact H | (rw [hy305]; exact H) | exact H
          have Ny305 := Aside0.mk hy305
          clear hy305
          by_cases c37 : x285002_1.length < 5864062014805
          ·
           rw [if_pos c37] at H
           have LMc37 := Aside0.mk c37
           clear c37
           obtain ⟨y308, hy308⟩ : ∃ y_ : List (List Int), y_ = (x285002_1 ++ [y305]) := ⟨_, rfl⟩
           replace H : (if x285003_1.length < 17592186044416 then (foretellkeep_FairRound.l0 k1 (wrap64 (1 + t282)) t283 (wrap64 (x8_1 + 1)) y302 1 y308 (x285003_1 ++ [ji10]) t283) else (none)) = some r := by first | (rw [hy308]; with_reducible exact H) | (have H2_ := (Option.bind_some _ _).symm.trans H; rw [hy308]; with_reducible exact H2_) | (have H2_ := (Option.bind_some _ _).symm.trans H; with_reducible exact H2_) | with_reducible exact H | (rw [hy308]; exact H) | exact H
           have Ny308 := Aside0.mk hy308
           clear hy308
           by_cases c38 : x285003_1.length < 17592186044416
           ·
            rw [if_pos c38] at H
            have LMc38 := Aside0.mk c38
            clear c38
            obtain ⟨y311, hy311⟩ : ∃ y_ : List Int, y_ = (x285003_1 ++ [ji10]) := ⟨_, rfl⟩
            replace H : (foretellkeep_FairRound.l0 k1 (wrap64 (1 + t282)) t283 (wrap64 (x8_1 + 1)) y302 1 y308 y311 t283) = some r := by first | (rw [hy311]; with_reducible exact H) | (have H2_ := (Option.bind_some _ _).symm.trans H; rw [hy311]; with_reducible exact H2_) | (have H2_ := (Option.bind_some _ _).symm.trans H; with_reducible exact H2_) | with_reducible exact H | (rw [hy311]; exact H) | exact H
            have Ny311 := Aside0.mk hy311
            clear hy311
            have H' := Aside0.mk H
            clear H
            have hcz39_0 : wr.cell? ⟨gb284, 0, none⟩ = some (u285000) := (blk_cell BK284.out 0).trans rfl
            have hcz39_1 : wr.cell? ⟨gb284, 1, none⟩ = some (.int .i64 1) := (blk_cell BK284.out 1).trans rfl
            have hcz39_2 : wr.cell? ⟨gb284, 2, none⟩ = some (u285002) := (blk_cell BK284.out 2).trans rfl
            have hcz39_3 : wr.cell? ⟨gb284, 3, none⟩ = some (u285003) := (blk_cell BK284.out 3).trans rfl
            have hcz39_4 : wr.cell? ⟨gb284, 4, none⟩ = some (.int .i64 t283) := (blk_cell BK284.out 4).trans rfl
            have hfz39_0 := blk_frozen BK284.out 0
            have hfz39_1 := blk_frozen BK284.out 1
            have hfz39_2 := blk_frozen BK284.out 2
            have hfz39_3 := blk_frozen BK284.out 3
            have hfz39_4 := blk_frozen BK284.out 4
            try go_wp2_with (first | ((with_reducible refine gate_builtin (b := .append) (xs := #[.tmp 44, .tmp 47]) rfl ?_); at_builtin; refine Kd.R_append k45 (w0 := w) w.heap.size rfl (.tmp 44) (.tmp 47) 26 45 (.agg #[(.int .i64 0), (.int .i64 0)]) 16 rfl Try.underlying26 info45 rfl (by decide) (by omega) u285000 x285000_1 (⟨x8_1, 0⟩ : S45) [.int .i64 x8_1, .int .i64 0] (fun _ => True) (fun _ => False) rfl rfl ?aP (fun _ hk => hk.elim) ?aF ?aO ?aB ?aS ?aL ?_; (case aP => exact k45_mkM _ _ _ (⟨x8_1, 0⟩ : S45)); (case aB => exact (by repeat (first | (with_reducible first | exact HB.out | apply below_alloc | apply pw_below_drewN | apply below_drew1 | refine below_set ?_ GE284.out) | exact HB.out))); (case aF => exact (fun _ _ => trivial)); (case aO => exact (by (with_reducible repeat (first | apply Kd.R_alloc | apply Kd.R_drewN | apply Kd.R_drew)); exact HO_285000.out)); (case aS => exact (below_size (by repeat (first | (with_reducible first | exact HB.out | apply below_alloc | apply pw_below_drewN | apply below_drew1 | refine below_set ?_ GE284.out) | exact HB.out)))); (case aL => have := LMc35.out; omega); intro v303 w40 ho hb hg hat; rw [← Ny302.out] at ho; have n0_ := Aside0.mk (Kd.S_over' (by (with_reducible repeat (first | apply Kd.S_alloc | apply Kd.S_drewN | apply Kd.S_drew)); exact HO_285002.out) (Kd.R_typed (by (with_reducible repeat (first | apply Kd.R_alloc | apply Kd.R_drewN | apply Kd.R_drew)); exact HO_285000.out)) (by decide) hg); have n1_ := Aside0.mk (Kd.R_over' (by (with_reducible repeat (first | apply Kd.R_alloc | apply Kd.R_drewN | apply Kd.R_drew)); exact HO_285003.out) (Kd.R_typed (by (with_reducible repeat (first | apply Kd.R_alloc | apply Kd.R_drewN | apply Kd.R_drew)); exact HO_285000.out)) (by decide) hg); have n2_ := Aside0.mk (blk_grown (g := gb284) (o := .cells #[u285000, .int .i64 1, u285002, u285003, .int .i64 t283] 28 (0, 0)) (by (with_reducible repeat (first | refine blk_drewN ?_ _ | refine blk_drew ?_ | refine blk_alloc ?_ _)); exact BK284.out) hg (Kd.R_ne HO_285000.out BK284.out (by decide))); have n3_ := Aside0.mk (hb); have n4_ := Aside0.mk (ho); clear HO_285002; clear HO_285003; clear BK284; clear HB; clear HO_285000; have HO_285002 := n0_; have HO_285003 := n1_; have BK284 := n2_; have HB := n3_; have HO304 := n4_; clear n0_ n1_ n2_ n3_ n4_; clear ho hb hg hat; obtain ⟨Ao41, co41, eo41⟩ := Kd.R_slice HO304.out; subst eo41; have hcz42_0 : w40.cell? ⟨gb284, 0, none⟩ = some (u285000) := (blk_cell BK284.out 0).trans rfl; have hcz42_1 : w40.cell? ⟨gb284, 1, none⟩ = some (.int .i64 1) := (blk_cell BK284.out 1).trans rfl; have hcz42_2 : w40.cell? ⟨gb284, 2, none⟩ = some (u285002) := (blk_cell BK284.out 2).trans rfl; have hcz42_3 : w40.cell? ⟨gb284, 3, none⟩ = some (u285003) := (blk_cell BK284.out 3).trans rfl; have hcz42_4 : w40.cell? ⟨gb284, 4, none⟩ = some (.int .i64 t283) := (blk_cell BK284.out 4).trans rfl; have hfz42_0 := blk_frozen BK284.out 0; have hfz42_1 := blk_frozen BK284.out 1; have hfz42_2 := blk_frozen BK284.out 2; have hfz42_3 := blk_frozen BK284.out 3; have hfz42_4 := blk_frozen BK284.out 4))
            have n0_ : Aside0 (Kd.S (Kd.slice 3 (Kd.int .i64)) 23 (w40.setCell ⟨gb284, 0, none⟩ (.slice Ao41 y302.length co41)) w.heap.size (fun k_ => some k_ ≠ (u285003 : Value).ownBlock) u285002 x285002_1) := ⟨by (with_reducible repeat (first | apply Kd.S_alloc | apply Kd.S_drewN | apply Kd.S_drew)); exact Kd.S_mono (Kd.S_far (p := ⟨gb284, 0, none⟩) (Kd.S_types HO_285002.out BK284.out (by decide)) (fun _ hk => hk.2) (.slice Ao41 y302.length co41)) (fun _ hk => hk.1)⟩
            have n1_ : Aside0 (Kd.R (Kd.int .i64) 3 (w40.setCell ⟨gb284, 0, none⟩ (.slice Ao41 y302.length co41)) w.heap.size (fun _ => True) u285003 x285003_1) := ⟨by (with_reducible repeat (first | apply Kd.R_alloc | apply Kd.R_drewN | apply Kd.R_drew)); exact Kd.R_mono (Kd.R_far (p := ⟨gb284, 0, none⟩) (Kd.R_types HO_285003.out BK284.out (by decide)) (fun _ hk => hk.2) (.slice Ao41 y302.length co41)) (fun _ hk => trivial)⟩
            have n2_ : Aside0 (Kd.R k45 45 (w40.setCell ⟨gb284, 0, none⟩ (.slice Ao41 y302.length co41)) w.heap.size (fun _ => True) (.slice Ao41 y302.length co41) y302) := ⟨by (with_reducible repeat (first | apply Kd.R_alloc | apply Kd.R_drewN | apply Kd.R_drew)); exact Kd.R_mono (Kd.R_far (p := ⟨gb284, 0, none⟩) (Kd.R_types HO304.out BK284.out (by decide)) (fun _ hk => hk.2) (.slice Ao41 y302.length co41)) (fun _ hk => trivial)⟩
            have n3_ : Aside0 ((w40.setCell ⟨gb284, 0, none⟩ (.slice Ao41 y302.length co41)).heap[gb284]? = some (.cells #[.slice Ao41 y302.length co41, .int .i64 1, u285002, u285003, .int .i64 t283] 28 (0, 0))) := ⟨by (with_reducible repeat (first | refine blk_drewN ?_ _ | refine blk_drew ?_ | refine blk_alloc ?_ _)); refine blk_put (cs := #[u285000, .int .i64 1, u285002, u285003, .int .i64 t283]) ?_ 0 _ rfl; (with_reducible repeat (first | refine blk_drewN ?_ _ | refine blk_drew ?_ | refine blk_alloc ?_ _)); exact BK284.out⟩
            have n4_ : Aside0 (Below w.heap.size w (w40.setCell ⟨gb284, 0, none⟩ (.slice Ao41 y302.length co41))) := ⟨by repeat (first | (with_reducible first | exact HB.out | apply below_alloc | apply pw_below_drewN | apply below_drew1 | refine below_set ?_ GE284.out) | exact HB.out)⟩
            (try clear HO_285002)
            (try clear HO_285003)
            (try clear HO304)
            (try clear BK284)
            (try clear HB)
            generalize (w40.setCell ⟨gb284, 0, none⟩ (.slice Ao41 y302.length co41)) = w43 at n0_ n1_ n2_ n3_ n4_ ⊢
            have HO_285002 := n0_
            have HO_285003 := n1_
            have HO304 := n2_
            have BK284 := n3_
            have HB := n4_
            clear n0_ n1_ n2_ n3_ n4_
            have n0_ := Aside0.mk (Kd.S_drew HO_285002.out)
            have n1_ := Aside0.mk (Kd.R_drew HO_285003.out)
            have n2_ := Aside0.mk (Kd.R_drew HO304.out)
            have n3_ := Aside0.mk (blk_drew BK284.out)
            have n4_ := Aside0.mk (below_drew1 HB.out)
            clear HO_285002
            clear HO_285003
            clear HO304
            clear BK284
            clear HB
            have HO_285002 := n0_
            have HO_285003 := n1_
            have HO304 := n2_
            have BK284 := n3_
            have HB := n4_
            clear n0_ n1_ n2_ n3_ n4_
            refine start_ (n := 11) (S := fun w' => w'.cell? ⟨gb284, 0, none⟩ = some (.slice Ao41 y302.length co41) ∧ w'.cell? ⟨gb284, 1, none⟩ = some (.int .i64 1) ∧ w'.cell? ⟨gb284, 2, none⟩ = some (u285002) ∧ w'.cell? ⟨gb284, 3, none⟩ = some (u285003) ∧ w'.cell? ⟨gb284, 4, none⟩ = some (.int .i64 t283)) (ds := [10]) #[false, false, false, false, false, false, false, false, false, false, false] (by kernel_rfl) rfl rfl ⟨(blk_cell BK284.out 0).trans rfl, (blk_cell BK284.out 1).trans rfl, (blk_cell BK284.out 2).trans rfl, (blk_cell BK284.out 3).trans rfl, (blk_cell BK284.out 4).trans rfl⟩ (fun hHeld => ?_); refine with_tabW foretellkeep_FairRound.tab13 foretellkeep_FairRound.bits13 (fun HT_ HW_ => ?_)
            generalize w43.drew = w44 at HO_285002 HO_285003 HO304 BK284 HB hHeld ⊢
            refine pure_ (i := 0) (N := some 50) (v := ?_) (a' := ?_) #[true, false, false, false, false, false, false, false, false, false, false] rfl rfl (any_of HT_.out (by kernel_rfl)) (fun _ _ _ h => h) (Or.inl ⟨by rfl, ?_⟩) ?_ ?_
            rotate_left
            ·
             intro w'
             go_simp
             with_reducible rfl
            rotate_left
            ·
             simp only [Act.put, List.setIfInBounds_toArray, List.set_cons_zero, List.set_cons_succ, i64_w, i32_w]
             rfl
            refine pure_ (i := 2) (N := some 52) (v := ?_) (a' := ?_) #[true, false, true, false, false, false, false, false, false, false, false] rfl rfl (any_of HT_.out (by kernel_rfl)) (fun _ _ _ h => h) (Or.inl ⟨by rfl, ?_⟩) ?_ ?_
            rotate_left
            ·
             intro w'
             go_simp
             with_reducible rfl
            rotate_left
            ·
             simp only [Act.put, List.setIfInBounds_toArray, List.set_cons_zero, List.set_cons_succ, i64_w, i32_w]
             rfl
            refine pure_ (i := 3) (N := some 53) (v := ?_) (a' := ?_) #[true, false, true, true, false, false, false, false, false, false, false] rfl rfl (any_of HT_.out (by kernel_rfl)) (fun _ _ _ h => h) (Or.inl ⟨by rfl, ?_⟩) ?_ ?_
            rotate_left
            ·
             intro w'
             go_simp
             with_reducible rfl
            rotate_left
            ·
             simp only [Act.put, List.setIfInBounds_toArray, List.set_cons_zero, List.set_cons_succ, i64_w, i32_w]
             rfl
            refine pure_ (i := 4) (N := some 54) (v := ?_) (a' := ?_) #[true, false, true, true, true, false, false, false, false, false, false] rfl rfl (any_of HT_.out (by kernel_rfl)) (fun _ _ _ h => h) (Or.inl ⟨by rfl, ?_⟩) ?_ ?_
            rotate_left
            ·
             intro w'
             go_simp
             with_reducible rfl
            rotate_left
            ·
             simp only [Act.put, List.setIfInBounds_toArray, List.set_cons_zero, List.set_cons_succ, i64_w, i32_w]
             rfl
            refine pure_ (i := 5) (N := some 55) (v := ?_) (a' := ?_) #[true, false, true, true, true, true, false, false, false, false, false] rfl rfl (any_of HT_.out (by kernel_rfl)) (fun _ _ _ h => h) (Or.inl ⟨by rfl, ?_⟩) ?_ ?_
            rotate_left
            ·
             intro w'
             go_simp
             with_reducible rfl
            rotate_left
            ·
             simp only [Act.put, List.setIfInBounds_toArray, List.set_cons_zero, List.set_cons_succ, i64_w, i32_w]
             rfl
            refine take_ (i := 1) (N := some 51) (v := ?_) (a' := ?_) #[true, true, true, true, true, true, false, false, false, false, false] rfl rfl (take_ofW HT_.out HW_.out (by kernel_rfl)) (fun _ _ _ h => h) (Or.inl ⟨by rfl, ?_⟩) hHeld ?_ ?_
            rotate_left
            ·
             rintro w' ⟨s0, s1, s2, s3, s4⟩
             go_simp
             with_reducible rfl
            rotate_left
            ·
             simp only [Act.put, List.setIfInBounds_toArray, List.set_cons_zero, List.set_cons_succ, i64_w, i32_w]
             rfl
            refine one_ (i := 6) (N := some 56) #[true, true, true, true, true, true, true, false, false, false, false] rfl rfl (one_of HT_.out (by kernel_rfl)) (by decide) (fun K hK => ?_)
            refine Kd.R_lit_step (Kd.int .i64) _ 3 ?hg (N := 56) ?hd (xs := ([Int.tmod (wrap64 (x8_1 + 1)) (wrap64 (1 + t282))] : List Int)) (inner := [.int .i64 (Int.tmod (wrap64 (x8_1 + 1)) (wrap64 (1 + t282)))]) (ok := fun _ => True) (okp := fun _ => True) ?hr ?hp (fun _ hk => hk) trivial (Below.refl _ _) (Nat.le_refl _) (by simp) ?_; (case hd => rfl); (case hg => rfl); (case hr => first | (go_simp; done) | (go_simp; rfl)); (case hp => exact (Reps.one (show Kd.M (Kd.int .i64) _ _ _ (Int.tmod (wrap64 (x8_1 + 1)) (wrap64 (1 + t282))) [.int .i64 (Int.tmod (wrap64 (x8_1 + 1)) (wrap64 (1 + t282)))] from rfl) (Reps.none _ _)))
            intro v306 w45 ho46 hb hg_ hnew_
            clear hg_ hnew_
            (first | rw [← Ny305.out] at ho46 | (simp only [Int.reduceToNat] at ho46; rw [← Ny305.out] at ho46))
            have n0_ := Aside0.mk (Kd.S_elder' (by (with_reducible repeat (first | apply Kd.S_alloc | apply Kd.S_drewN | apply Kd.S_drew)); exact HO_285002.out) (Kd.R_base ho46) hb)
            have n1_ := Aside0.mk (Kd.R_elder' (by (with_reducible repeat (first | apply Kd.R_alloc | apply Kd.R_drewN | apply Kd.R_drew)); exact HO_285003.out) (Kd.R_base ho46) hb)
            have n2_ := Aside0.mk (Kd.R_below (by (with_reducible repeat (first | apply Kd.R_alloc | apply Kd.R_drewN | apply Kd.R_drew)); exact HO304.out) hb)
            have n3_ := Aside0.mk (Kd.R_lower (Kd.R_new' ho46 (Kd.R_lt (by (with_reducible repeat (first | apply Kd.R_alloc | apply Kd.R_drewN | apply Kd.R_drew)); exact HO_285003.out))) (below_size (by repeat (first | (with_reducible first | exact HB.out | apply below_alloc | apply pw_below_drewN | apply below_drew1 | refine below_set ?_ GE284.out) | exact HB.out))))
            have n4_ := Aside0.mk (blk_below (g := gb284) (o := .cells #[.slice Ao41 y302.length co41, .int .i64 1, u285002, u285003, .int .i64 t283] 28 (0, 0)) (by (with_reducible repeat (first | refine blk_drewN ?_ _ | refine blk_drew ?_ | refine blk_alloc ?_ _)); exact BK284.out) hb)
            have n5_ := Aside0.mk (below_step (by repeat (first | (with_reducible first | exact HB.out | apply below_alloc | apply pw_below_drewN | apply below_drew1 | refine below_set ?_ GE284.out) | exact HB.out)) hb)
            clear HO_285002
            clear HO_285003
            clear HO304
            clear BK284
            clear HB
            have HO_285002 := n0_
            have HO_285003 := n1_
            have HO304 := n2_
            have HO307 := n3_
            have BK284 := n4_
            have HB := n5_
            clear n0_ n1_ n2_ n3_ n4_ n5_
            clear hb ho46
            obtain ⟨Ao48, co48, eo48⟩ := Kd.R_slice HO307.out
            (first | subst eo48 | (injection eo48 with f1_ f2_ f3_; have f4_ := f1_.symm; have f5_ := f3_.symm; clear f1_ f2_ f3_; subst f4_; subst f5_))
            refine hK.out _ _ ⟨(blk_cell BK284.out 0).trans rfl, (blk_cell BK284.out 1).trans rfl, (blk_cell BK284.out 2).trans rfl, (blk_cell BK284.out 3).trans rfl, (blk_cell BK284.out 4).trans rfl⟩ (fun hHeld => ?_)
            clear hK K
            refine norm_ (a' := ?_) ?_ ?_
            rotate_left
            ·
             show Act.put _ (some 56) _ = _
             simp only [Act.put, List.setIfInBounds_toArray, List.set_cons_zero, List.set_cons_succ, i64_w, i32_w]
             rfl
            refine one_ (i := 7) (N := some 57) #[true, true, true, true, true, true, true, true, false, false, false] rfl rfl (one_of HT_.out (by kernel_rfl)) (by decide) (fun K hK => ?_)
            refine value_ (w1 := ?_) (v := ?_) (by rfl) rfl ?_ ?_
            rotate_left 2
            ·
             go_simp
             constructor
             ·
              rfl
             ·
              rfl
            refine hK.out _ _ ⟨(blk_cell (blk_alloc BK284.out _) 0).trans rfl, (blk_cell (blk_alloc BK284.out _) 1).trans rfl, (blk_cell (blk_alloc BK284.out _) 2).trans rfl, (blk_cell (blk_alloc BK284.out _) 3).trans rfl, (blk_cell (blk_alloc BK284.out _) 4).trans rfl⟩ (fun hHeld => ?_)
            clear hK K
            refine norm_ (a' := ?_) ?_ ?_
            rotate_left
            ·
             show Act.put _ (some 57) _ = _
             simp only [Act.put, List.setIfInBounds_toArray, List.set_cons_zero, List.set_cons_succ, i64_w, i32_w]
             rfl
            refine one_ (i := 8) (N := some 58) #[true, true, true, true, true, true, true, true, true, false, false] rfl rfl (one_of HT_.out (by kernel_rfl)) (by decide) (fun K hK => ?_)
            refine Kd.S_append_step (Kd.slice 3 (Kd.int .i64)) (w0 := w) w.heap.size (by rfl) (.tmp 51) (.tmp 57) 22 23 (.slice none 0 0) 24 rfl Try.underlying22 info23 rfl (by decide) (by omega) u285002 x285002_1 y305 [.slice Ao48 y305.length co48] (fun k_ => some k_ ≠ (u285003 : Value).ownBlock) (fun k_ => some k_ = (.slice Ao48 y305.length co48 : Value).ownBlock) rfl rfl ?aP (fun k_ hk_ => ((Kd.R_mono (ok' := fun k_ => ((fun k_ => some k_ ≠ (u285003 : Value).ownBlock)) k_ ∧ some k_ ≠ (u285002 : Value).ownBlock) (Kd.R_apart' (HO307.out) (Kd.S_typed HO_285002.out) (by decide)) (fun k_ hk => ⟨hk.1.2, hk.2⟩))).1 k_ hk_.symm) ?aF ?aO ?aB ?aS ?aL ?_
            (case aP => exact Kd.M_row (Kd.R_mono (Kd.R_tight rfl (Kd.R_mono (ok' := fun k_ => ((fun k_ => some k_ ≠ (u285003 : Value).ownBlock)) k_ ∧ some k_ ≠ (u285002 : Value).ownBlock) (Kd.R_apart' (HO307.out) (Kd.S_typed HO_285002.out) (by decide)) (fun k_ hk => ⟨hk.1.2, hk.2⟩))) (fun _ h_ => h_)))
            (case aB => exact (by repeat (first | (with_reducible first | exact HB.out | apply below_alloc | apply pw_below_drewN | apply below_drew1 | refine below_set ?_ GE284.out) | exact HB.out)))
            (case aF => exact (fun k_ hk => Kd.fresh' (Kd.R_lt (by (with_reducible repeat (first | apply Kd.R_alloc | apply Kd.R_drewN | apply Kd.R_drew)); exact HO_285003.out)) k_ hk))
            (case aO => exact (by (with_reducible repeat (first | apply Kd.S_alloc | apply Kd.S_drewN | apply Kd.S_drew)); exact Kd.S_mono HO_285002.out (fun k_ hk => ⟨hk.1, fun e_ => hk.2 e_⟩)))
            (case aS => exact (below_size (by repeat (first | (with_reducible first | exact HB.out | apply below_alloc | apply pw_below_drewN | apply below_drew1 | refine below_set ?_ GE284.out) | exact HB.out))))
            (case aL => have := LMc37.out; omega)
            intro v309 w47 ho hb hg hat
            rw [← Ny308.out] at ho
            have n0_ := Aside0.mk (Kd.R_over' (by (with_reducible repeat (first | apply Kd.R_alloc | apply Kd.R_drewN | apply Kd.R_drew)); exact HO_285003.out) (Kd.S_typed (by (with_reducible repeat (first | apply Kd.S_alloc | apply Kd.S_drewN | apply Kd.S_drew)); exact HO_285002.out)) (by decide) hg)
            have n1_ := Aside0.mk (blk_grown (g := gb284) (o := .cells #[.slice Ao41 y302.length co41, .int .i64 1, u285002, u285003, .int .i64 t283] 28 (0, 0)) (by (with_reducible repeat (first | refine blk_drewN ?_ _ | refine blk_drew ?_ | refine blk_alloc ?_ _)); exact BK284.out) hg (Kd.S_ne HO_285002.out BK284.out (by decide)))
            have n2_ := Aside0.mk (Kd.R_over' (by (with_reducible repeat (first | apply Kd.R_alloc | apply Kd.R_drewN | apply Kd.R_drew)); exact HO304.out) (Kd.S_typed (by (with_reducible repeat (first | apply Kd.S_alloc | apply Kd.S_drewN | apply Kd.S_drew)); exact HO_285002.out)) (by decide) hg)
            have n3_ := Aside0.mk (hb)
            have n4_ := Aside0.mk (ho)
            clear HO_285003
            clear BK284
            clear HO304
            clear HB
            clear HO_285002
            clear HO307
            have HO_285003 := n0_
            have BK284 := n1_
            have HO304 := n2_
            have HB := n3_
            have HO310 := n4_
            clear n0_ n1_ n2_ n3_ n4_
            clear ho hb hg hat
            obtain ⟨Ao49, co49, eo49⟩ := Kd.S_slice HO310.out
            (first | subst eo49 | (injection eo49 with f1_ f2_ f3_; have f4_ := f1_.symm; have f5_ := f3_.symm; clear f1_ f2_ f3_; subst f4_; subst f5_))
            refine hK.out _ _ ⟨(blk_cell BK284.out 0).trans rfl, (blk_cell BK284.out 1).trans rfl, (blk_cell BK284.out 2).trans rfl, (blk_cell BK284.out 3).trans rfl, (blk_cell BK284.out 4).trans rfl⟩ (fun hHeld => ?_)
            clear hK K
            refine norm_ (a' := ?_) ?_ ?_
            rotate_left
            ·
             show Act.put _ (some 58) _ = _
             simp only [Act.put, List.setIfInBounds_toArray, List.set_cons_zero, List.set_cons_succ, i64_w, i32_w]
             rfl
            refine pure_ (i := 9) (N := some 59) (v := ?_) (a' := ?_) #[true, true, true, true, true, true, true, true, true, true, false] rfl rfl (any_of HT_.out (by kernel_rfl)) (fun _ _ _ h => h) (Or.inl ⟨by rfl, ?_⟩) ?_ ?_
            rotate_left
            ·
             intro w'
             go_simp
             with_reducible rfl
            rotate_left
            ·
             simp only [Act.put, List.setIfInBounds_toArray, List.set_cons_zero, List.set_cons_succ, i64_w, i32_w]
             rfl
            refine last_ (i := 10) (N := none) #[true, true, true, true, true, true, true, true, true, true, true] rfl rfl (one_of HT_.out (by kernel_rfl)) (by decide) (fun K hK => ?_)
            have hs50 : w47.cell? ⟨gb284, 2, none⟩ = some (u285002) := (blk_cell BK284.out 2).trans rfl
            have hfs50 := blk_frozen BK284.out 2
            refine skip_ (w1 := ?_) (by rfl) rfl ?_ ?_
            rotate_left
            ·
             go_simp
             rfl
            refine hK.out _ _ ?_
            clear hK K
            refine done_ (done_of HT_.out (by kernel_rfl)) ?_
            have hcz51_0 : w47.cell? ⟨gb284, 0, none⟩ = some (.slice Ao41 y302.length co41) := (blk_cell BK284.out 0).trans rfl
            have hcz51_1 : w47.cell? ⟨gb284, 1, none⟩ = some (.int .i64 1) := (blk_cell BK284.out 1).trans rfl
            have hcz51_2 : w47.cell? ⟨gb284, 2, none⟩ = some (u285002) := (blk_cell BK284.out 2).trans rfl
            have hcz51_3 : w47.cell? ⟨gb284, 3, none⟩ = some (u285003) := (blk_cell BK284.out 3).trans rfl
            have hcz51_4 : w47.cell? ⟨gb284, 4, none⟩ = some (.int .i64 t283) := (blk_cell BK284.out 4).trans rfl
            have hfz51_0 := blk_frozen BK284.out 0
            have hfz51_1 := blk_frozen BK284.out 1
            have hfz51_2 := blk_frozen BK284.out 2
            have hfz51_3 := blk_frozen BK284.out 3
            have hfz51_4 := blk_frozen BK284.out 4
            try go_wp2_with (first | ((with_reducible refine gate_builtin (b := .append) (xs := #[.tmp 61, .tmp 63]) rfl ?_); at_builtin; refine Kd.R_append (Kd.int .i64) (w0 := w) w.heap.size rfl (.tmp 61) (.tmp 63) 23 3 (.int .i64 0) 8 rfl Try.underlying23 info3 rfl (by decide) (by omega) u285003 x285003_1 ji10 [.int .i64 ji10] (fun _ => True) (fun _ => False) rfl (by first | (go_simp; done) | (go_simp; rfl)) ?aP (fun _ hk => hk.elim) ?aF ?aO ?aB ?aS ?aL ?_; (case aP => exact rfl); (case aB => exact (by repeat (first | (with_reducible first | exact HB.out | apply below_alloc | apply pw_below_drewN | apply below_drew1 | refine below_set ?_ GE284.out) | exact HB.out))); (case aF => exact (fun _ _ => trivial)); (case aO => exact (by (with_reducible repeat (first | apply Kd.R_alloc | apply Kd.R_drewN | apply Kd.R_drew)); exact Kd.R_mono (Kd.R_far (p := ⟨gb284, 2, none⟩) (Kd.R_types HO_285003.out BK284.out (by decide)) (fun _ hk => hk.2) (.slice Ao49 y308.length co49)) (fun _ hk => trivial))); (case aS => exact (below_size (by repeat (first | (with_reducible first | exact HB.out | apply below_alloc | apply pw_below_drewN | apply below_drew1 | refine below_set ?_ GE284.out) | exact HB.out)))); (case aL => have := LMc38.out; omega); intro v312 w52 ho hb hg hat; rw [← Ny311.out] at ho; have n0_ := Aside0.mk (blk_grown (g := gb284) (o := .cells #[.slice Ao41 y302.length co41, .int .i64 1, .slice Ao49 y308.length co49, u285003, .int .i64 t283] 28 (0, 0)) (by (with_reducible repeat (first | refine blk_drewN ?_ _ | refine blk_drew ?_ | refine blk_alloc ?_ _)); refine blk_put (cs := #[.slice Ao41 y302.length co41, .int .i64 1, u285002, u285003, .int .i64 t283]) ?_ 2 _ rfl; (with_reducible repeat (first | refine blk_drewN ?_ _ | refine blk_drew ?_ | refine blk_alloc ?_ _)); exact BK284.out) hg (Kd.R_ne HO_285003.out BK284.out (by decide))); have n1_ := Aside0.mk (Kd.R_over' (by (with_reducible repeat (first | apply Kd.R_alloc | apply Kd.R_drewN | apply Kd.R_drew)); exact (Kd.R_mono (Kd.R_far (p := ⟨gb284, 2, none⟩) (Kd.R_types HO304.out BK284.out (by decide)) (fun _ hk => hk.2) (.slice Ao49 y308.length co49)) (fun _ h_ => h_.1))) (Kd.R_typed (by (with_reducible repeat (first | apply Kd.R_alloc | apply Kd.R_drewN | apply Kd.R_drew)); exact (Kd.R_mono (Kd.R_far (p := ⟨gb284, 2, none⟩) (Kd.R_types HO_285003.out BK284.out (by decide)) (fun _ hk => hk.2) (.slice Ao49 y308.length co49)) (fun _ h_ => h_.1)))) (by decide) hg); have n2_ := Aside0.mk (Kd.S_after (ok := (fun _ => True)) (by (with_reducible repeat (first | apply Kd.S_alloc | apply Kd.S_drewN | apply Kd.S_drew)); exact Kd.S_mono (Kd.S_far (p := ⟨gb284, 2, none⟩) (Kd.S_types HO310.out BK284.out (by decide)) (fun _ hk => hk.2) (.slice Ao49 y308.length co49)) (fun _ hk => ⟨trivial, hk.1⟩)) hg hat); have n3_ := Aside0.mk (hb); have n4_ := Aside0.mk (ho); clear BK284; clear HO304; clear HO310; clear HB; clear HO_285003; have BK284 := n0_; have HO304 := n1_; have HO310 := n2_; have HB := n3_; have HO313 := n4_; clear n0_ n1_ n2_ n3_ n4_; clear ho hb hg hat; obtain ⟨Ao53, co53, eo53⟩ := Kd.R_slice HO313.out; subst eo53; have hcz54_0 : w52.cell? ⟨gb284, 0, none⟩ = some (.slice Ao41 y302.length co41) := (blk_cell BK284.out 0).trans rfl; have hcz54_1 : w52.cell? ⟨gb284, 1, none⟩ = some (.int .i64 1) := (blk_cell BK284.out 1).trans rfl; have hcz54_2 : w52.cell? ⟨gb284, 2, none⟩ = some (.slice Ao49 y308.length co49) := (blk_cell BK284.out 2).trans rfl; have hcz54_3 : w52.cell? ⟨gb284, 3, none⟩ = some (u285003) := (blk_cell BK284.out 3).trans rfl; have hcz54_4 : w52.cell? ⟨gb284, 4, none⟩ = some (.int .i64 t283) := (blk_cell BK284.out 4).trans rfl; have hfz54_0 := blk_frozen BK284.out 0; have hfz54_1 := blk_frozen BK284.out 1; have hfz54_2 := blk_frozen BK284.out 2; have hfz54_3 := blk_frozen BK284.out 3; have hfz54_4 := blk_frozen BK284.out 4))
            go_roundg k1
            case measure => have := HK1.out; omega
            case rel => exact ⟨(wrap64 (x8_1 + 1)), (y302), (y308), (y311), (.slice Ao41 y302.length co41), (.slice Ao49 y308.length co49), (.slice Ao53 y311.length co53), (by first | rfl | (simp; done) | (simp [*]; done)), (by first | exact H' | (rw [hji14]; exact H') | (rw [hji10]; exact H') | (rw [hji10, hji14]; exact H') | (rw [hji14, hji10]; exact H')), ⟨by have := HK1.out; omega⟩, ⟨by (with_reducible repeat (first | apply Kd.R_alloc | apply Kd.R_drewN | apply Kd.R_drew)); exact Kd.R_mono (Kd.R_far (p := ⟨gb284, 3, none⟩) (Kd.R_types HO304.out BK284.out (by decide)) (fun _ hk => hk.2) (.slice Ao53 y311.length co53)) (fun _ hk => trivial)⟩, ⟨by (with_reducible repeat (first | apply Kd.S_alloc | apply Kd.S_drewN | apply Kd.S_drew)); exact Kd.S_mono (Kd.S_far (p := ⟨gb284, 3, none⟩) (Kd.S_types HO310.out BK284.out (by decide)) (fun _ hk => hk.2) (.slice Ao53 y311.length co53)) (fun _ hk => hk.1.2)⟩, ⟨by (with_reducible repeat (first | apply Kd.R_alloc | apply Kd.R_drewN | apply Kd.R_drew)); exact Kd.R_mono (Kd.R_far (p := ⟨gb284, 3, none⟩) (Kd.R_types HO313.out BK284.out (by decide)) (fun _ hk => hk.2) (.slice Ao53 y311.length co53)) (fun _ hk => trivial)⟩, ⟨by (with_reducible repeat (first | refine blk_drewN ?_ _ | refine blk_drew ?_ | refine blk_alloc ?_ _)); refine blk_put (cs := #[.slice Ao41 y302.length co41, .int .i64 1, .slice Ao49 y308.length co49, u285003, .int .i64 t283]) ?_ 3 _ rfl; (with_reducible repeat (first | refine blk_drewN ?_ _ | refine blk_drew ?_ | refine blk_alloc ?_ _)); exact BK284.out⟩, ⟨by repeat (first | (with_reducible first | exact HB.out | apply below_alloc | apply pw_below_drewN | apply below_drew1 | refine below_set ?_ GE284.out) | exact HB.out)⟩⟩
           ·
            rw [if_neg c38] at H
            exact absurd H (by simp)
          ·
           rw [if_neg c37] at H
           exact absurd H (by simp)
        ·
         rw [if_neg c35] at H
         exact absurd H (by simp)
      ·
       rw [if_neg c11] at H
       have c11b0 : decide ((wrap64 (1 + t282)) < t283) = false := decide_eq_false c11
       clear c11
       by_cases c55 : x285000_1.length < 8796093022208
       ·
        rw [if_pos c55] at H
        have LMc55 := Aside0.mk c55
        clear c55
        obtain ⟨y314, hy314⟩ : ∃ y_ : List (S45), y_ = (x285000_1 ++ [(⟨x8_1, 0⟩ : S45)]) := ⟨_, rfl⟩
        replace H : (if (wrap64 (1 + t282)) = 0 then (none) else (if x285002_1.length < 5864062014805 then (if x285003_1.length < 17592186044416 then (foretellkeep_FairRound.l0 k1 (wrap64 (1 + t282)) t283 (wrap64 (x8_1 + 1)) y314 1 (x285002_1 ++ [(([Int.tmod (wrap64 (x8_1 + 1)) (wrap64 (1 + t282))] : List Int))]) (x285003_1 ++ [ji10]) t283) else (none)) else (none))) = some r := by first | (rw [hy314]; with_reducible exact H) | (have H2_ := (Option.bind_some _ _).symm.trans H; rw [hy314]; with_reducible exact H2_) | (have H2_ := (Option.bind_some _ _).symm.trans H; with_reducible exact H2_) | with_reducible exact H | (rw [hy314]; exact H) | exact H
        have Ny314 := Aside0.mk hy314
        clear hy314
        by_cases c56 : (wrap64 (1 + t282)) = 0
        ·
         rw [if_pos c56] at H
         exact absurd H (by simp)
        ·
         rw [if_neg c56] at H
         have c56b0 : ((wrap64 (1 + t282)) == 0) = false := beq_eq_false_iff_ne.mpr c56
         have c56b1 : ((wrap64 (1 + t282)) != 0) = true := bne_iff_ne.mpr c56
         obtain ⟨y317, hy317⟩ : ∃ y_ : List Int, y_ = (([Int.tmod (wrap64 (x8_1 + 1)) (wrap64 (1 + t282))] : List Int)) := ⟨_, rfl⟩
         replace H : (if x285002_1.length < 5864062014805 then (if x285003_1.length < 17592186044416 then (foretellkeep_FairRound.l0 k1 (wrap64 (1 + t282)) t283 (wrap64 (x8_1 + 1)) y314 1 (x285002_1 ++ [y317]) (x285003_1 ++ [ji10]) t283) else (none)) else (none)) = some r := by first | (rw [hy317]; with_reducible exact H) | (have H2_ := (Option.bind_some _ _).symm.trans H; rw [hy317]; with_reducible exact H2_) | (have H2_ := (Option.bind_some _ _).symm.trans H; with_reducible exact H2_) | with_reducible exact H | (rw [hy317]; exact H) | exact H
         have Ny317 := Aside0.mk hy317
         clear hy317
         by_cases c57 : x285002_1.length < 5864062014805
         ·
          rw [if_pos c57] at H
          have LMc57 := Aside0.mk c57
          clear c57
          obtain ⟨y320, hy320⟩ : ∃ y_ : List (List Int), y_ = (x285002_1 ++ [y317]) := ⟨_, rfl⟩
          replace H : (if x285003_1.length < 17592186044416 then (foretellkeep_FairRound.l0 k1 (wrap64 (1 + t282)) t283 (wrap64 (x8_1 + 1)) y314 1 y320 (x285003_1 ++ [ji10]) t283) else (none)) = some r := by first | (rw [hy320]; with_reducible exact H) | (have H2_ := (Option.bind_some _ _).symm.trans H; rw [hy320]; with_reducible exact H2_) | (have H2_ := (Option.bind_some _ _).symm.trans H; with_reducible exact H2_) | with_reducible exact H | (rw [hy320]; exact H) | exact H
          have Ny320 := Aside0.mk hy320
          clear hy320
          by_cases c58 : x285003_1.length < 17592186044416
          ·
           rw [if_pos c58] at H
           have LMc58 := Aside0.mk c58
           clear c58
           obtain ⟨y323, hy323⟩ : ∃ y_ : List Int, y_ = (x285003_1 ++ [ji10]) := ⟨_, rfl⟩
           replace H : (foretellkeep_FairRound.l0 k1 (wrap64 (1 + t282)) t283 (wrap64 (x8_1 + 1)) y314 1 y320 y323 t283) = some r := by first | (rw [hy323]; with_reducible exact H) | (have H2_ := (Option.bind_some _ _).symm.trans H; rw [hy323]; with_reducible exact H2_) | (have H2_ := (Option.bind_some _ _).symm.trans H; with_reducible exact H2_) | with_reducible exact H | (rw [hy323]; exact H) | exact H
           have Ny323 := Aside0.mk hy323
           clear hy323
           have H' := Aside0.mk H
           clear H
           have hcz59_0 : wr.cell? ⟨gb284, 0, none⟩ = some (u285000) := (blk_cell BK284.out 0).trans rfl
           have hcz59_1 : wr.cell? ⟨gb284, 1, none⟩ = some (.int .i64 1) := (blk_cell BK284.out 1).trans rfl
           have hcz59_2 : wr.cell? ⟨gb284, 2, none⟩ = some (u285002) := (blk_cell BK284.out 2).trans rfl
           have hcz59_3 : wr.cell? ⟨gb284, 3, none⟩ = some (u285003) := (blk_cell BK284.out 3).trans rfl
           have hcz59_4 : wr.cell? ⟨gb284, 4, none⟩ = some (.int .i64 t283) := (blk_cell BK284.out 4).trans rfl
           have hfz59_0 := blk_frozen BK284.out 0
           have hfz59_1 := blk_frozen BK284.out 1
           have hfz59_2 := blk_frozen BK284.out 2
           have hfz59_3 := blk_frozen BK284.out 3
           have hfz59_4 := blk_frozen BK284.out 4
           try go_wp2_with (first | ((with_reducible refine gate_builtin (b := .append) (xs := #[.tmp 44, .tmp 47]) rfl ?_); at_builtin; refine Kd.R_append k45 (w0 := w) w.heap.size rfl (.tmp 44) (.tmp 47) 26 45 (.agg #[(.int .i64 0), (.int .i64 0)]) 16 rfl Try.underlying26 info45 rfl (by decide) (by omega) u285000 x285000_1 (⟨x8_1, 0⟩ : S45) [.int .i64 x8_1, .int .i64 0] (fun _ => True) (fun _ => False) rfl rfl ?aP (fun _ hk => hk.elim) ?aF ?aO ?aB ?aS ?aL ?_; (case aP => exact k45_mkM _ _ _ (⟨x8_1, 0⟩ : S45)); (case aB => exact (by repeat (first | (with_reducible first | exact HB.out | apply below_alloc | apply pw_below_drewN | apply below_drew1 | refine below_set ?_ GE284.out) | exact HB.out))); (case aF => exact (fun _ _ => trivial)); (case aO => exact (by (with_reducible repeat (first | apply Kd.R_alloc | apply Kd.R_drewN | apply Kd.R_drew)); exact HO_285000.out)); (case aS => exact (below_size (by repeat (first | (with_reducible first | exact HB.out | apply below_alloc | apply pw_below_drewN | apply below_drew1 | refine below_set ?_ GE284.out) | exact HB.out)))); (case aL => have := LMc55.out; omega); intro v315 w60 ho hb hg hat; rw [← Ny314.out] at ho; have n0_ := Aside0.mk (Kd.S_over' (by (with_reducible repeat (first | apply Kd.S_alloc | apply Kd.S_drewN | apply Kd.S_drew)); exact HO_285002.out) (Kd.R_typed (by (with_reducible repeat (first | apply Kd.R_alloc | apply Kd.R_drewN | apply Kd.R_drew)); exact HO_285000.out)) (by decide) hg); have n1_ := Aside0.mk (Kd.R_over' (by (with_reducible repeat (first | apply Kd.R_alloc | apply Kd.R_drewN | apply Kd.R_drew)); exact HO_285003.out) (Kd.R_typed (by (with_reducible repeat (first | apply Kd.R_alloc | apply Kd.R_drewN | apply Kd.R_drew)); exact HO_285000.out)) (by decide) hg); have n2_ := Aside0.mk (blk_grown (g := gb284) (o := .cells #[u285000, .int .i64 1, u285002, u285003, .int .i64 t283] 28 (0, 0)) (by (with_reducible repeat (first | refine blk_drewN ?_ _ | refine blk_drew ?_ | refine blk_alloc ?_ _)); exact BK284.out) hg (Kd.R_ne HO_285000.out BK284.out (by decide))); have n3_ := Aside0.mk (hb); have n4_ := Aside0.mk (ho); clear HO_285002; clear HO_285003; clear BK284; clear HB; clear HO_285000; have HO_285002 := n0_; have HO_285003 := n1_; have BK284 := n2_; have HB := n3_; have HO316 := n4_; clear n0_ n1_ n2_ n3_ n4_; clear ho hb hg hat; obtain ⟨Ao61, co61, eo61⟩ := Kd.R_slice HO316.out; subst eo61; have hcz62_0 : w60.cell? ⟨gb284, 0, none⟩ = some (u285000) := (blk_cell BK284.out 0).trans rfl; have hcz62_1 : w60.cell? ⟨gb284, 1, none⟩ = some (.int .i64 1) := (blk_cell BK284.out 1).trans rfl; have hcz62_2 : w60.cell? ⟨gb284, 2, none⟩ = some (u285002) := (blk_cell BK284.out 2).trans rfl; have hcz62_3 : w60.cell? ⟨gb284, 3, none⟩ = some (u285003) := (blk_cell BK284.out 3).trans rfl; have hcz62_4 : w60.cell? ⟨gb284, 4, none⟩ = some (.int .i64 t283) := (blk_cell BK284.out 4).trans rfl; have hfz62_0 := blk_frozen BK284.out 0; have hfz62_1 := blk_frozen BK284.out 1; have hfz62_2 := blk_frozen BK284.out 2; have hfz62_3 := blk_frozen BK284.out 3; have hfz62_4 := blk_frozen BK284.out 4))
           have n0_ : Aside0 (Kd.S (Kd.slice 3 (Kd.int .i64)) 23 (w60.setCell ⟨gb284, 0, none⟩ (.slice Ao61 y314.length co61)) w.heap.size (fun k_ => some k_ ≠ (u285003 : Value).ownBlock) u285002 x285002_1) := ⟨by (with_reducible repeat (first | apply Kd.S_alloc | apply Kd.S_drewN | apply Kd.S_drew)); exact Kd.S_mono (Kd.S_far (p := ⟨gb284, 0, none⟩) (Kd.S_types HO_285002.out BK284.out (by decide)) (fun _ hk => hk.2) (.slice Ao61 y314.length co61)) (fun _ hk => hk.1)⟩
           have n1_ : Aside0 (Kd.R (Kd.int .i64) 3 (w60.setCell ⟨gb284, 0, none⟩ (.slice Ao61 y314.length co61)) w.heap.size (fun _ => True) u285003 x285003_1) := ⟨by (with_reducible repeat (first | apply Kd.R_alloc | apply Kd.R_drewN | apply Kd.R_drew)); exact Kd.R_mono (Kd.R_far (p := ⟨gb284, 0, none⟩) (Kd.R_types HO_285003.out BK284.out (by decide)) (fun _ hk => hk.2) (.slice Ao61 y314.length co61)) (fun _ hk => trivial)⟩
           have n2_ : Aside0 (Kd.R k45 45 (w60.setCell ⟨gb284, 0, none⟩ (.slice Ao61 y314.length co61)) w.heap.size (fun _ => True) (.slice Ao61 y314.length co61) y314) := ⟨by (with_reducible repeat (first | apply Kd.R_alloc | apply Kd.R_drewN | apply Kd.R_drew)); exact Kd.R_mono (Kd.R_far (p := ⟨gb284, 0, none⟩) (Kd.R_types HO316.out BK284.out (by decide)) (fun _ hk => hk.2) (.slice Ao61 y314.length co61)) (fun _ hk => trivial)⟩
           have n3_ : Aside0 ((w60.setCell ⟨gb284, 0, none⟩ (.slice Ao61 y314.length co61)).heap[gb284]? = some (.cells #[.slice Ao61 y314.length co61, .int .i64 1, u285002, u285003, .int .i64 t283] 28 (0, 0))) := ⟨by (with_reducible repeat (first | refine blk_drewN ?_ _ | refine blk_drew ?_ | refine blk_alloc ?_ _)); refine blk_put (cs := #[u285000, .int .i64 1, u285002, u285003, .int .i64 t283]) ?_ 0 _ rfl; (with_reducible repeat (first | refine blk_drewN ?_ _ | refine blk_drew ?_ | refine blk_alloc ?_ _)); exact BK284.out⟩
           have n4_ : Aside0 (Below w.heap.size w (w60.setCell ⟨gb284, 0, none⟩ (.slice Ao61 y314.length co61))) := ⟨by repeat (first | (with_reducible first | exact HB.out | apply below_alloc | apply pw_below_drewN | apply below_drew1 | refine below_set ?_ GE284.out) | exact HB.out)⟩
           (try clear HO_285002)
           (try clear HO_285003)
           (try clear HO316)
           (try clear BK284)
           (try clear HB)
           generalize (w60.setCell ⟨gb284, 0, none⟩ (.slice Ao61 y314.length co61)) = w63 at n0_ n1_ n2_ n3_ n4_ ⊢
           have HO_285002 := n0_
           have HO_285003 := n1_
           have HO316 := n2_
           have BK284 := n3_
           have HB := n4_
           clear n0_ n1_ n2_ n3_ n4_
           have n0_ := Aside0.mk (Kd.S_drew HO_285002.out)
           have n1_ := Aside0.mk (Kd.R_drew HO_285003.out)
           have n2_ := Aside0.mk (Kd.R_drew HO316.out)
           have n3_ := Aside0.mk (blk_drew BK284.out)
           have n4_ := Aside0.mk (below_drew1 HB.out)
           clear HO_285002
           clear HO_285003
           clear HO316
           clear BK284
           clear HB
           have HO_285002 := n0_
           have HO_285003 := n1_
           have HO316 := n2_
           have BK284 := n3_
           have HB := n4_
           clear n0_ n1_ n2_ n3_ n4_
           refine start_ (n := 11) (S := fun w' => w'.cell? ⟨gb284, 0, none⟩ = some (.slice Ao61 y314.length co61) ∧ w'.cell? ⟨gb284, 1, none⟩ = some (.int .i64 1) ∧ w'.cell? ⟨gb284, 2, none⟩ = some (u285002) ∧ w'.cell? ⟨gb284, 3, none⟩ = some (u285003) ∧ w'.cell? ⟨gb284, 4, none⟩ = some (.int .i64 t283)) (ds := [10]) #[false, false, false, false, false, false, false, false, false, false, false] (by kernel_rfl) rfl rfl ⟨(blk_cell BK284.out 0).trans rfl, (blk_cell BK284.out 1).trans rfl, (blk_cell BK284.out 2).trans rfl, (blk_cell BK284.out 3).trans rfl, (blk_cell BK284.out 4).trans rfl⟩ (fun hHeld => ?_); refine with_tabW foretellkeep_FairRound.tab13 foretellkeep_FairRound.bits13 (fun HT_ HW_ => ?_)
           generalize w63.drew = w64 at HO_285002 HO_285003 HO316 BK284 HB hHeld ⊢
           refine pure_ (i := 0) (N := some 50) (v := ?_) (a' := ?_) #[true, false, false, false, false, false, false, false, false, false, false] rfl rfl (any_of HT_.out (by kernel_rfl)) (fun _ _ _ h => h) (Or.inl ⟨by rfl, ?_⟩) ?_ ?_
           rotate_left
           ·
            intro w'
            go_simp
            with_reducible rfl
           rotate_left
           ·
            simp only [Act.put, List.setIfInBounds_toArray, List.set_cons_zero, List.set_cons_succ, i64_w, i32_w]
            rfl
           refine pure_ (i := 2) (N := some 52) (v := ?_) (a' := ?_) #[true, false, true, false, false, false, false, false, false, false, false] rfl rfl (any_of HT_.out (by kernel_rfl)) (fun _ _ _ h => h) (Or.inl ⟨by rfl, ?_⟩) ?_ ?_
           rotate_left
           ·
            intro w'
            go_simp
            with_reducible rfl
           rotate_left
           ·
            simp only [Act.put, List.setIfInBounds_toArray, List.set_cons_zero, List.set_cons_succ, i64_w, i32_w]
            rfl
           refine pure_ (i := 3) (N := some 53) (v := ?_) (a' := ?_) #[true, false, true, true, false, false, false, false, false, false, false] rfl rfl (any_of HT_.out (by kernel_rfl)) (fun _ _ _ h => h) (Or.inl ⟨by rfl, ?_⟩) ?_ ?_
           rotate_left
           ·
            intro w'
            go_simp
            with_reducible rfl
           rotate_left
           ·
            simp only [Act.put, List.setIfInBounds_toArray, List.set_cons_zero, List.set_cons_succ, i64_w, i32_w]
            rfl
           refine pure_ (i := 4) (N := some 54) (v := ?_) (a' := ?_) #[true, false, true, true, true, false, false, false, false, false, false] rfl rfl (any_of HT_.out (by kernel_rfl)) (fun _ _ _ h => h) (Or.inl ⟨by rfl, ?_⟩) ?_ ?_
           rotate_left
           ·
            intro w'
            go_simp
            with_reducible rfl
           rotate_left
           ·
            simp only [Act.put, List.setIfInBounds_toArray, List.set_cons_zero, List.set_cons_succ, i64_w, i32_w]
            rfl
           refine pure_ (i := 5) (N := some 55) (v := ?_) (a' := ?_) #[true, false, true, true, true, true, false, false, false, false, false] rfl rfl (any_of HT_.out (by kernel_rfl)) (fun _ _ _ h => h) (Or.inl ⟨by rfl, ?_⟩) ?_ ?_
           rotate_left
           ·
            intro w'
            go_simp
            with_reducible rfl
           rotate_left
           ·
            simp only [Act.put, List.setIfInBounds_toArray, List.set_cons_zero, List.set_cons_succ, i64_w, i32_w]
            rfl
           refine take_ (i := 1) (N := some 51) (v := ?_) (a' := ?_) #[true, true, true, true, true, true, false, false, false, false, false] rfl rfl (take_ofW HT_.out HW_.out (by kernel_rfl)) (fun _ _ _ h => h) (Or.inl ⟨by rfl, ?_⟩) hHeld ?_ ?_
           rotate_left
           ·
            rintro w' ⟨s0, s1, s2, s3, s4⟩
            go_simp
            with_reducible rfl
           rotate_left
           ·
            simp only [Act.put, List.setIfInBounds_toArray, List.set_cons_zero, List.set_cons_succ, i64_w, i32_w]
            rfl
           refine one_ (i := 6) (N := some 56) #[true, true, true, true, true, true, true, false, false, false, false] rfl rfl (one_of HT_.out (by kernel_rfl)) (by decide) (fun K hK => ?_)
           refine Kd.R_lit_step (Kd.int .i64) _ 3 ?hg (N := 56) ?hd (xs := ([Int.tmod (wrap64 (x8_1 + 1)) (wrap64 (1 + t282))] : List Int)) (inner := [.int .i64 (Int.tmod (wrap64 (x8_1 + 1)) (wrap64 (1 + t282)))]) (ok := fun _ => True) (okp := fun _ => True) ?hr ?hp (fun _ hk => hk) trivial (Below.refl _ _) (Nat.le_refl _) (by simp) ?_; (case hd => rfl); (case hg => rfl); (case hr => first | (go_simp; done) | (go_simp; rfl)); (case hp => exact (Reps.one (show Kd.M (Kd.int .i64) _ _ _ (Int.tmod (wrap64 (x8_1 + 1)) (wrap64 (1 + t282))) [.int .i64 (Int.tmod (wrap64 (x8_1 + 1)) (wrap64 (1 + t282)))] from rfl) (Reps.none _ _)))
           intro v318 w65 ho66 hb hg_ hnew_
           clear hg_ hnew_
           (first | rw [← Ny317.out] at ho66 | (simp only [Int.reduceToNat] at ho66; rw [← Ny317.out] at ho66))
           have n0_ := Aside0.mk (Kd.S_elder' (by (with_reducible repeat (first | apply Kd.S_alloc | apply Kd.S_drewN | apply Kd.S_drew)); exact HO_285002.out) (Kd.R_base ho66) hb)
           have n1_ := Aside0.mk (Kd.R_elder' (by (with_reducible repeat (first | apply Kd.R_alloc | apply Kd.R_drewN | apply Kd.R_drew)); exact HO_285003.out) (Kd.R_base ho66) hb)
           have n2_ := Aside0.mk (Kd.R_below (by (with_reducible repeat (first | apply Kd.R_alloc | apply Kd.R_drewN | apply Kd.R_drew)); exact HO316.out) hb)
           have n3_ := Aside0.mk (Kd.R_lower (Kd.R_new' ho66 (Kd.R_lt (by (with_reducible repeat (first | apply Kd.R_alloc | apply Kd.R_drewN | apply Kd.R_drew)); exact HO_285003.out))) (below_size (by repeat (first | (with_reducible first | exact HB.out | apply below_alloc | apply pw_below_drewN | apply below_drew1 | refine below_set ?_ GE284.out) | exact HB.out))))
           have n4_ := Aside0.mk (blk_below (g := gb284) (o := .cells #[.slice Ao61 y314.length co61, .int .i64 1, u285002, u285003, .int .i64 t283] 28 (0, 0)) (by (with_reducible repeat (first | refine blk_drewN ?_ _ | refine blk_drew ?_ | refine blk_alloc ?_ _)); exact BK284.out) hb)
           have n5_ := Aside0.mk (below_step (by repeat (first | (with_reducible first | exact HB.out | apply below_alloc | apply pw_below_drewN | apply below_drew1 | refine below_set ?_ GE284.out) | exact HB.out)) hb)
           clear HO_285002
           clear HO_285003
           clear HO316
           clear BK284
           clear HB
           have HO_285002 := n0_
           have HO_285003 := n1_
           have HO316 := n2_
           have HO319 := n3_
           have BK284 := n4_
           have HB := n5_
           clear n0_ n1_ n2_ n3_ n4_ n5_
           clear hb ho66
           obtain ⟨Ao68, co68, eo68⟩ := Kd.R_slice HO319.out
           (first | subst eo68 | (injection eo68 with f1_ f2_ f3_; have f4_ := f1_.symm; have f5_ := f3_.symm; clear f1_ f2_ f3_; subst f4_; subst f5_))
           refine hK.out _ _ ⟨(blk_cell BK284.out 0).trans rfl, (blk_cell BK284.out 1).trans rfl, (blk_cell BK284.out 2).trans rfl, (blk_cell BK284.out 3).trans rfl, (blk_cell BK284.out 4).trans rfl⟩ (fun hHeld => ?_)
           clear hK K
           refine norm_ (a' := ?_) ?_ ?_
           rotate_left
           ·
            show Act.put _ (some 56) _ = _
            simp only [Act.put, List.setIfInBounds_toArray, List.set_cons_zero, List.set_cons_succ, i64_w, i32_w]
            rfl
           refine one_ (i := 7) (N := some 57) #[true, true, true, true, true, true, true, true, false, false, false] rfl rfl (one_of HT_.out (by kernel_rfl)) (by decide) (fun K hK => ?_)
           refine value_ (w1 := ?_) (v := ?_) (by rfl) rfl ?_ ?_
           rotate_left 2
           ·
            go_simp
            constructor
            ·
             rfl
            ·
             rfl
           refine hK.out _ _ ⟨(blk_cell (blk_alloc BK284.out _) 0).trans rfl, (blk_cell (blk_alloc BK284.out _) 1).trans rfl, (blk_cell (blk_alloc BK284.out _) 2).trans rfl, (blk_cell (blk_alloc BK284.out _) 3).trans rfl, (blk_cell (blk_alloc BK284.out _) 4).trans rfl⟩ (fun hHeld => ?_)
           clear hK K
           refine norm_ (a' := ?_) ?_ ?_
           rotate_left
           ·
            show Act.put _ (some 57) _ = _
            simp only [Act.put, List.setIfInBounds_toArray, List.set_cons_zero, List.set_cons_succ, i64_w, i32_w]
            rfl
           refine one_ (i := 8) (N := some 58) #[true, true, true, true, true, true, true, true, true, false, false] rfl rfl (one_of HT_.out (by kernel_rfl)) (by decide) (fun K hK => ?_)
           refine Kd.S_append_step (Kd.slice 3 (Kd.int .i64)) (w0 := w) w.heap.size (by rfl) (.tmp 51) (.tmp 57) 22 23 (.slice none 0 0) 24 rfl Try.underlying22 info23 rfl (by decide) (by omega) u285002 x285002_1 y317 [.slice Ao68 y317.length co68] (fun k_ => some k_ ≠ (u285003 : Value).ownBlock) (fun k_ => some k_ = (.slice Ao68 y317.length co68 : Value).ownBlock) rfl rfl ?aP (fun k_ hk_ => ((Kd.R_mono (ok' := fun k_ => ((fun k_ => some k_ ≠ (u285003 : Value).ownBlock)) k_ ∧ some k_ ≠ (u285002 : Value).ownBlock) (Kd.R_apart' (HO319.out) (Kd.S_typed HO_285002.out) (by decide)) (fun k_ hk => ⟨hk.1.2, hk.2⟩))).1 k_ hk_.symm) ?aF ?aO ?aB ?aS ?aL ?_
           (case aP => exact Kd.M_row (Kd.R_mono (Kd.R_tight rfl (Kd.R_mono (ok' := fun k_ => ((fun k_ => some k_ ≠ (u285003 : Value).ownBlock)) k_ ∧ some k_ ≠ (u285002 : Value).ownBlock) (Kd.R_apart' (HO319.out) (Kd.S_typed HO_285002.out) (by decide)) (fun k_ hk => ⟨hk.1.2, hk.2⟩))) (fun _ h_ => h_)))
           (case aB => exact (by repeat (first | (with_reducible first | exact HB.out | apply below_alloc | apply pw_below_drewN | apply below_drew1 | refine below_set ?_ GE284.out) | exact HB.out)))
           (case aF => exact (fun k_ hk => Kd.fresh' (Kd.R_lt (by (with_reducible repeat (first | apply Kd.R_alloc | apply Kd.R_drewN | apply Kd.R_drew)); exact HO_285003.out)) k_ hk))
           (case aO => exact (by (with_reducible repeat (first | apply Kd.S_alloc | apply Kd.S_drewN | apply Kd.S_drew)); exact Kd.S_mono HO_285002.out (fun k_ hk => ⟨hk.1, fun e_ => hk.2 e_⟩)))
           (case aS => exact (below_size (by repeat (first | (with_reducible first | exact HB.out | apply below_alloc | apply pw_below_drewN | apply below_drew1 | refine below_set ?_ GE284.out) | exact HB.out))))
           (case aL => have := LMc57.out; omega)
           intro v321 w67 ho hb hg hat
           rw [← Ny320.out] at ho
           have n0_ := Aside0.mk (Kd.R_over' (by (with_reducible repeat (first | apply Kd.R_alloc | apply Kd.R_drewN | apply Kd.R_drew)); exact HO_285003.out) (Kd.S_typed (by (with_reducible repeat (first | apply Kd.S_alloc | apply Kd.S_drewN | apply Kd.S_drew)); exact HO_285002.out)) (by decide) hg)
           have n1_ := Aside0.mk (blk_grown (g := gb284) (o := .cells #[.slice Ao61 y314.length co61, .int .i64 1, u285002, u285003, .int .i64 t283] 28 (0, 0)) (by (with_reducible repeat (first | refine blk_drewN ?_ _ | refine blk_drew ?_ | refine blk_alloc ?_ _)); exact BK284.out) hg (Kd.S_ne HO_285002.out BK284.out (by decide)))
           have n2_ := Aside0.mk (Kd.R_over' (by (with_reducible repeat (first | apply Kd.R_alloc | apply Kd.R_drewN | apply Kd.R_drew)); exact HO316.out) (Kd.S_typed (by (with_reducible repeat (first | apply Kd.S_alloc | apply Kd.S_drewN | apply Kd.S_drew)); exact HO_285002.out)) (by decide) hg)
           have n3_ := Aside0.mk (hb)
           have n4_ := Aside0.mk (ho)
           clear HO_285003
           clear BK284
           clear HO316
           clear HB
           clear HO_285002
           clear HO319
           have HO_285003 := n0_
           have BK284 := n1_
           have HO316 := n2_
           have HB := n3_
           have HO322 := n4_
           clear n0_ n1_ n2_ n3_ n4_
           clear ho hb hg hat
           obtain ⟨Ao69, co69, eo69⟩ := Kd.S_slice HO322.out
           (first | subst eo69 | (injection eo69 with f1_ f2_ f3_; have f4_ := f1_.symm; have f5_ := f3_.symm; clear f1_ f2_ f3_; subst f4_; subst f5_))
           refine hK.out _ _ ⟨(blk_cell BK284.out 0).trans rfl, (blk_cell BK284.out 1).trans rfl, (blk_cell BK284.out 2).trans rfl, (blk_cell BK284.out 3).trans rfl, (blk_cell BK284.out 4).trans rfl⟩ (fun hHeld => ?_)
           clear hK K
           refine norm_ (a' := ?_) ?_ ?_
           rotate_left
           ·
            show Act.put _ (some 58) _ = _
            simp only [Act.put, List.setIfInBounds_toArray, List.set_cons_zero, List.set_cons_succ, i64_w, i32_w]
            rfl
           refine pure_ (i := 9) (N := some 59) (v := ?_) (a' := ?_) #[true, true, true, true, true, true, true, true, true, true, false] rfl rfl (any_of HT_.out (by kernel_rfl)) (fun _ _ _ h => h) (Or.inl ⟨by rfl, ?_⟩) ?_ ?_
           rotate_left
           ·
            intro w'
            go_simp
            with_reducible rfl
           rotate_left
           ·
            simp only [Act.put, List.setIfInBounds_toArray, List.set_cons_zero, List.set_cons_succ, i64_w, i32_w]
            rfl
           refine last_ (i := 10) (N := none) #[true, true, true, true, true, true, true, true, true, true, true] rfl rfl (one_of HT_.out (by kernel_rfl)) (by decide) (fun K hK => ?_)
           have hs70 : w67.cell? ⟨gb284, 2, none⟩ = some (u285002) := (blk_cell BK284.out 2).trans rfl
           have hfs70 := blk_frozen BK284.out 2
           refine skip_ (w1 := ?_) (by rfl) rfl ?_ ?_
           rotate_left
           ·
            go_simp
            rfl
           refine hK.out _ _ ?_
           clear hK K
           refine done_ (done_of HT_.out (by kernel_rfl)) ?_
           have hcz71_0 : w67.cell? ⟨gb284, 0, none⟩ = some (.slice Ao61 y314.length co61) := (blk_cell BK284.out 0).trans rfl
           have hcz71_1 : w67.cell? ⟨gb284, 1, none⟩ = some (.int .i64 1) := (blk_cell BK284.out 1).trans rfl
           have hcz71_2 : w67.cell? ⟨gb284, 2, none⟩ = some (u285002) := (blk_cell BK284.out 2).trans rfl
           have hcz71_3 : w67.cell? ⟨gb284, 3, none⟩ = some (u285003) := (blk_cell BK284.out 3).trans rfl
           have hcz71_4 : w67.cell? ⟨gb284, 4, none⟩ = some (.int .i64 t283) := (blk_cell BK284.out 4).trans rfl
           have hfz71_0 := blk_frozen BK284.out 0
           have hfz71_1 := blk_frozen BK284.out 1
           have hfz71_2 := blk_frozen BK284.out 2
           have hfz71_3 := blk_frozen BK284.out 3
           have hfz71_4 := blk_frozen BK284.out 4
           try go_wp2_with (first | ((with_reducible refine gate_builtin (b := .append) (xs := #[.tmp 61, .tmp 63]) rfl ?_); at_builtin; refine Kd.R_append (Kd.int .i64) (w0 := w) w.heap.size rfl (.tmp 61) (.tmp 63) 23 3 (.int .i64 0) 8 rfl Try.underlying23 info3 rfl (by decide) (by omega) u285003 x285003_1 ji10 [.int .i64 ji10] (fun _ => True) (fun _ => False) rfl (by first | (go_simp; done) | (go_simp; rfl)) ?aP (fun _ hk => hk.elim) ?aF ?aO ?aB ?aS ?aL ?_; (case aP => exact rfl); (case aB => exact (by repeat (first | (with_reducible first | exact HB.out | apply below_alloc | apply pw_below_drewN | apply below_drew1 | refine below_set ?_ GE284.out) | exact HB.out))); (case aF => exact (fun _ _ => trivial)); (case aO => exact (by (with_reducible repeat (first | apply Kd.R_alloc | apply Kd.R_drewN | apply Kd.R_drew)); exact Kd.R_mono (Kd.R_far (p := ⟨gb284, 2, none⟩) (Kd.R_types HO_285003.out BK284.out (by decide)) (fun _ hk => hk.2) (.slice Ao69 y320.length co69)) (fun _ hk => trivial))); (case aS => exact (below_size (by repeat (first | (with_reducible first | exact HB.out | apply below_alloc | apply pw_below_drewN | apply below_drew1 | refine below_set ?_ GE284.out) | exact HB.out)))); (case aL => have := LMc58.out; omega); intro v324 w72 ho hb hg hat; rw [← Ny323.out] at ho; have n0_ := Aside0.mk (blk_grown (g := gb284) (o := .cells #[.slice Ao61 y314.length co61, .int .i64 1, .slice Ao69 y320.length co69, u285003, .int .i64 t283] 28 (0, 0)) (by (with_reducible repeat (first | refine blk_drewN ?_ _ | refine blk_drew ?_ | refine blk_alloc ?_ _)); refine blk_put (cs := #[.slice Ao61 y314.length co61, .int .i64 1, u285002, u285003, .int .i64 t283]) ?_ 2 _ rfl; (with_reducible repeat (first | refine blk_drewN ?_ _ | refine blk_drew ?_ | refine blk_alloc ?_ _)); exact BK284.out) hg (Kd.R_ne HO_285003.out BK284.out (by decide))); have n1_ := Aside0.mk (Kd.R_over' (by (with_reducible repeat (first | apply Kd.R_alloc | apply Kd.R_drewN | apply Kd.R_drew)); exact (Kd.R_mono (Kd.R_far (p := ⟨gb284, 2, none⟩) (Kd.R_types HO316.out BK284.out (by decide)) (fun _ hk => hk.2) (.slice Ao69 y320.length co69)) (fun _ h_ => h_.1))) (Kd.R_typed (by (with_reducible repeat (first | apply Kd.R_alloc | apply Kd.R_drewN | apply Kd.R_drew)); exact (Kd.R_mono (Kd.R_far (p := ⟨gb284, 2, none⟩) (Kd.R_types HO_285003.out BK284.out (by decide)) (fun _ hk => hk.2) (.slice Ao69 y320.length co69)) (fun _ h_ => h_.1)))) (by decide) hg); have n2_ := Aside0.mk (Kd.S_after (ok := (fun _ => True)) (by (with_reducible repeat (first | apply Kd.S_alloc | apply Kd.S_drewN | apply Kd.S_drew)); exact Kd.S_mono (Kd.S_far (p := ⟨gb284, 2, none⟩) (Kd.S_types HO322.out BK284.out (by decide)) (fun _ hk => hk.2) (.slice Ao69 y320.length co69)) (fun _ hk => ⟨trivial, hk.1⟩)) hg hat); have n3_ := Aside0.mk (hb); have n4_ := Aside0.mk (ho); clear BK284; clear HO316; clear HO322; clear HB; clear HO_285003; have BK284 := n0_; have HO316 := n1_; have HO322 := n2_; have HB := n3_; have HO325 := n4_; clear n0_ n1_ n2_ n3_ n4_; clear ho hb hg hat; obtain ⟨Ao73, co73, eo73⟩ := Kd.R_slice HO325.out; subst eo73; have hcz74_0 : w72.cell? ⟨gb284, 0, none⟩ = some (.slice Ao61 y314.length co61) := (blk_cell BK284.out 0).trans rfl; have hcz74_1 : w72.cell? ⟨gb284, 1, none⟩ = some (.int .i64 1) := (blk_cell BK284.out 1).trans rfl; have hcz74_2 : w72.cell? ⟨gb284, 2, none⟩ = some (.slice Ao69 y320.length co69) := (blk_cell BK284.out 2).trans rfl; have hcz74_3 : w72.cell? ⟨gb284, 3, none⟩ = some (u285003) := (blk_cell BK284.out 3).trans rfl; have hcz74_4 : w72.cell? ⟨gb284, 4, none⟩ = some (.int .i64 t283) := (blk_cell BK284.out 4).trans rfl; have hfz74_0 := blk_frozen BK284.out 0; have hfz74_1 := blk_frozen BK284.out 1; have hfz74_2 := blk_frozen BK284.out 2; have hfz74_3 := blk_frozen BK284.out 3; have hfz74_4 := blk_frozen BK284.out 4))
           go_roundg k1
           case measure => have := HK1.out; omega
           case rel => exact ⟨(wrap64 (x8_1 + 1)), (y314), (y320), (y323), (.slice Ao61 y314.length co61), (.slice Ao69 y320.length co69), (.slice Ao73 y323.length co73), (by first | rfl | (simp; done) | (simp [*]; done)), (by first | exact H' | (rw [hji14]; exact H') | (rw [hji10]; exact H') | (rw [hji10, hji14]; exact H') | (rw [hji14, hji10]; exact H')), ⟨by have := HK1.out; omega⟩, ⟨by (with_reducible repeat (first | apply Kd.R_alloc | apply Kd.R_drewN | apply Kd.R_drew)); exact Kd.R_mono (Kd.R_far (p := ⟨gb284, 3, none⟩) (Kd.R_types HO316.out BK284.out (by decide)) (fun _ hk => hk.2) (.slice Ao73 y323.length co73)) (fun _ hk => trivial)⟩, ⟨by (with_reducible repeat (first | apply Kd.S_alloc | apply Kd.S_drewN | apply Kd.S_drew)); exact Kd.S_mono (Kd.S_far (p := ⟨gb284, 3, none⟩) (Kd.S_types HO322.out BK284.out (by decide)) (fun _ hk => hk.2) (.slice Ao73 y323.length co73)) (fun _ hk => hk.1.2)⟩, ⟨by (with_reducible repeat (first | apply Kd.R_alloc | apply Kd.R_drewN | apply Kd.R_drew)); exact Kd.R_mono (Kd.R_far (p := ⟨gb284, 3, none⟩) (Kd.R_types HO325.out BK284.out (by decide)) (fun _ hk => hk.2) (.slice Ao73 y323.length co73)) (fun _ hk => trivial)⟩, ⟨by (with_reducible repeat (first | refine blk_drewN ?_ _ | refine blk_drew ?_ | refine blk_alloc ?_ _)); refine blk_put (cs := #[.slice Ao61 y314.length co61, .int .i64 1, .slice Ao69 y320.length co69, u285003, .int .i64 t283]) ?_ 3 _ rfl; (with_reducible repeat (first | refine blk_drewN ?_ _ | refine blk_drew ?_ | refine blk_alloc ?_ _)); exact BK284.out⟩, ⟨by repeat (first | (with_reducible first | exact HB.out | apply below_alloc | apply pw_below_drewN | apply below_drew1 | refine below_set ?_ GE284.out) | exact HB.out)⟩⟩
          ·
           rw [if_neg c58] at H
           exact absurd H (by simp)
         ·
          rw [if_neg c57] at H
          exact absurd H (by simp)
       ·
        rw [if_neg c55] at H
        exact absurd H (by simp)
     ·
      rw [if_neg c9] at H
      exact absurd H (by simp)
    ·
     rw [if_neg c8] at H
     have c8b0 : decide (x8_1 < t283) = false := decide_eq_false c8
     clear c8
     by_cases c75 : (wrap64 (1 + t282)) < t283
     ·
      rw [if_pos c75] at H
      have c75b0 : decide ((wrap64 (1 + t282)) < t283) = true := decide_eq_true c75
      clear c75
      by_cases c76 : x8_1 = (wrap64 ((wrap64 (1 + t282)) - 1))
      ·
       rw [if_pos c76] at H
       have c76b0 : (x8_1 == (wrap64 ((wrap64 (1 + t282)) - 1))) = true := beq_iff_eq.mpr c76
       have c76b1 : (x8_1 != (wrap64 ((wrap64 (1 + t282)) - 1))) = false := bne_eq_false_iff_eq.mpr c76
       clear c76
       by_cases c77 : 0 ≤ t283
       ·
        rw [if_pos c77] at H
        have c77b0 := eq_true c77
        have c77b1 : decide (0 ≤ t283) = true := decide_eq_true c77
        clear c77
        obtain ⟨ji78, hji78⟩ : ∃ j_ : Int, (shl .i64 1 t283) = j_ := ⟨_, rfl⟩
        replace H : (if x285000_1.length < 8796093022208 then (if (wrap64 (1 + t282)) = 0 then (none) else (if x285002_1.length < 5864062014805 then (if x285003_1.length < 17592186044416 then (foretellkeep_FairRound.l0 k1 (wrap64 (1 + t282)) t283 (wrap64 (x8_1 + 1)) (x285000_1 ++ [(⟨x8_1, 0⟩ : S45)]) 1 (x285002_1 ++ [(([Int.tmod (wrap64 (x8_1 + 1)) (wrap64 (1 + t282))] : List Int))]) (x285003_1 ++ [wrap64 ((ji78) - 1)]) t283) else (none)) else (none))) else (none)) = some r := by first | (rw [hji78] at H; exact H) | (simp only [hji78] at H ⊢; exact H)
        have hji78_ : (IntKind.i64.wrap (1 * 2 ^ min t283.toNat 64)) = ji78 := hji78
        have hji78z : t283 ≤ 64 → (IntKind.i64.wrap (1 * 2 ^ t283.toNat)) = ji78 := shl_small hji78
        have hji78u : (IntKind.i64.wrap (2 ^ min t283.toNat 64)) = ji78 := by have h_ := hji78_; rw [Int.one_mul] at h_; exact h_
        have hji78v : t283 ≤ 64 → (IntKind.i64.wrap (2 ^ t283.toNat)) = ji78 := fun hle_ => by have h_ := hji78z hle_; rw [Int.one_mul] at h_; exact h_
        have hji78y : (wrap64 (1 * 2 ^ min t283.toNat 64)) = ji78 := (i64_w _).symm.trans hji78_
        have hji78x : t283 ≤ 64 → (wrap64 (1 * 2 ^ t283.toNat)) = ji78 := fun h_ => (i64_w _).symm.trans (hji78z h_)
        by_cases c79 : x285000_1.length < 8796093022208
        ·
         rw [if_pos c79] at H
         have LMc79 := Aside0.mk c79
         clear c79
         obtain ⟨y326, hy326⟩ : ∃ y_ : List (S45), y_ = (x285000_1 ++ [(⟨x8_1, 0⟩ : S45)]) := ⟨_, rfl⟩
         replace H : (if (wrap64 (1 + t282)) = 0 then (none) else (if x285002_1.length < 5864062014805 then (if x285003_1.length < 17592186044416 then (foretellkeep_FairRound.l0 k1 (wrap64 (1 + t282)) t283 (wrap64 (x8_1 + 1)) y326 1 (x285002_1 ++ [(([Int.tmod (wrap64 (x8_1 + 1)) (wrap64 (1 + t282))] : List Int))]) (x285003_1 ++ [wrap64 ((ji78) - 1)]) t283) else (none)) else (none))) = some r := by first | (rw [hy326]; with_reducible exact H) | (have H2_ := (Option.bind_some _ _).symm.trans H; rw [hy326]; with_reducible exact H2_) | (have H2_ := (Option.bind_some _ _).symm.trans H; with_reducible exact H2_) | with_reducible exact H | (rw [hy326]; exact H) | exact H
         have Ny326 := Aside0.mk hy326
         clear hy326
         by_cases c80 : (wrap64 (1 + t282)) = 0
         ·
          rw [if_pos c80] at H
          exact absurd H (by simp)
         ·
          rw [if_neg c80] at H
          have c80b0 : ((wrap64 (1 + t282)) == 0) = false := beq_eq_false_iff_ne.mpr c80
          have c80b1 : ((wrap64 (1 + t282)) != 0) = true := bne_iff_ne.mpr c80
          obtain ⟨y329, hy329⟩ : ∃ y_ : List Int, y_ = (([Int.tmod (wrap64 (x8_1 + 1)) (wrap64 (1 + t282))] : List Int)) := ⟨_, rfl⟩
          replace H : (if x285002_1.length < 5864062014805 then (if x285003_1.length < 17592186044416 then (foretellkeep_FairRound.l0 k1 (wrap64 (1 + t282)) t283 (wrap64 (x8_1 + 1)) y326 1 (x285002_1 ++ [y329]) (x285003_1 ++ [wrap64 ((ji78) - 1)]) t283) else (none)) else (none)) = some r := by first | (rw [hy329]; with_reducible exact H) | (have H2_ := (Option.bind_some _ _).symm.trans H; rw [hy329]; with_reducible exact H2_) | (have H2_ := (Option.bind_some _ _).symm.trans H; with_reducible exact H2_) | with_reducible exact H | (rw [hy329]; exact H) | exact H
          have Ny329 := Aside0.mk hy329
          clear hy329
          by_cases c81 : x285002_1.length < 5864062014805
          ·
           rw [if_pos c81] at H
           have LMc81 := Aside0.mk c81
           clear c81
           obtain ⟨y332, hy332⟩ : ∃ y_ : List (List Int), y_ = (x285002_1 ++ [y329]) := ⟨_, rfl⟩
           replace H : (if x285003_1.length < 17592186044416 then (foretellkeep_FairRound.l0 k1 (wrap64 (1 + t282)) t283 (wrap64 (x8_1 + 1)) y326 1 y332 (x285003_1 ++ [wrap64 ((ji78) - 1)]) t283) else (none)) = some r := by first | (rw [hy332]; with_reducible exact H) | (have H2_ := (Option.bind_some _ _).symm.trans H; rw [hy332]; with_reducible exact H2_) | (have H2_ := (Option.bind_some _ _).symm.trans H; with_reducible exact H2_) | with_reducible exact H | (rw [hy332]; exact H) | exact H
           have Ny332 := Aside0.mk hy332
           clear hy332
           by_cases c82 : x285003_1.length < 17592186044416
           ·
            rw [if_pos c82] at H
            have LMc82 := Aside0.mk c82
            clear c82
            obtain ⟨y335, hy335⟩ : ∃ y_ : List Int, y_ = (x285003_1 ++ [wrap64 ((ji78) - 1)]) := ⟨_, rfl⟩
            replace H : (foretellkeep_FairRound.l0 k1 (wrap64 (1 + t282)) t283 (wrap64 (x8_1 + 1)) y326 1 y332 y335 t283) = some r := by first | (rw [hy335]; with_reducible exact H) | (have H2_ := (Option.bind_some _ _).symm.trans H; rw [hy335]; with_reducible exact H2_) | (have H2_ := (Option.bind_some _ _).symm.trans H; with_reducible exact H2_) | with_reducible exact H | (rw [hy335]; exact H) | exact H
            have Ny335 := Aside0.mk hy335
            clear hy335
            have H' := Aside0.mk H
            clear H
            have hcz83_0 : wr.cell? ⟨gb284, 0, none⟩ = some (u285000) := (blk_cell BK284.out 0).trans rfl
            have hcz83_1 : wr.cell? ⟨gb284, 1, none⟩ = some (.int .i64 1) := (blk_cell BK284.out 1).trans rfl
            have hcz83_2 : wr.cell? ⟨gb284, 2, none⟩ = some (u285002) := (blk_cell BK284.out 2).trans rfl
            have hcz83_3 : wr.cell? ⟨gb284, 3, none⟩ = some (u285003) := (blk_cell BK284.out 3).trans rfl
            have hcz83_4 : wr.cell? ⟨gb284, 4, none⟩ = some (.int .i64 t283) := (blk_cell BK284.out 4).trans rfl
            have hfz83_0 := blk_frozen BK284.out 0
            have hfz83_1 := blk_frozen BK284.out 1
            have hfz83_2 := blk_frozen BK284.out 2
            have hfz83_3 := blk_frozen BK284.out 3
            have hfz83_4 := blk_frozen BK284.out 4
            try go_wp2_with (first | ((with_reducible refine gate_builtin (b := .append) (xs := #[.tmp 44, .tmp 47]) rfl ?_); at_builtin; refine Kd.R_append k45 (w0 := w) w.heap.size rfl (.tmp 44) (.tmp 47) 26 45 (.agg #[(.int .i64 0), (.int .i64 0)]) 16 rfl Try.underlying26 info45 rfl (by decide) (by omega) u285000 x285000_1 (⟨x8_1, 0⟩ : S45) [.int .i64 x8_1, .int .i64 0] (fun _ => True) (fun _ => False) rfl rfl ?aP (fun _ hk => hk.elim) ?aF ?aO ?aB ?aS ?aL ?_; (case aP => exact k45_mkM _ _ _ (⟨x8_1, 0⟩ : S45)); (case aB => exact (by repeat (first | (with_reducible first | exact HB.out | apply below_alloc | apply pw_below_drewN | apply below_drew1 | refine below_set ?_ GE284.out) | exact HB.out))); (case aF => exact (fun _ _ => trivial)); (case aO => exact (by (with_reducible repeat (first | apply Kd.R_alloc | apply Kd.R_drewN | apply Kd.R_drew)); exact HO_285000.out)); (case aS => exact (below_size (by repeat (first | (with_reducible first | exact HB.out | apply below_alloc | apply pw_below_drewN | apply below_drew1 | refine below_set ?_ GE284.out) | exact HB.out)))); (case aL => have := LMc79.out; omega); intro v327 w84 ho hb hg hat; rw [← Ny326.out] at ho; have n0_ := Aside0.mk (Kd.S_over' (by (with_reducible repeat (first | apply Kd.S_alloc | apply Kd.S_drewN | apply Kd.S_drew)); exact HO_285002.out) (Kd.R_typed (by (with_reducible repeat (first | apply Kd.R_alloc | apply Kd.R_drewN | apply Kd.R_drew)); exact HO_285000.out)) (by decide) hg); have n1_ := Aside0.mk (Kd.R_over' (by (with_reducible repeat (first | apply Kd.R_alloc | apply Kd.R_drewN | apply Kd.R_drew)); exact HO_285003.out) (Kd.R_typed (by (with_reducible repeat (first | apply Kd.R_alloc | apply Kd.R_drewN | apply Kd.R_drew)); exact HO_285000.out)) (by decide) hg); have n2_ := Aside0.mk (blk_grown (g := gb284) (o := .cells #[u285000, .int .i64 1, u285002, u285003, .int .i64 t283] 28 (0, 0)) (by (with_reducible repeat (first | refine blk_drewN ?_ _ | refine blk_drew ?_ | refine blk_alloc ?_ _)); exact BK284.out) hg (Kd.R_ne HO_285000.out BK284.out (by decide))); have n3_ := Aside0.mk (hb); have n4_ := Aside0.mk (ho); clear HO_285002; clear HO_285003; clear BK284; clear HB; clear HO_285000; have HO_285002 := n0_; have HO_285003 := n1_; have BK284 := n2_; have HB := n3_; have HO328 := n4_; clear n0_ n1_ n2_ n3_ n4_; clear ho hb hg hat; obtain ⟨Ao85, co85, eo85⟩ := Kd.R_slice HO328.out; subst eo85; have hcz86_0 : w84.cell? ⟨gb284, 0, none⟩ = some (u285000) := (blk_cell BK284.out 0).trans rfl; have hcz86_1 : w84.cell? ⟨gb284, 1, none⟩ = some (.int .i64 1) := (blk_cell BK284.out 1).trans rfl; have hcz86_2 : w84.cell? ⟨gb284, 2, none⟩ = some (u285002) := (blk_cell BK284.out 2).trans rfl; have hcz86_3 : w84.cell? ⟨gb284, 3, none⟩ = some (u285003) := (blk_cell BK284.out 3).trans rfl; have hcz86_4 : w84.cell? ⟨gb284, 4, none⟩ = some (.int .i64 t283) := (blk_cell BK284.out 4).trans rfl; have hfz86_0 := blk_frozen BK284.out 0; have hfz86_1 := blk_frozen BK284.out 1; have hfz86_2 := blk_frozen BK284.out 2; have hfz86_3 := blk_frozen BK284.out 3; have hfz86_4 := blk_frozen BK284.out 4))
            have n0_ : Aside0 (Kd.S (Kd.slice 3 (Kd.int .i64)) 23 (w84.setCell ⟨gb284, 0, none⟩ (.slice Ao85 y326.length co85)) w.heap.size (fun k_ => some k_ ≠ (u285003 : Value).ownBlock) u285002 x285002_1) := ⟨by (with_reducible repeat (first | apply Kd.S_alloc | apply Kd.S_drewN | apply Kd.S_drew)); exact Kd.S_mono (Kd.S_far (p := ⟨gb284, 0, none⟩) (Kd.S_types HO_285002.out BK284.out (by decide)) (fun _ hk => hk.2) (.slice Ao85 y326.length co85)) (fun _ hk => hk.1)⟩
            have n1_ : Aside0 (Kd.R (Kd.int .i64) 3 (w84.setCell ⟨gb284, 0, none⟩ (.slice Ao85 y326.length co85)) w.heap.size (fun _ => True) u285003 x285003_1) := ⟨by (with_reducible repeat (first | apply Kd.R_alloc | apply Kd.R_drewN | apply Kd.R_drew)); exact Kd.R_mono (Kd.R_far (p := ⟨gb284, 0, none⟩) (Kd.R_types HO_285003.out BK284.out (by decide)) (fun _ hk => hk.2) (.slice Ao85 y326.length co85)) (fun _ hk => trivial)⟩
            have n2_ : Aside0 (Kd.R k45 45 (w84.setCell ⟨gb284, 0, none⟩ (.slice Ao85 y326.length co85)) w.heap.size (fun _ => True) (.slice Ao85 y326.length co85) y326) := ⟨by (with_reducible repeat (first | apply Kd.R_alloc | apply Kd.R_drewN | apply Kd.R_drew)); exact Kd.R_mono (Kd.R_far (p := ⟨gb284, 0, none⟩) (Kd.R_types HO328.out BK284.out (by decide)) (fun _ hk => hk.2) (.slice Ao85 y326.length co85)) (fun _ hk => trivial)⟩
            have n3_ : Aside0 ((w84.setCell ⟨gb284, 0, none⟩ (.slice Ao85 y326.length co85)).heap[gb284]? = some (.cells #[.slice Ao85 y326.length co85, .int .i64 1, u285002, u285003, .int .i64 t283] 28 (0, 0))) := ⟨by (with_reducible repeat (first | refine blk_drewN ?_ _ | refine blk_drew ?_ | refine blk_alloc ?_ _)); refine blk_put (cs := #[u285000, .int .i64 1, u285002, u285003, .int .i64 t283]) ?_ 0 _ rfl; (with_reducible repeat (first | refine blk_drewN ?_ _ | refine blk_drew ?_ | refine blk_alloc ?_ _)); exact BK284.out⟩
            have n4_ : Aside0 (Below w.heap.size w (w84.setCell ⟨gb284, 0, none⟩ (.slice Ao85 y326.length co85))) := ⟨by repeat (first | (with_reducible first | exact HB.out | apply below_alloc | apply pw_below_drewN | apply below_drew1 | refine below_set ?_ GE284.out) | exact HB.out)⟩
            (try clear HO_285002)
            (try clear HO_285003)
            (try clear HO328)
            (try clear BK284)
            (try clear HB)
            generalize (w84.setCell ⟨gb284, 0, none⟩ (.slice Ao85 y326.length co85)) = w87 at n0_ n1_ n2_ n3_ n4_ ⊢
            have HO_285002 := n0_
            have HO_285003 := n1_
            have HO328 := n2_
            have BK284 := n3_
            have HB := n4_
            clear n0_ n1_ n2_ n3_ n4_
            have n0_ := Aside0.mk (Kd.S_drew HO_285002.out)
            have n1_ := Aside0.mk (Kd.R_drew HO_285003.out)
            have n2_ := Aside0.mk (Kd.R_drew HO328.out)
            have n3_ := Aside0.mk (blk_drew BK284.out)
            have n4_ := Aside0.mk (below_drew1 HB.out)
            clear HO_285002
            clear HO_285003
            clear HO328
            clear BK284
            clear HB
            have HO_285002 := n0_
            have HO_285003 := n1_
            have HO328 := n2_
            have BK284 := n3_
            have HB := n4_
            clear n0_ n1_ n2_ n3_ n4_
            refine start_ (n := 11) (S := fun w' => w'.cell? ⟨gb284, 0, none⟩ = some (.slice Ao85 y326.length co85) ∧ w'.cell? ⟨gb284, 1, none⟩ = some (.int .i64 1) ∧ w'.cell? ⟨gb284, 2, none⟩ = some (u285002) ∧ w'.cell? ⟨gb284, 3, none⟩ = some (u285003) ∧ w'.cell? ⟨gb284, 4, none⟩ = some (.int .i64 t283)) (ds := [10]) #[false, false, false, false, false, false, false, false, false, false, false] (by kernel_rfl) rfl rfl ⟨(blk_cell BK284.out 0).trans rfl, (blk_cell BK284.out 1).trans rfl, (blk_cell BK284.out 2).trans rfl, (blk_cell BK284.out 3).trans rfl, (blk_cell BK284.out 4).trans rfl⟩ (fun hHeld => ?_); refine with_tabW foretellkeep_FairRound.tab13 foretellkeep_FairRound.bits13 (fun HT_ HW_ => ?_)
            generalize w87.drew = w88 at HO_285002 HO_285003 HO328 BK284 HB hHeld ⊢
            refine pure_ (i := 0) (N := some 50) (v := ?_) (a' := ?_) #[true, false, false, false, false, false, false, false, false, false, false] rfl rfl (any_of HT_.out (by kernel_rfl)) (fun _ _ _ h => h) (Or.inl ⟨by rfl, ?_⟩) ?_ ?_
            rotate_left
            ·
             intro w'
             go_simp
             with_reducible rfl
            rotate_left
            ·
             simp only [Act.put, List.setIfInBounds_toArray, List.set_cons_zero, List.set_cons_succ, i64_w, i32_w]
             rfl
            refine pure_ (i := 2) (N := some 52) (v := ?_) (a' := ?_) #[true, false, true, false, false, false, false, false, false, false, false] rfl rfl (any_of HT_.out (by kernel_rfl)) (fun _ _ _ h => h) (Or.inl ⟨by rfl, ?_⟩) ?_ ?_
            rotate_left
            ·
             intro w'
             go_simp
             with_reducible rfl
            rotate_left
            ·
             simp only [Act.put, List.setIfInBounds_toArray, List.set_cons_zero, List.set_cons_succ, i64_w, i32_w]
             rfl
            refine pure_ (i := 3) (N := some 53) (v := ?_) (a' := ?_) #[true, false, true, true, false, false, false, false, false, false, false] rfl rfl (any_of HT_.out (by kernel_rfl)) (fun _ _ _ h => h) (Or.inl ⟨by rfl, ?_⟩) ?_ ?_
            rotate_left
            ·
             intro w'
             go_simp
             with_reducible rfl
            rotate_left
            ·
             simp only [Act.put, List.setIfInBounds_toArray, List.set_cons_zero, List.set_cons_succ, i64_w, i32_w]
             rfl
            refine pure_ (i := 4) (N := some 54) (v := ?_) (a' := ?_) #[true, false, true, true, true, false, false, false, false, false, false] rfl rfl (any_of HT_.out (by kernel_rfl)) (fun _ _ _ h => h) (Or.inl ⟨by rfl, ?_⟩) ?_ ?_
            rotate_left
            ·
             intro w'
             go_simp
             with_reducible rfl
            rotate_left
            ·
             simp only [Act.put, List.setIfInBounds_toArray, List.set_cons_zero, List.set_cons_succ, i64_w, i32_w]
             rfl
            refine pure_ (i := 5) (N := some 55) (v := ?_) (a' := ?_) #[true, false, true, true, true, true, false, false, false, false, false] rfl rfl (any_of HT_.out (by kernel_rfl)) (fun _ _ _ h => h) (Or.inl ⟨by rfl, ?_⟩) ?_ ?_
            rotate_left
            ·
             intro w'
             go_simp
             with_reducible rfl
            rotate_left
            ·
             simp only [Act.put, List.setIfInBounds_toArray, List.set_cons_zero, List.set_cons_succ, i64_w, i32_w]
             rfl
            refine take_ (i := 1) (N := some 51) (v := ?_) (a' := ?_) #[true, true, true, true, true, true, false, false, false, false, false] rfl rfl (take_ofW HT_.out HW_.out (by kernel_rfl)) (fun _ _ _ h => h) (Or.inl ⟨by rfl, ?_⟩) hHeld ?_ ?_
            rotate_left
            ·
             rintro w' ⟨s0, s1, s2, s3, s4⟩
             go_simp
             with_reducible rfl
            rotate_left
            ·
             simp only [Act.put, List.setIfInBounds_toArray, List.set_cons_zero, List.set_cons_succ, i64_w, i32_w]
             rfl
            refine one_ (i := 6) (N := some 56) #[true, true, true, true, true, true, true, false, false, false, false] rfl rfl (one_of HT_.out (by kernel_rfl)) (by decide) (fun K hK => ?_)
            refine Kd.R_lit_step (Kd.int .i64) _ 3 ?hg (N := 56) ?hd (xs := ([Int.tmod (wrap64 (x8_1 + 1)) (wrap64 (1 + t282))] : List Int)) (inner := [.int .i64 (Int.tmod (wrap64 (x8_1 + 1)) (wrap64 (1 + t282)))]) (ok := fun _ => True) (okp := fun _ => True) ?hr ?hp (fun _ hk => hk) trivial (Below.refl _ _) (Nat.le_refl _) (by simp) ?_; (case hd => rfl); (case hg => rfl); (case hr => first | (go_simp; done) | (go_simp; rfl)); (case hp => exact (Reps.one (show Kd.M (Kd.int .i64) _ _ _ (Int.tmod (wrap64 (x8_1 + 1)) (wrap64 (1 + t282))) [.int .i64 (Int.tmod (wrap64 (x8_1 + 1)) (wrap64 (1 + t282)))] from rfl) (Reps.none _ _)))
            intro v330 w89 ho90 hb hg_ hnew_
            clear hg_ hnew_
            (first | rw [← Ny329.out] at ho90 | (simp only [Int.reduceToNat] at ho90; rw [← Ny329.out] at ho90))
            have n0_ := Aside0.mk (Kd.S_elder' (by (with_reducible repeat (first | apply Kd.S_alloc | apply Kd.S_drewN | apply Kd.S_drew)); exact HO_285002.out) (Kd.R_base ho90) hb)
            have n1_ := Aside0.mk (Kd.R_elder' (by (with_reducible repeat (first | apply Kd.R_alloc | apply Kd.R_drewN | apply Kd.R_drew)); exact HO_285003.out) (Kd.R_base ho90) hb)
            have n2_ := Aside0.mk (Kd.R_below (by (with_reducible repeat (first | apply Kd.R_alloc | apply Kd.R_drewN | apply Kd.R_drew)); exact HO328.out) hb)
            have n3_ := Aside0.mk (Kd.R_lower (Kd.R_new' ho90 (Kd.R_lt (by (with_reducible repeat (first | apply Kd.R_alloc | apply Kd.R_drewN | apply Kd.R_drew)); exact HO_285003.out))) (below_size (by repeat (first | (with_reducible first | exact HB.out | apply below_alloc | apply pw_below_drewN | apply below_drew1 | refine below_set ?_ GE284.out) | exact HB.out))))
            have n4_ := Aside0.mk (blk_below (g := gb284) (o := .cells #[.slice Ao85 y326.length co85, .int .i64 1, u285002, u285003, .int .i64 t283] 28 (0, 0)) (by (with_reducible repeat (first | refine blk_drewN ?_ _ | refine blk_drew ?_ | refine blk_alloc ?_ _)); exact BK284.out) hb)
            have n5_ := Aside0.mk (below_step (by repeat (first | (with_reducible first | exact HB.out | apply below_alloc | apply pw_below_drewN | apply below_drew1 | refine below_set ?_ GE284.out) | exact HB.out)) hb)
            clear HO_285002
            clear HO_285003
            clear HO328
            clear BK284
            clear HB
            have HO_285002 := n0_
            have HO_285003 := n1_
            have HO328 := n2_
            have HO331 := n3_
            have BK284 := n4_
            have HB := n5_
            clear n0_ n1_ n2_ n3_ n4_ n5_
            clear hb ho90
            obtain ⟨Ao92, co92, eo92⟩ := Kd.R_slice HO331.out
            (first | subst eo92 | (injection eo92 with f1_ f2_ f3_; have f4_ := f1_.symm; have f5_ := f3_.symm; clear f1_ f2_ f3_; subst f4_; subst f5_))
            refine hK.out _ _ ⟨(blk_cell BK284.out 0).trans rfl, (blk_cell BK284.out 1).trans rfl, (blk_cell BK284.out 2).trans rfl, (blk_cell BK284.out 3).trans rfl, (blk_cell BK284.out 4).trans rfl⟩ (fun hHeld => ?_)
            clear hK K
            refine norm_ (a' := ?_) ?_ ?_
            rotate_left
            ·
             show Act.put _ (some 56) _ = _
             simp only [Act.put, List.setIfInBounds_toArray, List.set_cons_zero, List.set_cons_succ, i64_w, i32_w]
             rfl
            refine one_ (i := 7) (N := some 57) #[true, true, true, true, true, true, true, true, false, false, false] rfl rfl (one_of HT_.out (by kernel_rfl)) (by decide) (fun K hK => ?_)
            refine value_ (w1 := ?_) (v := ?_) (by rfl) rfl ?_ ?_
            rotate_left 2
            ·
             go_simp
             constructor
             ·
              rfl
             ·
              rfl
            refine hK.out _ _ ⟨(blk_cell (blk_alloc BK284.out _) 0).trans rfl, (blk_cell (blk_alloc BK284.out _) 1).trans rfl, (blk_cell (blk_alloc BK284.out _) 2).trans rfl, (blk_cell (blk_alloc BK284.out _) 3).trans rfl, (blk_cell (blk_alloc BK284.out _) 4).trans rfl⟩ (fun hHeld => ?_)
            clear hK K
            refine norm_ (a' := ?_) ?_ ?_
            rotate_left
            ·
             show Act.put _ (some 57) _ = _
             simp only [Act.put, List.setIfInBounds_toArray, List.set_cons_zero, List.set_cons_succ, i64_w, i32_w]
             rfl
            refine one_ (i := 8) (N := some 58) #[true, true, true, true, true, true, true, true, true, false, false] rfl rfl (one_of HT_.out (by kernel_rfl)) (by decide) (fun K hK => ?_)
            refine Kd.S_append_step (Kd.slice 3 (Kd.int .i64)) (w0 := w) w.heap.size (by rfl) (.tmp 51) (.tmp 57) 22 23 (.slice none 0 0) 24 rfl Try.underlying22 info23 rfl (by decide) (by omega) u285002 x285002_1 y329 [.slice Ao92 y329.length co92] (fun k_ => some k_ ≠ (u285003 : Value).ownBlock) (fun k_ => some k_ = (.slice Ao92 y329.length co92 : Value).ownBlock) rfl rfl ?aP (fun k_ hk_ => ((Kd.R_mono (ok' := fun k_ => ((fun k_ => some k_ ≠ (u285003 : Value).ownBlock)) k_ ∧ some k_ ≠ (u285002 : Value).ownBlock) (Kd.R_apart' (HO331.out) (Kd.S_typed HO_285002.out) (by decide)) (fun k_ hk => ⟨hk.1.2, hk.2⟩))).1 k_ hk_.symm) ?aF ?aO ?aB ?aS ?aL ?_
            (case aP => exact Kd.M_row (Kd.R_mono (Kd.R_tight rfl (Kd.R_mono (ok' := fun k_ => ((fun k_ => some k_ ≠ (u285003 : Value).ownBlock)) k_ ∧ some k_ ≠ (u285002 : Value).ownBlock) (Kd.R_apart' (HO331.out) (Kd.S_typed HO_285002.out) (by decide)) (fun k_ hk => ⟨hk.1.2, hk.2⟩))) (fun _ h_ => h_)))
            (case aB => exact (by repeat (first | (with_reducible first | exact HB.out | apply below_alloc | apply pw_below_drewN | apply below_drew1 | refine below_set ?_ GE284.out) | exact HB.out)))
            (case aF => exact (fun k_ hk => Kd.fresh' (Kd.R_lt (by (with_reducible repeat (first | apply Kd.R_alloc | apply Kd.R_drewN | apply Kd.R_drew)); exact HO_285003.out)) k_ hk))
            (case aO => exact (by (with_reducible repeat (first | apply Kd.S_alloc | apply Kd.S_drewN | apply Kd.S_drew)); exact Kd.S_mono HO_285002.out (fun k_ hk => ⟨hk.1, fun e_ => hk.2 e_⟩)))
            (case aS => exact (below_size (by repeat (first | (with_reducible first | exact HB.out | apply below_alloc | apply pw_below_drewN | apply below_drew1 | refine below_set ?_ GE284.out) | exact HB.out))))
            (case aL => have := LMc81.out; omega)
            intro v333 w91 ho hb hg hat
            rw [← Ny332.out] at ho
            have n0_ := Aside0.mk (Kd.R_over' (by (with_reducible repeat (first | apply Kd.R_alloc | apply Kd.R_drewN | apply Kd.R_drew)); exact HO_285003.out) (Kd.S_typed (by (with_reducible repeat (first | apply Kd.S_alloc | apply Kd.S_drewN | apply Kd.S_drew)); exact HO_285002.out)) (by decide) hg)
            have n1_ := Aside0.mk (blk_grown (g := gb284) (o := .cells #[.slice Ao85 y326.length co85, .int .i64 1, u285002, u285003, .int .i64 t283] 28 (0, 0)) (by (with_reducible repeat (first | refine blk_drewN ?_ _ | refine blk_drew ?_ | refine blk_alloc ?_ _)); exact BK284.out) hg (Kd.S_ne HO_285002.out BK284.out (by decide)))
            have n2_ := Aside0.mk (Kd.R_over' (by (with_reducible repeat (first | apply Kd.R_alloc | apply Kd.R_drewN | apply Kd.R_drew)); exact HO328.out) (Kd.S_typed (by (with_reducible repeat (first | apply Kd.S_alloc | apply Kd.S_drewN | apply Kd.S_drew)); exact HO_285002.out)) (by decide) hg)
            have n3_ := Aside0.mk (hb)
            have n4_ := Aside0.mk (ho)
            clear HO_285003
            clear BK284
            clear HO328
            clear HB
            clear HO_285002
            clear HO331
            have HO_285003 := n0_
            have BK284 := n1_
            have HO328 := n2_
            have HB := n3_
            have HO334 := n4_
            clear n0_ n1_ n2_ n3_ n4_
            clear ho hb hg hat
            obtain ⟨Ao93, co93, eo93⟩ := Kd.S_slice HO334.out
            (first | subst eo93 | (injection eo93 with f1_ f2_ f3_; have f4_ := f1_.symm; have f5_ := f3_.symm; clear f1_ f2_ f3_; subst f4_; subst f5_))
            refine hK.out _ _ ⟨(blk_cell BK284.out 0).trans rfl, (blk_cell BK284.out 1).trans rfl, (blk_cell BK284.out 2).trans rfl, (blk_cell BK284.out 3).trans rfl, (blk_cell BK284.out 4).trans rfl⟩ (fun hHeld => ?_)
            clear hK K
            refine norm_ (a' := ?_) ?_ ?_
            rotate_left
            ·
             show Act.put _ (some 58) _ = _
             simp only [Act.put, List.setIfInBounds_toArray, List.set_cons_zero, List.set_cons_succ, i64_w, i32_w]
             rfl
            refine pure_ (i := 9) (N := some 59) (v := ?_) (a' := ?_) #[true, true, true, true, true, true, true, true, true, true, false] rfl rfl (any_of HT_.out (by kernel_rfl)) (fun _ _ _ h => h) (Or.inl ⟨by rfl, ?_⟩) ?_ ?_
            rotate_left
            ·
             intro w'
             go_simp
             with_reducible rfl
            rotate_left
            ·
             simp only [Act.put, List.setIfInBounds_toArray, List.set_cons_zero, List.set_cons_succ, i64_w, i32_w]
             rfl
            refine last_ (i := 10) (N := none) #[true, true, true, true, true, true, true, true, true, true, true] rfl rfl (one_of HT_.out (by kernel_rfl)) (by decide) (fun K hK => ?_)
            have hs94 : w91.cell? ⟨gb284, 2, none⟩ = some (u285002) := (blk_cell BK284.out 2).trans rfl
            have hfs94 := blk_frozen BK284.out 2
            refine skip_ (w1 := ?_) (by rfl) rfl ?_ ?_
            rotate_left
            ·
             go_simp
             rfl
            refine hK.out _ _ ?_
            clear hK K
            refine done_ (done_of HT_.out (by kernel_rfl)) ?_
            have hcz95_0 : w91.cell? ⟨gb284, 0, none⟩ = some (.slice Ao85 y326.length co85) := (blk_cell BK284.out 0).trans rfl
            have hcz95_1 : w91.cell? ⟨gb284, 1, none⟩ = some (.int .i64 1) := (blk_cell BK284.out 1).trans rfl
            have hcz95_2 : w91.cell? ⟨gb284, 2, none⟩ = some (u285002) := (blk_cell BK284.out 2).trans rfl
            have hcz95_3 : w91.cell? ⟨gb284, 3, none⟩ = some (u285003) := (blk_cell BK284.out 3).trans rfl
            have hcz95_4 : w91.cell? ⟨gb284, 4, none⟩ = some (.int .i64 t283) := (blk_cell BK284.out 4).trans rfl
            have hfz95_0 := blk_frozen BK284.out 0
            have hfz95_1 := blk_frozen BK284.out 1
            have hfz95_2 := blk_frozen BK284.out 2
            have hfz95_3 := blk_frozen BK284.out 3
            have hfz95_4 := blk_frozen BK284.out 4
            try go_wp2_with (first | ((with_reducible refine gate_builtin (b := .append) (xs := #[.tmp 61, .tmp 63]) rfl ?_); at_builtin; refine Kd.R_append (Kd.int .i64) (w0 := w) w.heap.size rfl (.tmp 61) (.tmp 63) 23 3 (.int .i64 0) 8 rfl Try.underlying23 info3 rfl (by decide) (by omega) u285003 x285003_1 (wrap64 ((ji78) - 1)) [.int .i64 (wrap64 ((ji78) - 1))] (fun _ => True) (fun _ => False) rfl (by first | (go_simp; done) | (go_simp; rfl)) ?aP (fun _ hk => hk.elim) ?aF ?aO ?aB ?aS ?aL ?_; (case aP => exact rfl); (case aB => exact (by repeat (first | (with_reducible first | exact HB.out | apply below_alloc | apply pw_below_drewN | apply below_drew1 | refine below_set ?_ GE284.out) | exact HB.out))); (case aF => exact (fun _ _ => trivial)); (case aO => exact (by (with_reducible repeat (first | apply Kd.R_alloc | apply Kd.R_drewN | apply Kd.R_drew)); exact Kd.R_mono (Kd.R_far (p := ⟨gb284, 2, none⟩) (Kd.R_types HO_285003.out BK284.out (by decide)) (fun _ hk => hk.2) (.slice Ao93 y332.length co93)) (fun _ hk => trivial))); (case aS => exact (below_size (by repeat (first | (with_reducible first | exact HB.out | apply below_alloc | apply pw_below_drewN | apply below_drew1 | refine below_set ?_ GE284.out) | exact HB.out)))); (case aL => have := LMc82.out; omega); intro v336 w96 ho hb hg hat; rw [← Ny335.out] at ho; have n0_ := Aside0.mk (blk_grown (g := gb284) (o := .cells #[.slice Ao85 y326.length co85, .int .i64 1, .slice Ao93 y332.length co93, u285003, .int .i64 t283] 28 (0, 0)) (by (with_reducible repeat (first | refine blk_drewN ?_ _ | refine blk_drew ?_ | refine blk_alloc ?_ _)); refine blk_put (cs := #[.slice Ao85 y326.length co85, .int .i64 1, u285002, u285003, .int .i64 t283]) ?_ 2 _ rfl; (with_reducible repeat (first | refine blk_drewN ?_ _ | refine blk_drew ?_ | refine blk_alloc ?_ _)); exact BK284.out) hg (Kd.R_ne HO_285003.out BK284.out (by decide))); have n1_ := Aside0.mk (Kd.R_over' (by (with_reducible repeat (first | apply Kd.R_alloc | apply Kd.R_drewN | apply Kd.R_drew)); exact (Kd.R_mono (Kd.R_far (p := ⟨gb284, 2, none⟩) (Kd.R_types HO328.out BK284.out (by decide)) (fun _ hk => hk.2) (.slice Ao93 y332.length co93)) (fun _ h_ => h_.1))) (Kd.R_typed (by (with_reducible repeat (first | apply Kd.R_alloc | apply Kd.R_drewN | apply Kd.R_drew)); exact (Kd.R_mono (Kd.R_far (p := ⟨gb284, 2, none⟩) (Kd.R_types HO_285003.out BK284.out (by decide)) (fun _ hk => hk.2) (.slice Ao93 y332.length co93)) (fun _ h_ => h_.1)))) (by decide) hg); have n2_ := Aside0.mk (Kd.S_after (ok := (fun _ => True)) (by (with_reducible repeat (first | apply Kd.S_alloc | apply Kd.S_drewN | apply Kd.S_drew)); exact Kd.S_mono (Kd.S_far (p := ⟨gb284, 2, none⟩) (Kd.S_types HO334.out BK284.out (by decide)) (fun _ hk => hk.2) (.slice Ao93 y332.length co93)) (fun _ hk => ⟨trivial, hk.1⟩)) hg hat); have n3_ := Aside0.mk (hb); have n4_ := Aside0.mk (ho); clear BK284; clear HO328; clear HO334; clear HB; clear HO_285003; have BK284 := n0_; have HO328 := n1_; have HO334 := n2_; have HB := n3_; have HO337 := n4_; clear n0_ n1_ n2_ n3_ n4_; clear ho hb hg hat; obtain ⟨Ao97, co97, eo97⟩ := Kd.R_slice HO337.out; subst eo97; have hcz98_0 : w96.cell? ⟨gb284, 0, none⟩ = some (.slice Ao85 y326.length co85) := (blk_cell BK284.out 0).trans rfl; have hcz98_1 : w96.cell? ⟨gb284, 1, none⟩ = some (.int .i64 1) := (blk_cell BK284.out 1).trans rfl; have hcz98_2 : w96.cell? ⟨gb284, 2, none⟩ = some (.slice Ao93 y332.length co93) := (blk_cell BK284.out 2).trans rfl; have hcz98_3 : w96.cell? ⟨gb284, 3, none⟩ = some (u285003) := (blk_cell BK284.out 3).trans rfl; have hcz98_4 : w96.cell? ⟨gb284, 4, none⟩ = some (.int .i64 t283) := (blk_cell BK284.out 4).trans rfl; have hfz98_0 := blk_frozen BK284.out 0; have hfz98_1 := blk_frozen BK284.out 1; have hfz98_2 := blk_frozen BK284.out 2; have hfz98_3 := blk_frozen BK284.out 3; have hfz98_4 := blk_frozen BK284.out 4))
            go_roundg k1
            case measure => have := HK1.out; omega
            case rel => exact ⟨(wrap64 (x8_1 + 1)), (y326), (y332), (y335), (.slice Ao85 y326.length co85), (.slice Ao93 y332.length co93), (.slice Ao97 y335.length co97), (by first | rfl | (simp; done) | (simp [*]; done)), (by first | exact H' | (rw [hji78]; exact H') | (rw [hji14]; exact H') | (rw [hji10]; exact H') | (rw [hji10, hji14]; exact H') | (rw [hji10, hji78]; exact H') | (rw [hji14, hji10]; exact H') | (rw [hji14, hji78]; exact H') | (rw [hji78, hji10]; exact H') | (rw [hji78, hji14]; exact H')), ⟨by have := HK1.out; omega⟩, ⟨by (with_reducible repeat (first | apply Kd.R_alloc | apply Kd.R_drewN | apply Kd.R_drew)); exact Kd.R_mono (Kd.R_far (p := ⟨gb284, 3, none⟩) (Kd.R_types HO328.out BK284.out (by decide)) (fun _ hk => hk.2) (.slice Ao97 y335.length co97)) (fun _ hk => trivial)⟩, ⟨by (with_reducible repeat (first | apply Kd.S_alloc | apply Kd.S_drewN | apply Kd.S_drew)); exact Kd.S_mono (Kd.S_far (p := ⟨gb284, 3, none⟩) (Kd.S_types HO334.out BK284.out (by decide)) (fun _ hk => hk.2) (.slice Ao97 y335.length co97)) (fun _ hk => hk.1.2)⟩, ⟨by (with_reducible repeat (first | apply Kd.R_alloc | apply Kd.R_drewN | apply Kd.R_drew)); exact Kd.R_mono (Kd.R_far (p := ⟨gb284, 3, none⟩) (Kd.R_types HO337.out BK284.out (by decide)) (fun _ hk => hk.2) (.slice Ao97 y335.length co97)) (fun _ hk => trivial)⟩, ⟨by (with_reducible repeat (first | refine blk_drewN ?_ _ | refine blk_drew ?_ | refine blk_alloc ?_ _)); refine blk_put (cs := #[.slice Ao85 y326.length co85, .int .i64 1, .slice Ao93 y332.length co93, u285003, .int .i64 t283]) ?_ 3 _ rfl; (with_reducible repeat (first | refine blk_drewN ?_ _ | refine blk_drew ?_ | refine blk_alloc ?_ _)); exact BK284.out⟩, ⟨by repeat (first | (with_reducible first | exact HB.out | apply below_alloc | apply pw_below_drewN | apply below_drew1 | refine below_set ?_ GE284.out) | exact HB.out)⟩⟩
           ·
            rw [if_neg c82] at H
            exact absurd H (by simp)
          ·
           rw [if_neg c81] at H
           exact absurd H (by simp)
        ·
         rw [if_neg c79] at H
         exact absurd H (by simp)
       ·
        rw [if_neg c77] at H
        exact absurd H (by simp)
      ·
       rw [if_neg c76] at H
       have c76b0 : (x8_1 == (wrap64 ((wrap64 (1 + t282)) - 1))) = false := beq_eq_false_iff_ne.mpr c76
       have c76b1 : (x8_1 != (wrap64 ((wrap64 (1 + t282)) - 1))) = true := bne_iff_ne.mpr c76
       by_cases c99 : x285000_1.length < 8796093022208
       ·
        rw [if_pos c99] at H
        have LMc99 := Aside0.mk c99
        clear c99
        obtain ⟨y338, hy338⟩ : ∃ y_ : List (S45), y_ = (x285000_1 ++ [(⟨x8_1, 0⟩ : S45)]) := ⟨_, rfl⟩
        replace H : (if (wrap64 (1 + t282)) = 0 then (none) else (if x285002_1.length < 5864062014805 then (if x285003_1.length < 17592186044416 then (foretellkeep_FairRound.l0 k1 (wrap64 (1 + t282)) t283 (wrap64 (x8_1 + 1)) y338 1 (x285002_1 ++ [(([Int.tmod (wrap64 (x8_1 + 1)) (wrap64 (1 + t282))] : List Int))]) (x285003_1 ++ [0]) t283) else (none)) else (none))) = some r := by first | (rw [hy338]; with_reducible exact H) | (have H2_ := (Option.bind_some _ _).symm.trans H; rw [hy338]; with_reducible exact H2_) | (have H2_ := (Option.bind_some _ _).symm.trans H; with_reducible exact H2_) | with_reducible exact H | (rw [hy338]; exact H) | exact H
        have Ny338 := Aside0.mk hy338
        clear hy338
        by_cases c100 : (wrap64 (1 + t282)) = 0
        ·
         rw [if_pos c100] at H
         exact absurd H (by simp)
        ·
         rw [if_neg c100] at H
         have c100b0 : ((wrap64 (1 + t282)) == 0) = false := beq_eq_false_iff_ne.mpr c100
         have c100b1 : ((wrap64 (1 + t282)) != 0) = true := bne_iff_ne.mpr c100
         obtain ⟨y341, hy341⟩ : ∃ y_ : List Int, y_ = (([Int.tmod (wrap64 (x8_1 + 1)) (wrap64 (1 + t282))] : List Int)) := ⟨_, rfl⟩
         replace H : (if x285002_1.length < 5864062014805 then (if x285003_1.length < 17592186044416 then (foretellkeep_FairRound.l0 k1 (wrap64 (1 + t282)) t283 (wrap64 (x8_1 + 1)) y338 1 (x285002_1 ++ [y341]) (x285003_1 ++ [0]) t283) else (none)) else (none)) = some r := by first | (rw [hy341]; with_reducible exact H) | (have H2_ := (Option.bind_some _ _).symm.trans H; rw [hy341]; with_reducible exact H2_) | (have H2_ := (Option.bind_some _ _).symm.trans H; with_reducible exact H2_) | with_reducible exact H | (rw [hy341]; exact H) | exact H
         have Ny341 := Aside0.mk hy341
         clear hy341
         by_cases c101 : x285002_1.length < 5864062014805
         ·
          rw [if_pos c101] at H
          have LMc101 := Aside0.mk c101
          clear c101
          obtain ⟨y344, hy344⟩ : ∃ y_ : List (List Int), y_ = (x285002_1 ++ [y341]) := ⟨_, rfl⟩
          replace H : (if x285003_1.length < 17592186044416 then (foretellkeep_FairRound.l0 k1 (wrap64 (1 + t282)) t283 (wrap64 (x8_1 + 1)) y338 1 y344 (x285003_1 ++ [0]) t283) else (none)) = some r := by first | (rw [hy344]; with_reducible exact H) | (have H2_ := (Option.bind_some _ _).symm.trans H; rw [hy344]; with_reducible exact H2_) | (have H2_ := (Option.bind_some _ _).symm.trans H; with_reducible exact H2_) | with_reducible exact H | (rw [hy344]; exact H) | exact H
          have Ny344 := Aside0.mk hy344
          clear hy344
          by_cases c102 : x285003_1.length < 17592186044416
          ·
           rw [if_pos c102] at H
           have LMc102 := Aside0.mk c102
           clear c102
           obtain ⟨y347, hy347⟩ : ∃ y_ : List Int, y_ = (x285003_1 ++ [0]) := ⟨_, rfl⟩
           replace H : (foretellkeep_FairRound.l0 k1 (wrap64 (1 + t282)) t283 (wrap64 (x8_1 + 1)) y338 1 y344 y347 t283) = some r := by first | (rw [hy347]; with_reducible exact H) | (have H2_ := (Option.bind_some _ _).symm.trans H; rw [hy347]; with_reducible exact H2_) | (have H2_ := (Option.bind_some _ _).symm.trans H; with_reducible exact H2_) | with_reducible exact H | (rw [hy347]; exact H) | exact H
           have Ny347 := Aside0.mk hy347
           clear hy347
           have H' := Aside0.mk H
           clear H
           have hcz103_0 : wr.cell? ⟨gb284, 0, none⟩ = some (u285000) := (blk_cell BK284.out 0).trans rfl
           have hcz103_1 : wr.cell? ⟨gb284, 1, none⟩ = some (.int .i64 1) := (blk_cell BK284.out 1).trans rfl
           have hcz103_2 : wr.cell? ⟨gb284, 2, none⟩ = some (u285002) := (blk_cell BK284.out 2).trans rfl
           have hcz103_3 : wr.cell? ⟨gb284, 3, none⟩ = some (u285003) := (blk_cell BK284.out 3).trans rfl
           have hcz103_4 : wr.cell? ⟨gb284, 4, none⟩ = some (.int .i64 t283) := (blk_cell BK284.out 4).trans rfl
           have hfz103_0 := blk_frozen BK284.out 0
           have hfz103_1 := blk_frozen BK284.out 1
           have hfz103_2 := blk_frozen BK284.out 2
           have hfz103_3 := blk_frozen BK284.out 3
           have hfz103_4 := blk_frozen BK284.out 4
           try go_wp2_with (first | ((with_reducible refine gate_builtin (b := .append) (xs := #[.tmp 44, .tmp 47]) rfl ?_); at_builtin; refine Kd.R_append k45 (w0 := w) w.heap.size rfl (.tmp 44) (.tmp 47) 26 45 (.agg #[(.int .i64 0), (.int .i64 0)]) 16 rfl Try.underlying26 info45 rfl (by decide) (by omega) u285000 x285000_1 (⟨x8_1, 0⟩ : S45) [.int .i64 x8_1, .int .i64 0] (fun _ => True) (fun _ => False) rfl rfl ?aP (fun _ hk => hk.elim) ?aF ?aO ?aB ?aS ?aL ?_; (case aP => exact k45_mkM _ _ _ (⟨x8_1, 0⟩ : S45)); (case aB => exact (by repeat (first | (with_reducible first | exact HB.out | apply below_alloc | apply pw_below_drewN | apply below_drew1 | refine below_set ?_ GE284.out) | exact HB.out))); (case aF => exact (fun _ _ => trivial)); (case aO => exact (by (with_reducible repeat (first | apply Kd.R_alloc | apply Kd.R_drewN | apply Kd.R_drew)); exact HO_285000.out)); (case aS => exact (below_size (by repeat (first | (with_reducible first | exact HB.out | apply below_alloc | apply pw_below_drewN | apply below_drew1 | refine below_set ?_ GE284.out) | exact HB.out)))); (case aL => have := LMc99.out; omega); intro v339 w104 ho hb hg hat; rw [← Ny338.out] at ho; have n0_ := Aside0.mk (Kd.S_over' (by (with_reducible repeat (first | apply Kd.S_alloc | apply Kd.S_drewN | apply Kd.S_drew)); exact HO_285002.out) (Kd.R_typed (by (with_reducible repeat (first | apply Kd.R_alloc | apply Kd.R_drewN | apply Kd.R_drew)); exact HO_285000.out)) (by decide) hg); have n1_ := Aside0.mk (Kd.R_over' (by (with_reducible repeat (first | apply Kd.R_alloc | apply Kd.R_drewN | apply Kd.R_drew)); exact HO_285003.out) (Kd.R_typed (by (with_reducible repeat (first | apply Kd.R_alloc | apply Kd.R_drewN | apply Kd.R_drew)); exact HO_285000.out)) (by decide) hg); have n2_ := Aside0.mk (blk_grown (g := gb284) (o := .cells #[u285000, .int .i64 1, u285002, u285003, .int .i64 t283] 28 (0, 0)) (by (with_reducible repeat (first | refine blk_drewN ?_ _ | refine blk_drew ?_ | refine blk_alloc ?_ _)); exact BK284.out) hg (Kd.R_ne HO_285000.out BK284.out (by decide))); have n3_ := Aside0.mk (hb); have n4_ := Aside0.mk (ho); clear HO_285002; clear HO_285003; clear BK284; clear HB; clear HO_285000; have HO_285002 := n0_; have HO_285003 := n1_; have BK284 := n2_; have HB := n3_; have HO340 := n4_; clear n0_ n1_ n2_ n3_ n4_; clear ho hb hg hat; obtain ⟨Ao105, co105, eo105⟩ := Kd.R_slice HO340.out; subst eo105; have hcz106_0 : w104.cell? ⟨gb284, 0, none⟩ = some (u285000) := (blk_cell BK284.out 0).trans rfl; have hcz106_1 : w104.cell? ⟨gb284, 1, none⟩ = some (.int .i64 1) := (blk_cell BK284.out 1).trans rfl; have hcz106_2 : w104.cell? ⟨gb284, 2, none⟩ = some (u285002) := (blk_cell BK284.out 2).trans rfl; have hcz106_3 : w104.cell? ⟨gb284, 3, none⟩ = some (u285003) := (blk_cell BK284.out 3).trans rfl; have hcz106_4 : w104.cell? ⟨gb284, 4, none⟩ = some (.int .i64 t283) := (blk_cell BK284.out 4).trans rfl; have hfz106_0 := blk_frozen BK284.out 0; have hfz106_1 := blk_frozen BK284.out 1; have hfz106_2 := blk_frozen BK284.out 2; have hfz106_3 := blk_frozen BK284.out 3; have hfz106_4 := blk_frozen BK284.out 4))
           have n0_ : Aside0 (Kd.S (Kd.slice 3 (Kd.int .i64)) 23 (w104.setCell ⟨gb284, 0, none⟩ (.slice Ao105 y338.length co105)) w.heap.size (fun k_ => some k_ ≠ (u285003 : Value).ownBlock) u285002 x285002_1) := ⟨by (with_reducible repeat (first | apply Kd.S_alloc | apply Kd.S_drewN | apply Kd.S_drew)); exact Kd.S_mono (Kd.S_far (p := ⟨gb284, 0, none⟩) (Kd.S_types HO_285002.out BK284.out (by decide)) (fun _ hk => hk.2) (.slice Ao105 y338.length co105)) (fun _ hk => hk.1)⟩
           have n1_ : Aside0 (Kd.R (Kd.int .i64) 3 (w104.setCell ⟨gb284, 0, none⟩ (.slice Ao105 y338.length co105)) w.heap.size (fun _ => True) u285003 x285003_1) := ⟨by (with_reducible repeat (first | apply Kd.R_alloc | apply Kd.R_drewN | apply Kd.R_drew)); exact Kd.R_mono (Kd.R_far (p := ⟨gb284, 0, none⟩) (Kd.R_types HO_285003.out BK284.out (by decide)) (fun _ hk => hk.2) (.slice Ao105 y338.length co105)) (fun _ hk => trivial)⟩
           have n2_ : Aside0 (Kd.R k45 45 (w104.setCell ⟨gb284, 0, none⟩ (.slice Ao105 y338.length co105)) w.heap.size (fun _ => True) (.slice Ao105 y338.length co105) y338) := ⟨by (with_reducible repeat (first | apply Kd.R_alloc | apply Kd.R_drewN | apply Kd.R_drew)); exact Kd.R_mono (Kd.R_far (p := ⟨gb284, 0, none⟩) (Kd.R_types HO340.out BK284.out (by decide)) (fun _ hk => hk.2) (.slice Ao105 y338.length co105)) (fun _ hk => trivial)⟩
           have n3_ : Aside0 ((w104.setCell ⟨gb284, 0, none⟩ (.slice Ao105 y338.length co105)).heap[gb284]? = some (.cells #[.slice Ao105 y338.length co105, .int .i64 1, u285002, u285003, .int .i64 t283] 28 (0, 0))) := ⟨by (with_reducible repeat (first | refine blk_drewN ?_ _ | refine blk_drew ?_ | refine blk_alloc ?_ _)); refine blk_put (cs := #[u285000, .int .i64 1, u285002, u285003, .int .i64 t283]) ?_ 0 _ rfl; (with_reducible repeat (first | refine blk_drewN ?_ _ | refine blk_drew ?_ | refine blk_alloc ?_ _)); exact BK284.out⟩
           have n4_ : Aside0 (Below w.heap.size w (w104.setCell ⟨gb284, 0, none⟩ (.slice Ao105 y338.length co105))) := ⟨by repeat (first | (with_reducible first | exact HB.out | apply below_alloc | apply pw_below_drewN | apply below_drew1 | refine below_set ?_ GE284.out) | exact HB.out)⟩
           (try clear HO_285002)
           (try clear HO_285003)
           (try clear HO340)
           (try clear BK284)
           (try clear HB)
           generalize (w104.setCell ⟨gb284, 0, none⟩ (.slice Ao105 y338.length co105)) = w107 at n0_ n1_ n2_ n3_ n4_ ⊢
           have HO_285002 := n0_
           have HO_285003 := n1_
           have HO340 := n2_
           have BK284 := n3_
           have HB := n4_
           clear n0_ n1_ n2_ n3_ n4_
           have n0_ := Aside0.mk (Kd.S_drew HO_285002.out)
           have n1_ := Aside0.mk (Kd.R_drew HO_285003.out)
           have n2_ := Aside0.mk (Kd.R_drew HO340.out)
           have n3_ := Aside0.mk (blk_drew BK284.out)
           have n4_ := Aside0.mk (below_drew1 HB.out)
           clear HO_285002
           clear HO_285003
           clear HO340
           clear BK284
           clear HB
           have HO_285002 := n0_
           have HO_285003 := n1_
           have HO340 := n2_
           have BK284 := n3_
           have HB := n4_
           clear n0_ n1_ n2_ n3_ n4_
           refine start_ (n := 11) (S := fun w' => w'.cell? ⟨gb284, 0, none⟩ = some (.slice Ao105 y338.length co105) ∧ w'.cell? ⟨gb284, 1, none⟩ = some (.int .i64 1) ∧ w'.cell? ⟨gb284, 2, none⟩ = some (u285002) ∧ w'.cell? ⟨gb284, 3, none⟩ = some (u285003) ∧ w'.cell? ⟨gb284, 4, none⟩ = some (.int .i64 t283)) (ds := [10]) #[false, false, false, false, false, false, false, false, false, false, false] (by kernel_rfl) rfl rfl ⟨(blk_cell BK284.out 0).trans rfl, (blk_cell BK284.out 1).trans rfl, (blk_cell BK284.out 2).trans rfl, (blk_cell BK284.out 3).trans rfl, (blk_cell BK284.out 4).trans rfl⟩ (fun hHeld => ?_); refine with_tabW foretellkeep_FairRound.tab13 foretellkeep_FairRound.bits13 (fun HT_ HW_ => ?_)
           generalize w107.drew = w108 at HO_285002 HO_285003 HO340 BK284 HB hHeld ⊢
           refine pure_ (i := 0) (N := some 50) (v := ?_) (a' := ?_) #[true, false, false, false, false, false, false, false, false, false, false] rfl rfl (any_of HT_.out (by kernel_rfl)) (fun _ _ _ h => h) (Or.inl ⟨by rfl, ?_⟩) ?_ ?_
           rotate_left
           ·
            intro w'
            go_simp
            with_reducible rfl
           rotate_left
           ·
            simp only [Act.put, List.setIfInBounds_toArray, List.set_cons_zero, List.set_cons_succ, i64_w, i32_w]
            rfl
           refine pure_ (i := 2) (N := some 52) (v := ?_) (a' := ?_) #[true, false, true, false, false, false, false, false, false, false, false] rfl rfl (any_of HT_.out (by kernel_rfl)) (fun _ _ _ h => h) (Or.inl ⟨by rfl, ?_⟩) ?_ ?_
           rotate_left
           ·
            intro w'
            go_simp
            with_reducible rfl
           rotate_left
           ·
            simp only [Act.put, List.setIfInBounds_toArray, List.set_cons_zero, List.set_cons_succ, i64_w, i32_w]
            rfl
           refine pure_ (i := 3) (N := some 53) (v := ?_) (a' := ?_) #[true, false, true, true, false, false, false, false, false, false, false] rfl rfl (any_of HT_.out (by kernel_rfl)) (fun _ _ _ h => h) (Or.inl ⟨by rfl, ?_⟩) ?_ ?_
           rotate_left
           ·
            intro w'
            go_simp
            with_reducible rfl
           rotate_left
           ·
            simp only [Act.put, List.setIfInBounds_toArray, List.set_cons_zero, List.set_cons_succ, i64_w, i32_w]
            rfl
           refine pure_ (i := 4) (N := some 54) (v := ?_) (a' := ?_) #[true, false, true, true, true, false, false, false, false, false, false] rfl rfl (any_of HT_.out (by kernel_rfl)) (fun _ _ _ h => h) (Or.inl ⟨by rfl, ?_⟩) ?_ ?_
           rotate_left
           ·
            intro w'
            go_simp
            with_reducible rfl
           rotate_left
           ·
            simp only [Act.put, List.setIfInBounds_toArray, List.set_cons_zero, List.set_cons_succ, i64_w, i32_w]
            rfl
           refine pure_ (i := 5) (N := some 55) (v := ?_) (a' := ?_) #[true, false, true, true, true, true, false, false, false, false, false] rfl rfl (any_of HT_.out (by kernel_rfl)) (fun _ _ _ h => h) (Or.inl ⟨by rfl, ?_⟩) ?_ ?_
           rotate_left
           ·
            intro w'
            go_simp
            with_reducible rfl
           rotate_left
           ·
            simp only [Act.put, List.setIfInBounds_toArray, List.set_cons_zero, List.set_cons_succ, i64_w, i32_w]
            rfl
           refine take_ (i := 1) (N := some 51) (v := ?_) (a' := ?_) #[true, true, true, true, true, true, false, false, false, false, false] rfl rfl (take_ofW HT_.out HW_.out (by kernel_rfl)) (fun _ _ _ h => h) (Or.inl ⟨by rfl, ?_⟩) hHeld ?_ ?_
           rotate_left
           ·
            rintro w' ⟨s0, s1, s2, s3, s4⟩
            go_simp
            with_reducible rfl
           rotate_left
           ·
            simp only [Act.put, List.setIfInBounds_toArray, List.set_cons_zero, List.set_cons_succ, i64_w, i32_w]
            rfl
           refine one_ (i := 6) (N := some 56) #[true, true, true, true, true, true, true, false, false, false, false] rfl rfl (one_of HT_.out (by kernel_rfl)) (by decide) (fun K hK => ?_)
           refine Kd.R_lit_step (Kd.int .i64) _ 3 ?hg (N := 56) ?hd (xs := ([Int.tmod (wrap64 (x8_1 + 1)) (wrap64 (1 + t282))] : List Int)) (inner := [.int .i64 (Int.tmod (wrap64 (x8_1 + 1)) (wrap64 (1 + t282)))]) (ok := fun _ => True) (okp := fun _ => True) ?hr ?hp (fun _ hk => hk) trivial (Below.refl _ _) (Nat.le_refl _) (by simp) ?_; (case hd => rfl); (case hg => rfl); (case hr => first | (go_simp; done) | (go_simp; rfl)); (case hp => exact (Reps.one (show Kd.M (Kd.int .i64) _ _ _ (Int.tmod (wrap64 (x8_1 + 1)) (wrap64 (1 + t282))) [.int .i64 (Int.tmod (wrap64 (x8_1 + 1)) (wrap64 (1 + t282)))] from rfl) (Reps.none _ _)))
           intro v342 w109 ho110 hb hg_ hnew_
           clear hg_ hnew_
           (first | rw [← Ny341.out] at ho110 | (simp only [Int.reduceToNat] at ho110; rw [← Ny341.out] at ho110))
           have n0_ := Aside0.mk (Kd.S_elder' (by (with_reducible repeat (first | apply Kd.S_alloc | apply Kd.S_drewN | apply Kd.S_drew)); exact HO_285002.out) (Kd.R_base ho110) hb)
           have n1_ := Aside0.mk (Kd.R_elder' (by (with_reducible repeat (first | apply Kd.R_alloc | apply Kd.R_drewN | apply Kd.R_drew)); exact HO_285003.out) (Kd.R_base ho110) hb)
           have n2_ := Aside0.mk (Kd.R_below (by (with_reducible repeat (first | apply Kd.R_alloc | apply Kd.R_drewN | apply Kd.R_drew)); exact HO340.out) hb)
           have n3_ := Aside0.mk (Kd.R_lower (Kd.R_new' ho110 (Kd.R_lt (by (with_reducible repeat (first | apply Kd.R_alloc | apply Kd.R_drewN | apply Kd.R_drew)); exact HO_285003.out))) (below_size (by repeat (first | (with_reducible first | exact HB.out | apply below_alloc | apply pw_below_drewN | apply below_drew1 | refine below_set ?_ GE284.out) | exact HB.out))))
           have n4_ := Aside0.mk (blk_below (g := gb284) (o := .cells #[.slice Ao105 y338.length co105, .int .i64 1, u285002, u285003, .int .i64 t283] 28 (0, 0)) (by (with_reducible repeat (first | refine blk_drewN ?_ _ | refine blk_drew ?_ | refine blk_alloc ?_ _)); exact BK284.out) hb)
           have n5_ := Aside0.mk (below_step (by repeat (first | (with_reducible first | exact HB.out | apply below_alloc | apply pw_below_drewN | apply below_drew1 | refine below_set ?_ GE284.out) | exact HB.out)) hb)
           clear HO_285002
           clear HO_285003
           clear HO340
           clear BK284
           clear HB
           have HO_285002 := n0_
           have HO_285003 := n1_
           have HO340 := n2_
           have HO343 := n3_
           have BK284 := n4_
           have HB := n5_
           clear n0_ n1_ n2_ n3_ n4_ n5_
           clear hb ho110
           obtain ⟨Ao112, co112, eo112⟩ := Kd.R_slice HO343.out
           (first | subst eo112 | (injection eo112 with f1_ f2_ f3_; have f4_ := f1_.symm; have f5_ := f3_.symm; clear f1_ f2_ f3_; subst f4_; subst f5_))
           refine hK.out _ _ ⟨(blk_cell BK284.out 0).trans rfl, (blk_cell BK284.out 1).trans rfl, (blk_cell BK284.out 2).trans rfl, (blk_cell BK284.out 3).trans rfl, (blk_cell BK284.out 4).trans rfl⟩ (fun hHeld => ?_)
           clear hK K
           refine norm_ (a' := ?_) ?_ ?_
           rotate_left
           ·
            show Act.put _ (some 56) _ = _
            simp only [Act.put, List.setIfInBounds_toArray, List.set_cons_zero, List.set_cons_succ, i64_w, i32_w]
            rfl
           refine one_ (i := 7) (N := some 57) #[true, true, true, true, true, true, true, true, false, false, false] rfl rfl (one_of HT_.out (by kernel_rfl)) (by decide) (fun K hK => ?_)
           refine value_ (w1 := ?_) (v := ?_) (by rfl) rfl ?_ ?_
           rotate_left 2
           ·
            go_simp
            constructor
            ·
             rfl
            ·
             rfl
           refine hK.out _ _ ⟨(blk_cell (blk_alloc BK284.out _) 0).trans rfl, (blk_cell (blk_alloc BK284.out _) 1).trans rfl, (blk_cell (blk_alloc BK284.out _) 2).trans rfl, (blk_cell (blk_alloc BK284.out _) 3).trans rfl, (blk_cell (blk_alloc BK284.out _) 4).trans rfl⟩ (fun hHeld => ?_)
           clear hK K
           refine norm_ (a' := ?_) ?_ ?_
           rotate_left
           ·
            show Act.put _ (some 57) _ = _
            simp only [Act.put, List.setIfInBounds_toArray, List.set_cons_zero, List.set_cons_succ, i64_w, i32_w]
            rfl
           refine one_ (i := 8) (N := some 58) #[true, true, true, true, true, true, true, true, true, false, false] rfl rfl (one_of HT_.out (by kernel_rfl)) (by decide) (fun K hK => ?_)
           refine Kd.S_append_step (Kd.slice 3 (Kd.int .i64)) (w0 := w) w.heap.size (by rfl) (.tmp 51) (.tmp 57) 22 23 (.slice none 0 0) 24 rfl Try.underlying22 info23 rfl (by decide) (by omega) u285002 x285002_1 y341 [.slice Ao112 y341.length co112] (fun k_ => some k_ ≠ (u285003 : Value).ownBlock) (fun k_ => some k_ = (.slice Ao112 y341.length co112 : Value).ownBlock) rfl rfl ?aP (fun k_ hk_ => ((Kd.R_mono (ok' := fun k_ => ((fun k_ => some k_ ≠ (u285003 : Value).ownBlock)) k_ ∧ some k_ ≠ (u285002 : Value).ownBlock) (Kd.R_apart' (HO343.out) (Kd.S_typed HO_285002.out) (by decide)) (fun k_ hk => ⟨hk.1.2, hk.2⟩))).1 k_ hk_.symm) ?aF ?aO ?aB ?aS ?aL ?_
           (case aP => exact Kd.M_row (Kd.R_mono (Kd.R_tight rfl (Kd.R_mono (ok' := fun k_ => ((fun k_ => some k_ ≠ (u285003 : Value).ownBlock)) k_ ∧ some k_ ≠ (u285002 : Value).ownBlock) (Kd.R_apart' (HO343.out) (Kd.S_typed HO_285002.out) (by decide)) (fun k_ hk => ⟨hk.1.2, hk.2⟩))) (fun _ h_ => h_)))
           (case aB => exact (by repeat (first | (with_reducible first | exact HB.out | apply below_alloc | apply pw_below_drewN | apply below_drew1 | refine below_set ?_ GE284.out) | exact HB.out)))
           (case aF => exact (fun k_ hk => Kd.fresh' (Kd.R_lt (by (with_reducible repeat (first | apply Kd.R_alloc | apply Kd.R_drewN | apply Kd.R_drew)); exact HO_285003.out)) k_ hk))
           (case aO => exact (by (with_reducible repeat (first | apply Kd.S_alloc | apply Kd.S_drewN | apply Kd.S_drew)); exact Kd.S_mono HO_285002.out (fun k_ hk => ⟨hk.1, fun e_ => hk.2 e_⟩)))
           (case aS => exact (below_size (by repeat (first | (with_reducible first | exact HB.out | apply below_alloc | apply pw_below_drewN | apply below_drew1 | refine below_set ?_ GE284.out) | exact HB.out))))
           (case aL => have := LMc101.out; omega)
           intro v345 w111 ho hb hg hat
           rw [← Ny344.out] at ho
           have n0_ := Aside0.mk (Kd.R_over' (by (with_reducible repeat (first | apply Kd.R_alloc | apply Kd.R_drewN | apply Kd.R_drew)); exact HO_285003.out) (Kd.S_typed (by (with_reducible repeat (first | apply Kd.S_alloc | apply Kd.S_drewN | apply Kd.S_drew)); exact HO_285002.out)) (by decide) hg)
           have n1_ := Aside0.mk (blk_grown (g := gb284) (o := .cells #[.slice Ao105 y338.length co105, .int .i64 1, u285002, u285003, .int .i64 t283] 28 (0, 0)) (by (with_reducible repeat (first | refine blk_drewN ?_ _ | refine blk_drew ?_ | refine blk_alloc ?_ _)); exact BK284.out) hg (Kd.S_ne HO_285002.out BK284.out (by decide)))
           have n2_ := Aside0.mk (Kd.R_over' (by (with_reducible repeat (first | apply Kd.R_alloc | apply Kd.R_drewN | apply Kd.R_drew)); exact HO340.out) (Kd.S_typed (by (with_reducible repeat (first | apply Kd.S_alloc | apply Kd.S_drewN | apply Kd.S_drew)); exact HO_285002.out)) (by decide) hg)
           have n3_ := Aside0.mk (hb)
           have n4_ := Aside0.mk (ho)
           clear HO_285003
           clear BK284
           clear HO340
           clear HB
           clear HO_285002
           clear HO343
           have HO_285003 := n0_
           have BK284 := n1_
           have HO340 := n2_
           have HB := n3_
           have HO346 := n4_
           clear n0_ n1_ n2_ n3_ n4_
           clear ho hb hg hat
           obtain ⟨Ao113, co113, eo113⟩ := Kd.S_slice HO346.out
           (first | subst eo113 | (injection eo113 with f1_ f2_ f3_; have f4_ := f1_.symm; have f5_ := f3_.symm; clear f1_ f2_ f3_; subst f4_; subst f5_))
           refine hK.out _ _ ⟨(blk_cell BK284.out 0).trans rfl, (blk_cell BK284.out 1).trans rfl, (blk_cell BK284.out 2).trans rfl, (blk_cell BK284.out 3).trans rfl, (blk_cell BK284.out 4).trans rfl⟩ (fun hHeld => ?_)
           clear hK K
           refine norm_ (a' := ?_) ?_ ?_
           rotate_left
           ·
            show Act.put _ (some 58) _ = _
            simp only [Act.put, List.setIfInBounds_toArray, List.set_cons_zero, List.set_cons_succ, i64_w, i32_w]
            rfl
           refine pure_ (i := 9) (N := some 59) (v := ?_) (a' := ?_) #[true, true, true, true, true, true, true, true, true, true, false] rfl rfl (any_of HT_.out (by kernel_rfl)) (fun _ _ _ h => h) (Or.inl ⟨by rfl, ?_⟩) ?_ ?_
           rotate_left
           ·
            intro w'
            go_simp
            with_reducible rfl
           rotate_left
           ·
            simp only [Act.put, List.setIfInBounds_toArray, List.set_cons_zero, List.set_cons_succ, i64_w, i32_w]
            rfl
           refine last_ (i := 10) (N := none) #[true, true, true, true, true, true, true, true, true, true, true] rfl rfl (one_of HT_.out (by kernel_rfl)) (by decide) (fun K hK => ?_)
           have hs114 : w111.cell? ⟨gb284, 2, none⟩ = some (u285002) := (blk_cell BK284.out 2).trans rfl
           have hfs114 := blk_frozen BK284.out 2
           refine skip_ (w1 := ?_) (by rfl) rfl ?_ ?_
           rotate_left
           ·
            go_simp
            rfl
           refine hK.out _ _ ?_
           clear hK K
           refine done_ (done_of HT_.out (by kernel_rfl)) ?_
           have hcz115_0 : w111.cell? ⟨gb284, 0, none⟩ = some (.slice Ao105 y338.length co105) := (blk_cell BK284.out 0).trans rfl
           have hcz115_1 : w111.cell? ⟨gb284, 1, none⟩ = some (.int .i64 1) := (blk_cell BK284.out 1).trans rfl
           have hcz115_2 : w111.cell? ⟨gb284, 2, none⟩ = some (u285002) := (blk_cell BK284.out 2).trans rfl
           have hcz115_3 : w111.cell? ⟨gb284, 3, none⟩ = some (u285003) := (blk_cell BK284.out 3).trans rfl
           have hcz115_4 : w111.cell? ⟨gb284, 4, none⟩ = some (.int .i64 t283) := (blk_cell BK284.out 4).trans rfl
           have hfz115_0 := blk_frozen BK284.out 0
           have hfz115_1 := blk_frozen BK284.out 1
           have hfz115_2 := blk_frozen BK284.out 2
           have hfz115_3 := blk_frozen BK284.out 3
           have hfz115_4 := blk_frozen BK284.out 4
           try go_wp2_with (first | ((with_reducible refine gate_builtin (b := .append) (xs := #[.tmp 61, .tmp 63]) rfl ?_); at_builtin; refine Kd.R_append (Kd.int .i64) (w0 := w) w.heap.size rfl (.tmp 61) (.tmp 63) 23 3 (.int .i64 0) 8 rfl Try.underlying23 info3 rfl (by decide) (by omega) u285003 x285003_1 0 [.int .i64 0] (fun _ => True) (fun _ => False) rfl (by first | (go_simp; done) | (go_simp; rfl)) ?aP (fun _ hk => hk.elim) ?aF ?aO ?aB ?aS ?aL ?_; (case aP => exact rfl); (case aB => exact (by repeat (first | (with_reducible first | exact HB.out | apply below_alloc | apply pw_below_drewN | apply below_drew1 | refine below_set ?_ GE284.out) | exact HB.out))); (case aF => exact (fun _ _ => trivial)); (case aO => exact (by (with_reducible repeat (first | apply Kd.R_alloc | apply Kd.R_drewN | apply Kd.R_drew)); exact Kd.R_mono (Kd.R_far (p := ⟨gb284, 2, none⟩) (Kd.R_types HO_285003.out BK284.out (by decide)) (fun _ hk => hk.2) (.slice Ao113 y344.length co113)) (fun _ hk => trivial))); (case aS => exact (below_size (by repeat (first | (with_reducible first | exact HB.out | apply below_alloc | apply pw_below_drewN | apply below_drew1 | refine below_set ?_ GE284.out) | exact HB.out)))); (case aL => have := LMc102.out; omega); intro v348 w116 ho hb hg hat; rw [← Ny347.out] at ho; have n0_ := Aside0.mk (blk_grown (g := gb284) (o := .cells #[.slice Ao105 y338.length co105, .int .i64 1, .slice Ao113 y344.length co113, u285003, .int .i64 t283] 28 (0, 0)) (by (with_reducible repeat (first | refine blk_drewN ?_ _ | refine blk_drew ?_ | refine blk_alloc ?_ _)); refine blk_put (cs := #[.slice Ao105 y338.length co105, .int .i64 1, u285002, u285003, .int .i64 t283]) ?_ 2 _ rfl; (with_reducible repeat (first | refine blk_drewN ?_ _ | refine blk_drew ?_ | refine blk_alloc ?_ _)); exact BK284.out) hg (Kd.R_ne HO_285003.out BK284.out (by decide))); have n1_ := Aside0.mk (Kd.R_over' (by (with_reducible repeat (first | apply Kd.R_alloc | apply Kd.R_drewN | apply Kd.R_drew)); exact (Kd.R_mono (Kd.R_far (p := ⟨gb284, 2, none⟩) (Kd.R_types HO340.out BK284.out (by decide)) (fun _ hk => hk.2) (.slice Ao113 y344.length co113)) (fun _ h_ => h_.1))) (Kd.R_typed (by (with_reducible repeat (first | apply Kd.R_alloc | apply Kd.R_drewN | apply Kd.R_drew)); exact (Kd.R_mono (Kd.R_far (p := ⟨gb284, 2, none⟩) (Kd.R_types HO_285003.out BK284.out (by decide)) (fun _ hk => hk.2) (.slice Ao113 y344.length co113)) (fun _ h_ => h_.1)))) (by decide) hg); have n2_ := Aside0.mk (Kd.S_after (ok := (fun _ => True)) (by (with_reducible repeat (first | apply Kd.S_alloc | apply Kd.S_drewN | apply Kd.S_drew)); exact Kd.S_mono (Kd.S_far (p := ⟨gb284, 2, none⟩) (Kd.S_types HO346.out BK284.out (by decide)) (fun _ hk => hk.2) (.slice Ao113 y344.length co113)) (fun _ hk => ⟨trivial, hk.1⟩)) hg hat); have n3_ := Aside0.mk (hb); have n4_ := Aside0.mk (ho); clear BK284; clear HO340; clear HO346; clear HB; clear HO_285003; have BK284 := n0_; have HO340 := n1_; have HO346 := n2_; have HB := n3_; have HO349 := n4_; clear n0_ n1_ n2_ n3_ n4_; clear ho hb hg hat; obtain ⟨Ao117, co117, eo117⟩ := Kd.R_slice HO349.out; subst eo117; have hcz118_0 : w116.cell? ⟨gb284, 0, none⟩ = some (.slice Ao105 y338.length co105) := (blk_cell BK284.out 0).trans rfl; have hcz118_1 : w116.cell? ⟨gb284, 1, none⟩ = some (.int .i64 1) := (blk_cell BK284.out 1).trans rfl; have hcz118_2 : w116.cell? ⟨gb284, 2, none⟩ = some (.slice Ao113 y344.length co113) := (blk_cell BK284.out 2).trans rfl; have hcz118_3 : w116.cell? ⟨gb284, 3, none⟩ = some (u285003) := (blk_cell BK284.out 3).trans rfl; have hcz118_4 : w116.cell? ⟨gb284, 4, none⟩ = some (.int .i64 t283) := (blk_cell BK284.out 4).trans rfl; have hfz118_0 := blk_frozen BK284.out 0; have hfz118_1 := blk_frozen BK284.out 1; have hfz118_2 := blk_frozen BK284.out 2; have hfz118_3 := blk_frozen BK284.out 3; have hfz118_4 := blk_frozen BK284.out 4))
           go_roundg k1
           case measure => have := HK1.out; omega
           case rel => exact ⟨(wrap64 (x8_1 + 1)), (y338), (y344), (y347), (.slice Ao105 y338.length co105), (.slice Ao113 y344.length co113), (.slice Ao117 y347.length co117), (by first | rfl | (simp; done) | (simp [*]; done)), (by first | exact H' | (rw [hji78]; exact H') | (rw [hji14]; exact H') | (rw [hji10]; exact H') | (rw [hji10, hji14]; exact H') | (rw [hji10, hji78]; exact H') | (rw [hji14, hji10]; exact H') | (rw [hji14, hji78]; exact H') | (rw [hji78, hji10]; exact H') | (rw [hji78, hji14]; exact H')), ⟨by have := HK1.out; omega⟩, ⟨by (with_reducible repeat (first | apply Kd.R_alloc | apply Kd.R_drewN | apply Kd.R_drew)); exact Kd.R_mono (Kd.R_far (p := ⟨gb284, 3, none⟩) (Kd.R_types HO340.out BK284.out (by decide)) (fun _ hk => hk.2) (.slice Ao117 y347.length co117)) (fun _ hk => trivial)⟩, ⟨by (with_reducible repeat (first | apply Kd.S_alloc | apply Kd.S_drewN | apply Kd.S_drew)); exact Kd.S_mono (Kd.S_far (p := ⟨gb284, 3, none⟩) (Kd.S_types HO346.out BK284.out (by decide)) (fun _ hk => hk.2) (.slice Ao117 y347.length co117)) (fun _ hk => hk.1.2)⟩, ⟨by (with_reducible repeat (first | apply Kd.R_alloc | apply Kd.R_drewN | apply Kd.R_drew)); exact Kd.R_mono (Kd.R_far (p := ⟨gb284, 3, none⟩) (Kd.R_types HO349.out BK284.out (by decide)) (fun _ hk => hk.2) (.slice Ao117 y347.length co117)) (fun _ hk => trivial)⟩, ⟨by (with_reducible repeat (first | refine blk_drewN ?_ _ | refine blk_drew ?_ | refine blk_alloc ?_ _)); refine blk_put (cs := #[.slice Ao105 y338.length co105, .int .i64 1, .slice Ao113 y344.length co113, u285003, .int .i64 t283]) ?_ 3 _ rfl; (with_reducible repeat (first | refine blk_drewN ?_ _ | refine blk_drew ?_ | refine blk_alloc ?_ _)); exact BK284.out⟩, ⟨by repeat (first | (with_reducible first | exact HB.out | apply below_alloc | apply pw_below_drewN | apply below_drew1 | refine below_set ?_ GE284.out) | exact HB.out)⟩⟩
          ·
           rw [if_neg c102] at H
           exact absurd H (by simp)
         ·
          rw [if_neg c101] at H
          exact absurd H (by simp)
       ·
        rw [if_neg c99] at H
        exact absurd H (by simp)
     ·
      rw [if_neg c75] at H
      have c75b0 : decide ((wrap64 (1 + t282)) < t283) = false := decide_eq_false c75
      clear c75
      by_cases c119 : x285000_1.length < 8796093022208
      ·
       rw [if_pos c119] at H
       have LMc119 := Aside0.mk c119
       clear c119
       obtain ⟨y350, hy350⟩ : ∃ y_ : List (S45), y_ = (x285000_1 ++ [(⟨x8_1, 0⟩ : S45)]) := ⟨_, rfl⟩
       replace H : (if (wrap64 (1 + t282)) = 0 then (none) else (if x285002_1.length < 5864062014805 then (if x285003_1.length < 17592186044416 then (foretellkeep_FairRound.l0 k1 (wrap64 (1 + t282)) t283 (wrap64 (x8_1 + 1)) y350 1 (x285002_1 ++ [(([Int.tmod (wrap64 (x8_1 + 1)) (wrap64 (1 + t282))] : List Int))]) (x285003_1 ++ [0]) t283) else (none)) else (none))) = some r := by first | (rw [hy350]; with_reducible exact H) | (have H2_ := (Option.bind_some _ _).symm.trans H; rw [hy350]; with_reducible exact H2_) | (have H2_ := (Option.bind_some _ _).symm.trans H; with_reducible exact H2_) | with_reducible exact H | (rw [hy350]; exact H) | exact H
       have Ny350 := Aside0.mk hy350
       clear hy350
       by_cases c120 : (wrap64 (1 + t282)) = 0
       ·
        rw [if_pos c120] at H
        exact absurd H (by simp)
       ·
        rw [if_neg c120] at H
        have c120b0 : ((wrap64 (1 + t282)) == 0) = false := beq_eq_false_iff_ne.mpr c120
        have c120b1 : ((wrap64 (1 + t282)) != 0) = true := bne_iff_ne.mpr c120
        obtain ⟨y353, hy353⟩ : ∃ y_ : List Int, y_ = (([Int.tmod (wrap64 (x8_1 + 1)) (wrap64 (1 + t282))] : List Int)) := ⟨_, rfl⟩
        replace H : (if x285002_1.length < 5864062014805 then (if x285003_1.length < 17592186044416 then (foretellkeep_FairRound.l0 k1 (wrap64 (1 + t282)) t283 (wrap64 (x8_1 + 1)) y350 1 (x285002_1 ++ [y353]) (x285003_1 ++ [0]) t283) else (none)) else (none)) = some r := by first | (rw [hy353]; with_reducible exact H) | (have H2_ := (Option.bind_some _ _).symm.trans H; rw [hy353]; with_reducible exact H2_) | (have H2_ := (Option.bind_some _ _).symm.trans H; with_reducible exact H2_) | with_reducible exact H | (rw [hy353]; exact H) | exact H
        have Ny353 := Aside0.mk hy353
        clear hy353
        by_cases c121 : x285002_1.length < 5864062014805
        ·
         rw [if_pos c121] at H
         have LMc121 := Aside0.mk c121
         clear c121
         obtain ⟨y356, hy356⟩ : ∃ y_ : List (List Int), y_ = (x285002_1 ++ [y353]) := ⟨_, rfl⟩
         replace H : (if x285003_1.length < 17592186044416 then (foretellkeep_FairRound.l0 k1 (wrap64 (1 + t282)) t283 (wrap64 (x8_1 + 1)) y350 1 y356 (x285003_1 ++ [0]) t283) else (none)) = some r := by first | (rw [hy356]; with_reducible exact H) | (have H2_ := (Option.bind_some _ _).symm.trans H; rw [hy356]; with_reducible exact H2_) | (have H2_ := (Option.bind_some _ _).symm.trans H; with_reducible exact H2_) | with_reducible exact H | (rw [hy356]; exact H) | exact H
         have Ny356 := Aside0.mk hy356
         clear hy356
         by_cases c122 : x285003_1.length < 17592186044416
         ·
          rw [if_pos c122] at H
          have LMc122 := Aside0.mk c122
          clear c122
          obtain ⟨y359, hy359⟩ : ∃ y_ : List Int, y_ = (x285003_1 ++ [0]) := ⟨_, rfl⟩
          replace H : (foretellkeep_FairRound.l0 k1 (wrap64 (1 + t282)) t283 (wrap64 (x8_1 + 1)) y350 1 y356 y359 t283) = some r := by first | (rw [hy359]; with_reducible exact H) | (have H2_ := (Option.bind_some _ _).symm.trans H; rw [hy359]; with_reducible exact H2_) | (have H2_ := (Option.bind_some _ _).symm.trans H; with_reducible exact H2_) | with_reducible exact H | (rw [hy359]; exact H) | exact H
          have Ny359 := Aside0.mk hy359
          clear hy359
          have H' := Aside0.mk H
          clear H
          have hcz123_0 : wr.cell? ⟨gb284, 0, none⟩ = some (u285000) := (blk_cell BK284.out 0).trans rfl
          have hcz123_1 : wr.cell? ⟨gb284, 1, none⟩ = some (.int .i64 1) := (blk_cell BK284.out 1).trans rfl
          have hcz123_2 : wr.cell? ⟨gb284, 2, none⟩ = some (u285002) := (blk_cell BK284.out 2).trans rfl
          have hcz123_3 : wr.cell? ⟨gb284, 3, none⟩ = some (u285003) := (blk_cell BK284.out 3).trans rfl
          have hcz123_4 : wr.cell? ⟨gb284, 4, none⟩ = some (.int .i64 t283) := (blk_cell BK284.out 4).trans rfl
          have hfz123_0 := blk_frozen BK284.out 0
          have hfz123_1 := blk_frozen BK284.out 1
          have hfz123_2 := blk_frozen BK284.out 2
          have hfz123_3 := blk_frozen BK284.out 3
          have hfz123_4 := blk_frozen BK284.out 4
          try go_wp2_with (first | ((with_reducible refine gate_builtin (b := .append) (xs := #[.tmp 44, .tmp 47]) rfl ?_); at_builtin; refine Kd.R_append k45 (w0 := w) w.heap.size rfl (.tmp 44) (.tmp 47) 26 45 (.agg #[(.int .i64 0), (.int .i64 0)]) 16 rfl Try.underlying26 info45 rfl (by decide) (by omega) u285000 x285000_1 (⟨x8_1, 0⟩ : S45) [.int .i64 x8_1, .int .i64 0] (fun _ => True) (fun _ => False) rfl rfl ?aP (fun _ hk => hk.elim) ?aF ?aO ?aB ?aS ?aL ?_; (case aP => exact k45_mkM _ _ _ (⟨x8_1, 0⟩ : S45)); (case aB => exact (by repeat (first | (with_reducible first | exact HB.out | apply below_alloc | apply pw_below_drewN | apply below_drew1 | refine below_set ?_ GE284.out) | exact HB.out))); (case aF => exact (fun _ _ => trivial)); (case aO => exact (by (with_reducible repeat (first | apply Kd.R_alloc | apply Kd.R_drewN | apply Kd.R_drew)); exact HO_285000.out)); (case aS => exact (below_size (by repeat (first | (with_reducible first | exact HB.out | apply below_alloc | apply pw_below_drewN | apply below_drew1 | refine below_set ?_ GE284.out) | exact HB.out)))); (case aL => have := LMc119.out; omega); intro v351 w124 ho hb hg hat; rw [← Ny350.out] at ho; have n0_ := Aside0.mk (Kd.S_over' (by (with_reducible repeat (first | apply Kd.S_alloc | apply Kd.S_drewN | apply Kd.S_drew)); exact HO_285002.out) (Kd.R_typed (by (with_reducible repeat (first | apply Kd.R_alloc | apply Kd.R_drewN | apply Kd.R_drew)); exact HO_285000.out)) (by decide) hg); have n1_ := Aside0.mk (Kd.R_over' (by (with_reducible repeat (first | apply Kd.R_alloc | apply Kd.R_drewN | apply Kd.R_drew)); exact HO_285003.out) (Kd.R_typed (by (with_reducible repeat (first | apply Kd.R_alloc | apply Kd.R_drewN | apply Kd.R_drew)); exact HO_285000.out)) (by decide) hg); have n2_ := Aside0.mk (blk_grown (g := gb284) (o := .cells #[u285000, .int .i64 1, u285002, u285003, .int .i64 t283] 28 (0, 0)) (by (with_reducible repeat (first | refine blk_drewN ?_ _ | refine blk_drew ?_ | refine blk_alloc ?_ _)); exact BK284.out) hg (Kd.R_ne HO_285000.out BK284.out (by decide))); have n3_ := Aside0.mk (hb); have n4_ := Aside0.mk (ho); clear HO_285002; clear HO_285003; clear BK284; clear HB; clear HO_285000; have HO_285002 := n0_; have HO_285003 := n1_; have BK284 := n2_; have HB := n3_; have HO352 := n4_; clear n0_ n1_ n2_ n3_ n4_; clear ho hb hg hat; obtain ⟨Ao125, co125, eo125⟩ := Kd.R_slice HO352.out; subst eo125; have hcz126_0 : w124.cell? ⟨gb284, 0, none⟩ = some (u285000) := (blk_cell BK284.out 0).trans rfl; have hcz126_1 : w124.cell? ⟨gb284, 1, none⟩ = some (.int .i64 1) := (blk_cell BK284.out 1).trans rfl; have hcz126_2 : w124.cell? ⟨gb284, 2, none⟩ = some (u285002) := (blk_cell BK284.out 2).trans rfl; have hcz126_3 : w124.cell? ⟨gb284, 3, none⟩ = some (u285003) := (blk_cell BK284.out 3).trans rfl; have hcz126_4 : w124.cell? ⟨gb284, 4, none⟩ = some (.int .i64 t283) := (blk_cell BK284.out 4).trans rfl; have hfz126_0 := blk_frozen BK284.out 0; have hfz126_1 := blk_frozen BK284.out 1; have hfz126_2 := blk_frozen BK284.out 2; have hfz126_3 := blk_frozen BK284.out 3; have hfz126_4 := blk_frozen BK284.out 4))
          have n0_ : Aside0 (Kd.S (Kd.slice 3 (Kd.int .i64)) 23 (w124.setCell ⟨gb284, 0, none⟩ (.slice Ao125 y350.length co125)) w.heap.size (fun k_ => some k_ ≠ (u285003 : Value).ownBlock) u285002 x285002_1) := ⟨by (with_reducible repeat (first | apply Kd.S_alloc | apply Kd.S_drewN | apply Kd.S_drew)); exact Kd.S_mono (Kd.S_far (p := ⟨gb284, 0, none⟩) (Kd.S_types HO_285002.out BK284.out (by decide)) (fun _ hk => hk.2) (.slice Ao125 y350.length co125)) (fun _ hk => hk.1)⟩
          have n1_ : Aside0 (Kd.R (Kd.int .i64) 3 (w124.setCell ⟨gb284, 0, none⟩ (.slice Ao125 y350.length co125)) w.heap.size (fun _ => True) u285003 x285003_1) := ⟨by (with_reducible repeat (first | apply Kd.R_alloc | apply Kd.R_drewN | apply Kd.R_drew)); exact Kd.R_mono (Kd.R_far (p := ⟨gb284, 0, none⟩) (Kd.R_types HO_285003.out BK284.out (by decide)) (fun _ hk => hk.2) (.slice Ao125 y350.length co125)) (fun _ hk => trivial)⟩
          have n2_ : Aside0 (Kd.R k45 45 (w124.setCell ⟨gb284, 0, none⟩ (.slice Ao125 y350.length co125)) w.heap.size (fun _ => True) (.slice Ao125 y350.length co125) y350) := ⟨by (with_reducible repeat (first | apply Kd.R_alloc | apply Kd.R_drewN | apply Kd.R_drew)); exact Kd.R_mono (Kd.R_far (p := ⟨gb284, 0, none⟩) (Kd.R_types HO352.out BK284.out (by decide)) (fun _ hk => hk.2) (.slice Ao125 y350.length co125)) (fun _ hk => trivial)⟩
          have n3_ : Aside0 ((w124.setCell ⟨gb284, 0, none⟩ (.slice Ao125 y350.length co125)).heap[gb284]? = some (.cells #[.slice Ao125 y350.length co125, .int .i64 1, u285002, u285003, .int .i64 t283] 28 (0, 0))) := ⟨by (with_reducible repeat (first | refine blk_drewN ?_ _ | refine blk_drew ?_ | refine blk_alloc ?_ _)); refine blk_put (cs := #[u285000, .int .i64 1, u285002, u285003, .int .i64 t283]) ?_ 0 _ rfl; (with_reducible repeat (first | refine blk_drewN ?_ _ | refine blk_drew ?_ | refine blk_alloc ?_ _)); exact BK284.out⟩
          have n4_ : Aside0 (Below w.heap.size w (w124.setCell ⟨gb284, 0, none⟩ (.slice Ao125 y350.length co125))) := ⟨by repeat (first | (with_reducible first | exact HB.out | apply below_alloc | apply pw_below_drewN | apply below_drew1 | refine below_set ?_ GE284.out) | exact HB.out)⟩
          (try clear HO_285002)
          (try clear HO_285003)
          (try clear HO352)
          (try clear BK284)
          (try clear HB)
          generalize (w124.setCell ⟨gb284, 0, none⟩ (.slice Ao125 y350.length co125)) = w127 at n0_ n1_ n2_ n3_ n4_ ⊢
          have HO_285002 := n0_
          have HO_285003 := n1_
          have HO352 := n2_
          have BK284 := n3_
          have HB := n4_
          clear n0_ n1_ n2_ n3_ n4_
          have n0_ := Aside0.mk (Kd.S_drew HO_285002.out)
          have n1_ := Aside0.mk (Kd.R_drew HO_285003.out)
          have n2_ := Aside0.mk (Kd.R_drew HO352.out)
          have n3_ := Aside0.mk (blk_drew BK284.out)
          have n4_ := Aside0.mk (below_drew1 HB.out)
          clear HO_285002
          clear HO_285003
          clear HO352
          clear BK284
          clear HB
          have HO_285002 := n0_
          have HO_285003 := n1_
          have HO352 := n2_
          have BK284 := n3_
          have HB := n4_
          clear n0_ n1_ n2_ n3_ n4_
          refine start_ (n := 11) (S := fun w' => w'.cell? ⟨gb284, 0, none⟩ = some (.slice Ao125 y350.length co125) ∧ w'.cell? ⟨gb284, 1, none⟩ = some (.int .i64 1) ∧ w'.cell? ⟨gb284, 2, none⟩ = some (u285002) ∧ w'.cell? ⟨gb284, 3, none⟩ = some (u285003) ∧ w'.cell? ⟨gb284, 4, none⟩ = some (.int .i64 t283)) (ds := [10]) #[false, false, false, false, false, false, false, false, false, false, false] (by kernel_rfl) rfl rfl ⟨(blk_cell BK284.out 0).trans rfl, (blk_cell BK284.out 1).trans rfl, (blk_cell BK284.out 2).trans rfl, (blk_cell BK284.out 3).trans rfl, (blk_cell BK284.out 4).trans rfl⟩ (fun hHeld => ?_); refine with_tabW foretellkeep_FairRound.tab13 foretellkeep_FairRound.bits13 (fun HT_ HW_ => ?_)
          generalize w127.drew = w128 at HO_285002 HO_285003 HO352 BK284 HB hHeld ⊢
          refine pure_ (i := 0) (N := some 50) (v := ?_) (a' := ?_) #[true, false, false, false, false, false, false, false, false, false, false] rfl rfl (any_of HT_.out (by kernel_rfl)) (fun _ _ _ h => h) (Or.inl ⟨by rfl, ?_⟩) ?_ ?_
          rotate_left
          ·
           intro w'
           go_simp
           with_reducible rfl
          rotate_left
          ·
           simp only [Act.put, List.setIfInBounds_toArray, List.set_cons_zero, List.set_cons_succ, i64_w, i32_w]
           rfl
          refine pure_ (i := 2) (N := some 52) (v := ?_) (a' := ?_) #[true, false, true, false, false, false, false, false, false, false, false] rfl rfl (any_of HT_.out (by kernel_rfl)) (fun _ _ _ h => h) (Or.inl ⟨by rfl, ?_⟩) ?_ ?_
          rotate_left
          ·
           intro w'
           go_simp
           with_reducible rfl
          rotate_left
          ·
           simp only [Act.put, List.setIfInBounds_toArray, List.set_cons_zero, List.set_cons_succ, i64_w, i32_w]
           rfl
          refine pure_ (i := 3) (N := some 53) (v := ?_) (a' := ?_) #[true, false, true, true, false, false, false, false, false, false, false] rfl rfl (any_of HT_.out (by kernel_rfl)) (fun _ _ _ h => h) (Or.inl ⟨by rfl, ?_⟩) ?_ ?_
          rotate_left
          ·
           intro w'
           go_simp
           with_reducible rfl
          rotate_left
          ·
           simp only [Act.put, List.setIfInBounds_toArray, List.set_cons_zero, List.set_cons_succ, i64_w, i32_w]
           rfl
          refine pure_ (i := 4) (N := some 54) (v := ?_) (a' := ?_) #[true, false, true, true, true, false, false, false, false, false, false] rfl rfl (any_of HT_.out (by kernel_rfl)) (fun _ _ _ h => h) (Or.inl ⟨by rfl, ?_⟩) ?_ ?_
          rotate_left
          ·
           intro w'
           go_simp
           with_reducible rfl
          rotate_left
          ·
           simp only [Act.put, List.setIfInBounds_toArray, List.set_cons_zero, List.set_cons_succ, i64_w, i32_w]
           rfl
          refine pure_ (i := 5) (N := some 55) (v := ?_) (a' := ?_) #[true, false, true, true, true, true, false, false, false, false, false] rfl rfl (any_of HT_.out (by kernel_rfl)) (fun _ _ _ h => h) (Or.inl ⟨by rfl, ?_⟩) ?_ ?_
          rotate_left
          ·
           intro w'
           go_simp
           with_reducible rfl
          rotate_left
          ·
           simp only [Act.put, List.setIfInBounds_toArray, List.set_cons_zero, List.set_cons_succ, i64_w, i32_w]
           rfl
          refine take_ (i := 1) (N := some 51) (v := ?_) (a' := ?_) #[true, true, true, true, true, true, false, false, false, false, false] rfl rfl (take_ofW HT_.out HW_.out (by kernel_rfl)) (fun _ _ _ h => h) (Or.inl ⟨by rfl, ?_⟩) hHeld ?_ ?_
          rotate_left
          ·
           rintro w' ⟨s0, s1, s2, s3, s4⟩
           go_simp
           with_reducible rfl
          rotate_left
          ·
           simp only [Act.put, List.setIfInBounds_toArray, List.set_cons_zero, List.set_cons_succ, i64_w, i32_w]
           rfl
          refine one_ (i := 6) (N := some 56) #[true, true, true, true, true, true, true, false, false, false, false] rfl rfl (one_of HT_.out (by kernel_rfl)) (by decide) (fun K hK => ?_)
          refine Kd.R_lit_step (Kd.int .i64) _ 3 ?hg (N := 56) ?hd (xs := ([Int.tmod (wrap64 (x8_1 + 1)) (wrap64 (1 + t282))] : List Int)) (inner := [.int .i64 (Int.tmod (wrap64 (x8_1 + 1)) (wrap64 (1 + t282)))]) (ok := fun _ => True) (okp := fun _ => True) ?hr ?hp (fun _ hk => hk) trivial (Below.refl _ _) (Nat.le_refl _) (by simp) ?_; (case hd => rfl); (case hg => rfl); (case hr => first | (go_simp; done) | (go_simp; rfl)); (case hp => exact (Reps.one (show Kd.M (Kd.int .i64) _ _ _ (Int.tmod (wrap64 (x8_1 + 1)) (wrap64 (1 + t282))) [.int .i64 (Int.tmod (wrap64 (x8_1 + 1)) (wrap64 (1 + t282)))] from rfl) (Reps.none _ _)))
          intro v354 w129 ho130 hb hg_ hnew_
          clear hg_ hnew_
          (first | rw [← Ny353.out] at ho130 | (simp only [Int.reduceToNat] at ho130; rw [← Ny353.out] at ho130))
          have n0_ := Aside0.mk (Kd.S_elder' (by (with_reducible repeat (first | apply Kd.S_alloc | apply Kd.S_drewN | apply Kd.S_drew)); exact HO_285002.out) (Kd.R_base ho130) hb)
          have n1_ := Aside0.mk (Kd.R_elder' (by (with_reducible repeat (first | apply Kd.R_alloc | apply Kd.R_drewN | apply Kd.R_drew)); exact HO_285003.out) (Kd.R_base ho130) hb)
          have n2_ := Aside0.mk (Kd.R_below (by (with_reducible repeat (first | apply Kd.R_alloc | apply Kd.R_drewN | apply Kd.R_drew)); exact HO352.out) hb)
          have n3_ := Aside0.mk (Kd.R_lower (Kd.R_new' ho130 (Kd.R_lt (by (with_reducible repeat (first | apply Kd.R_alloc | apply Kd.R_drewN | apply Kd.R_drew)); exact HO_285003.out))) (below_size (by repeat (first | (with_reducible first | exact HB.out | apply below_alloc | apply pw_below_drewN | apply below_drew1 | refine below_set ?_ GE284.out) | exact HB.out))))
          have n4_ := Aside0.mk (blk_below (g := gb284) (o := .cells #[.slice Ao125 y350.length co125, .int .i64 1, u285002, u285003, .int .i64 t283] 28 (0, 0)) (by (with_reducible repeat (first | refine blk_drewN ?_ _ | refine blk_drew ?_ | refine blk_alloc ?_ _)); exact BK284.out) hb)
          have n5_ := Aside0.mk (below_step (by repeat (first | (with_reducible first | exact HB.out | apply below_alloc | apply pw_below_drewN | apply below_drew1 | refine below_set ?_ GE284.out) | exact HB.out)) hb)
          clear HO_285002
          clear HO_285003
          clear HO352
          clear BK284
          clear HB
          have HO_285002 := n0_
          have HO_285003 := n1_
          have HO352 := n2_
          have HO355 := n3_
          have BK284 := n4_
          have HB := n5_
          clear n0_ n1_ n2_ n3_ n4_ n5_
          clear hb ho130
          obtain ⟨Ao132, co132, eo132⟩ := Kd.R_slice HO355.out
          (first | subst eo132 | (injection eo132 with f1_ f2_ f3_; have f4_ := f1_.symm; have f5_ := f3_.symm; clear f1_ f2_ f3_; subst f4_; subst f5_))
          refine hK.out _ _ ⟨(blk_cell BK284.out 0).trans rfl, (blk_cell BK284.out 1).trans rfl, (blk_cell BK284.out 2).trans rfl, (blk_cell BK284.out 3).trans rfl, (blk_cell BK284.out 4).trans rfl⟩ (fun hHeld => ?_)
          clear hK K
          refine norm_ (a' := ?_) ?_ ?_
          rotate_left
          ·
           show Act.put _ (some 56) _ = _
           simp only [Act.put, List.setIfInBounds_toArray, List.set_cons_zero, List.set_cons_succ, i64_w, i32_w]
           rfl
          refine one_ (i := 7) (N := some 57) #[true, true, true, true, true, true, true, true, false, false, false] rfl rfl (one_of HT_.out (by kernel_rfl)) (by decide) (fun K hK => ?_)
          refine value_ (w1 := ?_) (v := ?_) (by rfl) rfl ?_ ?_
          rotate_left 2
          ·
           go_simp
           constructor
           ·
            rfl
           ·
            rfl
          refine hK.out _ _ ⟨(blk_cell (blk_alloc BK284.out _) 0).trans rfl, (blk_cell (blk_alloc BK284.out _) 1).trans rfl, (blk_cell (blk_alloc BK284.out _) 2).trans rfl, (blk_cell (blk_alloc BK284.out _) 3).trans rfl, (blk_cell (blk_alloc BK284.out _) 4).trans rfl⟩ (fun hHeld => ?_)
          clear hK K
          refine norm_ (a' := ?_) ?_ ?_
          rotate_left
          ·
           show Act.put _ (some 57) _ = _
           simp only [Act.put, List.setIfInBounds_toArray, List.set_cons_zero, List.set_cons_succ, i64_w, i32_w]
           rfl
          refine one_ (i := 8) (N := some 58) #[true, true, true, true, true, true, true, true, true, false, false] rfl rfl (one_of HT_.out (by kernel_rfl)) (by decide) (fun K hK => ?_)
          refine Kd.S_append_step (Kd.slice 3 (Kd.int .i64)) (w0 := w) w.heap.size (by rfl) (.tmp 51) (.tmp 57) 22 23 (.slice none 0 0) 24 rfl Try.underlying22 info23 rfl (by decide) (by omega) u285002 x285002_1 y353 [.slice Ao132 y353.length co132] (fun k_ => some k_ ≠ (u285003 : Value).ownBlock) (fun k_ => some k_ = (.slice Ao132 y353.length co132 : Value).ownBlock) rfl rfl ?aP (fun k_ hk_ => ((Kd.R_mono (ok' := fun k_ => ((fun k_ => some k_ ≠ (u285003 : Value).ownBlock)) k_ ∧ some k_ ≠ (u285002 : Value).ownBlock) (Kd.R_apart' (HO355.out) (Kd.S_typed HO_285002.out) (by decide)) (fun k_ hk => ⟨hk.1.2, hk.2⟩))).1 k_ hk_.symm) ?aF ?aO ?aB ?aS ?aL ?_
          (case aP => exact Kd.M_row (Kd.R_mono (Kd.R_tight rfl (Kd.R_mono (ok' := fun k_ => ((fun k_ => some k_ ≠ (u285003 : Value).ownBlock)) k_ ∧ some k_ ≠ (u285002 : Value).ownBlock) (Kd.R_apart' (HO355.out) (Kd.S_typed HO_285002.out) (by decide)) (fun k_ hk => ⟨hk.1.2, hk.2⟩))) (fun _ h_ => h_)))
          (case aB => exact (by repeat (first | (with_reducible first | exact HB.out | apply below_alloc | apply pw_below_drewN | apply below_drew1 | refine below_set ?_ GE284.out) | exact HB.out)))
          (case aF => exact (fun k_ hk => Kd.fresh' (Kd.R_lt (by (with_reducible repeat (first | apply Kd.R_alloc | apply Kd.R_drewN | apply Kd.R_drew)); exact HO_285003.out)) k_ hk))
          (case aO => exact (by (with_reducible repeat (first | apply Kd.S_alloc | apply Kd.S_drewN | apply Kd.S_drew)); exact Kd.S_mono HO_285002.out (fun k_ hk => ⟨hk.1, fun e_ => hk.2 e_⟩)))
          (case aS => exact (below_size (by repeat (first | (with_reducible first | exact HB.out | apply below_alloc | apply pw_below_drewN | apply below_drew1 | refine below_set ?_ GE284.out) | exact HB.out))))
          (case aL => have := LMc121.out; omega)
          intro v357 w131 ho hb hg hat
          rw [← Ny356.out] at ho
          have n0_ := Aside0.mk (Kd.R_over' (by (with_reducible repeat (first | apply Kd.R_alloc | apply Kd.R_drewN | apply Kd.R_drew)); exact HO_285003.out) (Kd.S_typed (by (with_reducible repeat (first | apply Kd.S_alloc | apply Kd.S_drewN | apply Kd.S_drew)); exact HO_285002.out)) (by decide) hg)
          have n1_ := Aside0.mk (blk_grown (g := gb284) (o := .cells #[.slice Ao125 y350.length co125, .int .i64 1, u285002, u285003, .int .i64 t283] 28 (0, 0)) (by (with_reducible repeat (first | refine blk_drewN ?_ _ | refine blk_drew ?_ | refine blk_alloc ?_ _)); exact BK284.out) hg (Kd.S_ne HO_285002.out BK284.out (by decide)))
          have n2_ := Aside0.mk (Kd.R_over' (by (with_reducible repeat (first | apply Kd.R_alloc | apply Kd.R_drewN | apply Kd.R_drew)); exact HO352.out) (Kd.S_typed (by (with_reducible repeat (first | apply Kd.S_alloc | apply Kd.S_drewN | apply Kd.S_drew)); exact HO_285002.out)) (by decide) hg)
          have n3_ := Aside0.mk (hb)
          have n4_ := Aside0.mk (ho)
          clear HO_285003
          clear BK284
          clear HO352
          clear HB
          clear HO_285002
          clear HO355
          have HO_285003 := n0_
          have BK284 := n1_
          have HO352 := n2_
          have HB := n3_
          have HO358 := n4_
          clear n0_ n1_ n2_ n3_ n4_
          clear ho hb hg hat
          obtain ⟨Ao133, co133, eo133⟩ := Kd.S_slice HO358.out
          (first | subst eo133 | (injection eo133 with f1_ f2_ f3_; have f4_ := f1_.symm; have f5_ := f3_.symm; clear f1_ f2_ f3_; subst f4_; subst f5_))
          refine hK.out _ _ ⟨(blk_cell BK284.out 0).trans rfl, (blk_cell BK284.out 1).trans rfl, (blk_cell BK284.out 2).trans rfl, (blk_cell BK284.out 3).trans rfl, (blk_cell BK284.out 4).trans rfl⟩ (fun hHeld => ?_)
          clear hK K
          refine norm_ (a' := ?_) ?_ ?_
          rotate_left
          ·
           show Act.put _ (some 58) _ = _
           simp only [Act.put, List.setIfInBounds_toArray, List.set_cons_zero, List.set_cons_succ, i64_w, i32_w]
           rfl
          refine pure_ (i := 9) (N := some 59) (v := ?_) (a' := ?_) #[true, true, true, true, true, true, true, true, true, true, false] rfl rfl (any_of HT_.out (by kernel_rfl)) (fun _ _ _ h => h) (Or.inl ⟨by rfl, ?_⟩) ?_ ?_
          rotate_left
          ·
           intro w'
           go_simp
           with_reducible rfl
          rotate_left
          ·
           simp only [Act.put, List.setIfInBounds_toArray, List.set_cons_zero, List.set_cons_succ, i64_w, i32_w]
           rfl
          refine last_ (i := 10) (N := none) #[true, true, true, true, true, true, true, true, true, true, true] rfl rfl (one_of HT_.out (by kernel_rfl)) (by decide) (fun K hK => ?_)
          have hs134 : w131.cell? ⟨gb284, 2, none⟩ = some (u285002) := (blk_cell BK284.out 2).trans rfl
          have hfs134 := blk_frozen BK284.out 2
          refine skip_ (w1 := ?_) (by rfl) rfl ?_ ?_
          rotate_left
          ·
           go_simp
           rfl
          refine hK.out _ _ ?_
          clear hK K
          refine done_ (done_of HT_.out (by kernel_rfl)) ?_
          have hcz135_0 : w131.cell? ⟨gb284, 0, none⟩ = some (.slice Ao125 y350.length co125) := (blk_cell BK284.out 0).trans rfl
          have hcz135_1 : w131.cell? ⟨gb284, 1, none⟩ = some (.int .i64 1) := (blk_cell BK284.out 1).trans rfl
          have hcz135_2 : w131.cell? ⟨gb284, 2, none⟩ = some (u285002) := (blk_cell BK284.out 2).trans rfl
          have hcz135_3 : w131.cell? ⟨gb284, 3, none⟩ = some (u285003) := (blk_cell BK284.out 3).trans rfl
          have hcz135_4 : w131.cell? ⟨gb284, 4, none⟩ = some (.int .i64 t283) := (blk_cell BK284.out 4).trans rfl
          have hfz135_0 := blk_frozen BK284.out 0
          have hfz135_1 := blk_frozen BK284.out 1
          have hfz135_2 := blk_frozen BK284.out 2
          have hfz135_3 := blk_frozen BK284.out 3
          have hfz135_4 := blk_frozen BK284.out 4
          try go_wp2_with (first | ((with_reducible refine gate_builtin (b := .append) (xs := #[.tmp 61, .tmp 63]) rfl ?_); at_builtin; refine Kd.R_append (Kd.int .i64) (w0 := w) w.heap.size rfl (.tmp 61) (.tmp 63) 23 3 (.int .i64 0) 8 rfl Try.underlying23 info3 rfl (by decide) (by omega) u285003 x285003_1 0 [.int .i64 0] (fun _ => True) (fun _ => False) rfl (by first | (go_simp; done) | (go_simp; rfl)) ?aP (fun _ hk => hk.elim) ?aF ?aO ?aB ?aS ?aL ?_; (case aP => exact rfl); (case aB => exact (by repeat (first | (with_reducible first | exact HB.out | apply below_alloc | apply pw_below_drewN | apply below_drew1 | refine below_set ?_ GE284.out) | exact HB.out))); (case aF => exact (fun _ _ => trivial)); (case aO => exact (by (with_reducible repeat (first | apply Kd.R_alloc | apply Kd.R_drewN | apply Kd.R_drew)); exact Kd.R_mono (Kd.R_far (p := ⟨gb284, 2, none⟩) (Kd.R_types HO_285003.out BK284.out (by decide)) (fun _ hk => hk.2) (.slice Ao133 y356.length co133)) (fun _ hk => trivial))); (case aS => exact (below_size (by repeat (first | (with_reducible first | exact HB.out | apply below_alloc | apply pw_below_drewN | apply below_drew1 | refine below_set ?_ GE284.out) | exact HB.out)))); (case aL => have := LMc122.out; omega); intro v360 w136 ho hb hg hat; rw [← Ny359.out] at ho; have n0_ := Aside0.mk (blk_grown (g := gb284) (o := .cells #[.slice Ao125 y350.length co125, .int .i64 1, .slice Ao133 y356.length co133, u285003, .int .i64 t283] 28 (0, 0)) (by (with_reducible repeat (first | refine blk_drewN ?_ _ | refine blk_drew ?_ | refine blk_alloc ?_ _)); refine blk_put (cs := #[.slice Ao125 y350.length co125, .int .i64 1, u285002, u285003, .int .i64 t283]) ?_ 2 _ rfl; (with_reducible repeat (first | refine blk_drewN ?_ _ | refine blk_drew ?_ | refine blk_alloc ?_ _)); exact BK284.out) hg (Kd.R_ne HO_285003.out BK284.out (by decide))); have n1_ := Aside0.mk (Kd.R_over' (by (with_reducible repeat (first | apply Kd.R_alloc | apply Kd.R_drewN | apply Kd.R_drew)); exact (Kd.R_mono (Kd.R_far (p := ⟨gb284, 2, none⟩) (Kd.R_types HO352.out BK284.out (by decide)) (fun _ hk => hk.2) (.slice Ao133 y356.length co133)) (fun _ h_ => h_.1))) (Kd.R_typed (by (with_reducible repeat (first | apply Kd.R_alloc | apply Kd.R_drewN | apply Kd.R_drew)); exact (Kd.R_mono (Kd.R_far (p := ⟨gb284, 2, none⟩) (Kd.R_types HO_285003.out BK284.out (by decide)) (fun _ hk => hk.2) (.slice Ao133 y356.length co133)) (fun _ h_ => h_.1)))) (by decide) hg); have n2_ := Aside0.mk (Kd.S_after (ok := (fun _ => True)) (by (with_reducible repeat (first | apply Kd.S_alloc | apply Kd.S_drewN | apply Kd.S_drew)); exact Kd.S_mono (Kd.S_far (p := ⟨gb284, 2, none⟩) (Kd.S_types HO358.out BK284.out (by decide)) (fun _ hk => hk.2) (.slice Ao133 y356.length co133)) (fun _ hk => ⟨trivial, hk.1⟩)) hg hat); have n3_ := Aside0.mk (hb); have n4_ := Aside0.mk (ho); clear BK284; clear HO352; clear HO358; clear HB; clear HO_285003; have BK284 := n0_; have HO352 := n1_; have HO358 := n2_; have HB := n3_; have HO361 := n4_; clear n0_ n1_ n2_ n3_ n4_; clear ho hb hg hat; obtain ⟨Ao137, co137, eo137⟩ := Kd.R_slice HO361.out; subst eo137; have hcz138_0 : w136.cell? ⟨gb284, 0, none⟩ = some (.slice Ao125 y350.length co125) := (blk_cell BK284.out 0).trans rfl; have hcz138_1 : w136.cell? ⟨gb284, 1, none⟩ = some (.int .i64 1) := (blk_cell BK284.out 1).trans rfl; have hcz138_2 : w136.cell? ⟨gb284, 2, none⟩ = some (.slice Ao133 y356.length co133) := (blk_cell BK284.out 2).trans rfl; have hcz138_3 : w136.cell? ⟨gb284, 3, none⟩ = some (u285003) := (blk_cell BK284.out 3).trans rfl; have hcz138_4 : w136.cell? ⟨gb284, 4, none⟩ = some (.int .i64 t283) := (blk_cell BK284.out 4).trans rfl; have hfz138_0 := blk_frozen BK284.out 0; have hfz138_1 := blk_frozen BK284.out 1; have hfz138_2 := blk_frozen BK284.out 2; have hfz138_3 := blk_frozen BK284.out 3; have hfz138_4 := blk_frozen BK284.out 4))
          go_roundg k1
          case measure => have := HK1.out; omega
          case rel => exact ⟨(wrap64 (x8_1 + 1)), (y350), (y356), (y359), (.slice Ao125 y350.length co125), (.slice Ao133 y356.length co133), (.slice Ao137 y359.length co137), (by first | rfl | (simp; done) | (simp [*]; done)), (by first | exact H' | (rw [hji78]; exact H') | (rw [hji14]; exact H') | (rw [hji10]; exact H') | (rw [hji10, hji14]; exact H') | (rw [hji10, hji78]; exact H') | (rw [hji14, hji10]; exact H') | (rw [hji14, hji78]; exact H') | (rw [hji78, hji10]; exact H') | (rw [hji78, hji14]; exact H')), ⟨by have := HK1.out; omega⟩, ⟨by (with_reducible repeat (first | apply Kd.R_alloc | apply Kd.R_drewN | apply Kd.R_drew)); exact Kd.R_mono (Kd.R_far (p := ⟨gb284, 3, none⟩) (Kd.R_types HO352.out BK284.out (by decide)) (fun _ hk => hk.2) (.slice Ao137 y359.length co137)) (fun _ hk => trivial)⟩, ⟨by (with_reducible repeat (first | apply Kd.S_alloc | apply Kd.S_drewN | apply Kd.S_drew)); exact Kd.S_mono (Kd.S_far (p := ⟨gb284, 3, none⟩) (Kd.S_types HO358.out BK284.out (by decide)) (fun _ hk => hk.2) (.slice Ao137 y359.length co137)) (fun _ hk => hk.1.2)⟩, ⟨by (with_reducible repeat (first | apply Kd.R_alloc | apply Kd.R_drewN | apply Kd.R_drew)); exact Kd.R_mono (Kd.R_far (p := ⟨gb284, 3, none⟩) (Kd.R_types HO361.out BK284.out (by decide)) (fun _ hk => hk.2) (.slice Ao137 y359.length co137)) (fun _ hk => trivial)⟩, ⟨by (with_reducible repeat (first | refine blk_drewN ?_ _ | refine blk_drew ?_ | refine blk_alloc ?_ _)); refine blk_put (cs := #[.slice Ao125 y350.length co125, .int .i64 1, .slice Ao133 y356.length co133, u285003, .int .i64 t283]) ?_ 3 _ rfl; (with_reducible repeat (first | refine blk_drewN ?_ _ | refine blk_drew ?_ | refine blk_alloc ?_ _)); exact BK284.out⟩, ⟨by repeat (first | (with_reducible first | exact HB.out | apply below_alloc | apply pw_below_drewN | apply below_drew1 | refine below_set ?_ GE284.out) | exact HB.out)⟩⟩
         ·
          rw [if_neg c122] at H
          exact absurd H (by simp)
        ·
         rw [if_neg c121] at H
         exact absurd H (by simp)
      ·
       rw [if_neg c119] at H
       exact absurd H (by simp)
   ·
    rw [if_neg c7] at H
    have c7b0 : decide (x8_1 < (wrap64 (1 + t282))) = false := decide_eq_false c7
    clear c7
    replace H := Option.bind_eq_some_iff.mp H
    obtain ⟨⟨t285, t286⟩, A1390, H⟩ := H
    replace H : (if 0 ≤ (wrap64 ((wrap64 (1 + t282)) - 1)) then (if (wrap64 ((wrap64 (1 + t282)) - 1)) < (x285002_1.length : Int) then ((scc_Fair.f k1 x285000_1 1 (x285002_1.set ((wrap64 ((wrap64 (1 + t282)) - 1)) : Int).toNat ([] : List Int)) x285003_1 t283).bind fun bt288 => (if t286 = 0 then (if t285 = 0 then (some (bt288.2 == 11)) else (some false)) else (some false))) else (none)) else (none)) = some r := H
    have A139 := Aside0.mk A1390
    clear A1390
    obtain ⟨ji140, hji140⟩ : ∃ j_ : Int, (wrap64 ((wrap64 (1 + t282)) - 1)) = j_ := ⟨_, rfl⟩
    replace H : (if 0 ≤ (ji140) then (if (ji140) < (x285002_1.length : Int) then ((scc_Fair.f k1 x285000_1 1 (x285002_1.set ((ji140) : Int).toNat ([] : List Int)) x285003_1 t283).bind fun bt288 => (if t286 = 0 then (if t285 = 0 then (some (bt288.2 == 11)) else (some false)) else (some false))) else (none)) else (none)) = some r := by first | (rw [hji140] at H; exact H) | (simp only [hji140] at H ⊢; exact H)
    (try rw [hji140] at A139)
    have hji140w : (IntKind.i64.wrap ((wrap64 (1 + t282)) - 1)) = ji140 := (i64_w _).trans hji140
    by_cases c141 : 0 ≤ (ji140)
    ·
     rw [if_pos c141] at H
     have c141b0 : decide (0 ≤ (ji140)) = true := decide_eq_true c141
     clear c141
     by_cases c142 : (ji140) < (x285002_1.length : Int)
     ·
      rw [if_pos c142] at H
      have c142b0 : decide ((ji140) < (x285002_1.length : Int)) = true := decide_eq_true c142
      clear c142
      obtain ⟨y287, hy287⟩ : ∃ y_ : List (List Int), y_ = (x285002_1.set ((ji140) : Int).toNat ([] : List Int)) := ⟨_, rfl⟩
      replace H : ((scc_Fair.f k1 x285000_1 1 y287 x285003_1 t283).bind fun bt288 => (if t286 = 0 then (if t285 = 0 then (some (bt288.2 == 11)) else (some false)) else (some false))) = some r := by first | (rw [hy287]; with_reducible exact H) | (have H2_ := (Option.bind_some _ _).symm.trans H; rw [hy287]; with_reducible exact H2_) | (have H2_ := (Option.bind_some _ _).symm.trans H; with_reducible exact H2_) | with_reducible exact H | (rw [hy287]; exact H) | exact H
      have Ny287 := Aside0.mk hy287
      clear hy287
      replace H := Option.bind_eq_some_iff.mp H
      obtain ⟨⟨t288, t289⟩, A1440, H⟩ := H
      replace H : (if t286 = 0 then (if t285 = 0 then (some (t289 == 11)) else (some false)) else (some false)) = some r := H
      have A144 := Aside0.mk A1440
      clear A1440
      by_cases c145 : t286 = 0
      ·
       rw [if_pos c145] at H
       have c145b0 : (t286 == 0) = true := beq_iff_eq.mpr c145
       have c145b1 : (t286 != 0) = false := bne_eq_false_iff_eq.mpr c145
       clear c145
       by_cases c146 : t285 = 0
       ·
        rw [if_pos c146] at H
        have c146b0 : (t285 == 0) = true := beq_iff_eq.mpr c146
        have c146b1 : (t285 != 0) = false := bne_eq_false_iff_eq.mpr c146
        clear c146
        obtain rfl := Option.some.inj H
        have hcz147_0 : wr.cell? ⟨gb284, 0, none⟩ = some (u285000) := (blk_cell BK284.out 0).trans rfl
        have hcz147_1 : wr.cell? ⟨gb284, 1, none⟩ = some (.int .i64 1) := (blk_cell BK284.out 1).trans rfl
        have hcz147_2 : wr.cell? ⟨gb284, 2, none⟩ = some (u285002) := (blk_cell BK284.out 2).trans rfl
        have hcz147_3 : wr.cell? ⟨gb284, 3, none⟩ = some (u285003) := (blk_cell BK284.out 3).trans rfl
        have hcz147_4 : wr.cell? ⟨gb284, 4, none⟩ = some (.int .i64 t283) := (blk_cell BK284.out 4).trans rfl
        have hfz147_0 := blk_frozen BK284.out 0
        have hfz147_1 := blk_frozen BK284.out 1
        have hfz147_2 := blk_frozen BK284.out 2
        have hfz147_3 := blk_frozen BK284.out 3
        have hfz147_4 := blk_frozen BK284.out 4
        obtain ⟨Ao148, co148, eo148⟩ := Kd.R_slice HO_285000.out
        subst eo148
        obtain ⟨Ao149, co149, eo149⟩ := Kd.S_slice HO_285002.out
        subst eo149
        obtain ⟨Ao150, co150, eo150⟩ := Kd.R_slice HO_285003.out
        subst eo150
        go_wp2_with (first | ((with_reducible refine gate_callee (f := 15) rfl ?_); refine goesL_ (some 68) rfl rfl Try.func15 (by kernel_rfl) rfl #[.agg #[.slice Ao148 x285000_1.length co148, .int .i64 1, .slice Ao149 x285002_1.length co149, .slice Ao150 x285003_1.length co150, .int .i64 t283]] rfl (by (try simp only [List.map_toArray, List.map_cons, List.map_nil]); first | done | rfl | (simp only [List.length_drop, List.length_take]; rfl)) ?_; (with_reducible refine (scc_Fair.calls k1 _ _ x285000_1 1 _ _ x285002_1 _ _ x285003_1 t283 t285 t286 _ ?side1 ?side2 ?side3 ?side4 ?side5 ?side6 A139.out).mono ?_); (case side1 => repeat (first | exact (Kd.R_reads' HO_285000.out).2.2 | (with_reducible refine Kd.C_alloc ?_ _) | (with_reducible refine Kd.C_drewN ?_ _) | (with_reducible refine Kd.C_drew ?_))); (case side2 => exact (Kd.R_reads' HO_285000.out).2.1); (case side3 => repeat (first | exact (Kd.S_reads' HO_285002.out).2.2 | (with_reducible refine Kd.C_alloc ?_ _) | (with_reducible refine Kd.C_drewN ?_ _) | (with_reducible refine Kd.C_drew ?_))); (case side4 => exact (Kd.S_reads' HO_285002.out).2.1); (case side5 => repeat (first | exact (Kd.R_reads' HO_285003.out).2.2 | (with_reducible refine Kd.C_alloc ?_ _) | (with_reducible refine Kd.C_drewN ?_ _) | (with_reducible refine Kd.C_drew ?_))); (case side6 => exact (Kd.R_reads' HO_285003.out).2.1); rintro e w151 ⟨rfl, hb⟩; refine ⟨_, rfl, ?_⟩; have n0_ := Aside0.mk (Kd.R_below (by (with_reducible repeat (first | apply Kd.R_alloc | apply Kd.R_drewN | apply Kd.R_drew)); exact HO_285000.out) hb); have n1_ := Aside0.mk (Kd.S_below (by (with_reducible repeat (first | apply Kd.S_alloc | apply Kd.S_drewN | apply Kd.S_drew)); exact HO_285002.out) hb); have n2_ := Aside0.mk (Kd.R_below (by (with_reducible repeat (first | apply Kd.R_alloc | apply Kd.R_drewN | apply Kd.R_drew)); exact HO_285003.out) hb); have n3_ := Aside0.mk (blk_below (g := gb284) (o := .cells #[.slice Ao148 x285000_1.length co148, .int .i64 1, .slice Ao149 x285002_1.length co149, .slice Ao150 x285003_1.length co150, .int .i64 t283] 28 (0, 0)) (by (with_reducible repeat (first | refine blk_drewN ?_ _ | refine blk_drew ?_ | refine blk_alloc ?_ _)); exact BK284.out) hb); have n4_ := Aside0.mk (below_step (by repeat (first | (with_reducible first | exact HB.out | apply below_alloc | apply pw_below_drewN | apply below_drew1 | refine below_set ?_ GE284.out) | exact HB.out)) hb); clear HO_285000; clear HO_285002; clear HO_285003; clear BK284; clear HB; have HO_285000 := n0_; have HO_285002 := n1_; have HO_285003 := n2_; have BK284 := n3_; have HB := n4_; clear n0_ n1_ n2_ n3_ n4_; (try clear hb); (try clear hb2); (try clear hk); (try clear hi); have hcz152_0 : w151.cell? ⟨gb284, 0, none⟩ = some (.slice Ao148 x285000_1.length co148) := (blk_cell BK284.out 0).trans rfl; have hcz152_1 : w151.cell? ⟨gb284, 1, none⟩ = some (.int .i64 1) := (blk_cell BK284.out 1).trans rfl; have hcz152_2 : w151.cell? ⟨gb284, 2, none⟩ = some (.slice Ao149 x285002_1.length co149) := (blk_cell BK284.out 2).trans rfl; have hcz152_3 : w151.cell? ⟨gb284, 3, none⟩ = some (.slice Ao150 x285003_1.length co150) := (blk_cell BK284.out 3).trans rfl; have hcz152_4 : w151.cell? ⟨gb284, 4, none⟩ = some (.int .i64 t283) := (blk_cell BK284.out 4).trans rfl; have hfz152_0 := blk_frozen BK284.out 0; have hfz152_1 := blk_frozen BK284.out 1; have hfz152_2 := blk_frozen BK284.out 2; have hfz152_3 := blk_frozen BK284.out 3; have hfz152_4 := blk_frozen BK284.out 4; have p143 : 0 ≤ ((ji140) : Int) := of_decide_eq_true (by first | (with_reducible assumption) | assumption); have q143 : ((ji140) : Int) < ((x285002_1.length : Int) : Int) := of_decide_eq_true (by first | (with_reducible assumption) | assumption); obtain ⟨go143, co143, eo143, gb143, gl143, cl143, HG143⟩ := Kd.S_form HO_285002.out (by omega); (first | cases eo143 | (injection eo143 with ea_ en_ ec_; (first | subst ea_ | (injection ea_ with ea_; subst ea_)); subst ec_; clear en_)); have GB143 := Aside0.mk gb143; have GG143 := Aside0.mk HG143; clear gb143 gl143 HG143; obtain ⟨_, ce143, hcl143, hM143, hcc143, hfr143, _, _⟩ := Kd.S_elem HO_285002.out [] ((ji140) : Int) p143 q143; obtain ⟨ve143_0, rfl, ge143_0⟩ := hM143; have hx143_0 := hcc143 0 _ rfl; have hf143_0 := hfr143 0; (try simp only [show ((Kd.slice 3 (Kd.int .i64))).sz = 1 from rfl, Nat.mul_one, Nat.add_zero] at hx143_0); (try simp only [show ((Kd.slice 3 (Kd.int .i64))).sz = 1 from rfl, Nat.mul_one, Nat.add_zero] at hf143_0); clear hcl143 hcc143 hfr143; (try clear hM143); replace p143 := eq_true p143; replace q143 := eq_true q143; have HX153 := Aside0.mk (show Kd.S (Kd.slice 3 (Kd.int .i64)) 23 w151 w.heap.size (fun k_ => ((fun k_ => some k_ ≠ (.slice Ao150 x285003_1.length co150 : Value).ownBlock)) k_ ∧ ¬ ((fun _ => False)) k_) (.slice (some ⟨go143, 0, none⟩) x285002_1.length co149) x285002_1 from (by (with_reducible repeat (first | apply Kd.S_alloc | apply Kd.S_drewN | apply Kd.S_drew)); exact Kd.S_mono HO_285002.out (fun k_ hk => ⟨hk, fun e_ => e_⟩))); obtain ⟨oki153, ce153, hcl153, hM153, hcc153, hfr153, hoki153, hH153⟩ := Kd.S_elem HX153.out [] ((ji140) : Int) (of_decide_eq_true (by first | (with_reducible assumption) | assumption)) (by have h_ : ((ji140) : Int) < ((x285002_1.length : Int) : Int) := of_decide_eq_true (by first | (with_reducible assumption) | assumption); first | exact h_ | (have e_ := (Kd.S_reads' HO_285002.out).1; omega) | simpa using h_); obtain ⟨ve153_0, rfl, ge153_0⟩ := hM153; have HP153 := Kd.S_seg hH153 (of_decide_eq_true (by first | (with_reducible assumption) | assumption)) (by have h_ : ((ji140) : Int) < ((x285002_1.length : Int) : Int) := of_decide_eq_true (by first | (with_reducible assumption) | assumption); first | exact h_ | (have e_ := (Kd.S_reads' HO_285002.out).1; omega) | simpa using h_) (seg := [.slice none 0 0]) (j := 0) (show 1 ≤ 1 from by decide) (x' := ([] : List Int)) (Kd.M_row (Kd.R_nil _ _ _ _ _)) (fun _ hk => hk) (fun k_ hk_ => hk_.elim); have hx153_0 := hcc153 0 _ rfl; (try simp only [show ((Kd.slice 3 (Kd.int .i64))).sz = 1 from rfl, Nat.mul_one, Nat.add_zero] at hx153_0); have hf153_0 := hfr153 0; (try simp only [show ((Kd.slice 3 (Kd.int .i64))).sz = 1 from rfl, Nat.mul_one, Nat.add_zero] at hf153_0); clear hcl153 hcc153 hfr153; (try clear hM153); clear hoki153 hH153; (try simp only [show ((Kd.slice 3 (Kd.int .i64))).sz = 1 from rfl, Nat.mul_one, Nat.add_zero] at HP153)) | ((with_reducible refine gate_store (t := 23) (p := 75) rfl ?_); refine store_event (t := 23) (p := 75) (v := ?vo_w154) (w1 := (w151.setCell ⟨go143, ((ji140) : Int).toNat, none⟩ (.slice none 0 0))) ?hg ?ho ?hn ?hr ?_; (case ho => rfl); (case hg => rfl); (case hn => rfl); (case hr => first | (go_simp; done) | (go_simp; rfl)); intro w154 hw; have hg : w151.grownBy w154 (some go143) := (by rw [hw]; exact HP153.2); have hp_ : Kd.S (Kd.slice 3 (Kd.int .i64)) 23 w154 w.heap.size (fun k_ => some k_ ≠ (.slice Ao150 x285003_1.length co150 : Value).ownBlock) (.slice (some ⟨go143, 0, none⟩) x285002_1.length co149) y287 := (by rw [hw, Ny287.out]; exact HP153.1); clear HP153; have n0_ := Aside0.mk (Kd.R_over' (v := (.slice (some ⟨go143, 0, none⟩) x285002_1.length co149)) (by (with_reducible repeat (first | apply Kd.R_alloc | apply Kd.R_drewN | apply Kd.R_drew)); exact HO_285000.out) (Kd.S_typed HO_285002.out) (by decide) hg); have n1_ := Aside0.mk (hp_); have n2_ := Aside0.mk (Kd.R_over' (v := (.slice (some ⟨go143, 0, none⟩) x285002_1.length co149)) (by (with_reducible repeat (first | apply Kd.R_alloc | apply Kd.R_drewN | apply Kd.R_drew)); exact HO_285003.out) (Kd.S_typed HO_285002.out) (by decide) hg); have n3_ := Aside0.mk (blk_grown (g := gb284) (o := .cells #[.slice Ao148 x285000_1.length co148, .int .i64 1, .slice (some ⟨go143, 0, none⟩) x285002_1.length co149, .slice Ao150 x285003_1.length co150, .int .i64 t283] 28 (0, 0)) (by (with_reducible repeat (first | refine blk_drewN ?_ _ | refine blk_drew ?_ | refine blk_alloc ?_ _)); exact BK284.out) hg (Kd.S_ne HO_285002.out BK284.out (by decide))); have n4_ := Aside0.mk ((by rw [hw]; exact below_set (HB.out) GB143.out : Below w.heap.size w w154)); clear HO_285000; clear HO_285002; clear HO_285003; clear BK284; clear HB; have HO_285000 := n0_; have HO_285002 := n1_; have HO_285003 := n2_; have BK284 := n3_; have HB := n4_; clear n0_ n1_ n2_ n3_ n4_; clear hg hw hp_; have hcz155_0 : w154.cell? ⟨gb284, 0, none⟩ = some (.slice Ao148 x285000_1.length co148) := (blk_cell BK284.out 0).trans rfl; have hcz155_1 : w154.cell? ⟨gb284, 1, none⟩ = some (.int .i64 1) := (blk_cell BK284.out 1).trans rfl; have hcz155_2 : w154.cell? ⟨gb284, 2, none⟩ = some (.slice (some ⟨go143, 0, none⟩) x285002_1.length co149) := (blk_cell BK284.out 2).trans rfl; have hcz155_3 : w154.cell? ⟨gb284, 3, none⟩ = some (.slice Ao150 x285003_1.length co150) := (blk_cell BK284.out 3).trans rfl; have hcz155_4 : w154.cell? ⟨gb284, 4, none⟩ = some (.int .i64 t283) := (blk_cell BK284.out 4).trans rfl; have hfz155_0 := blk_frozen BK284.out 0; have hfz155_1 := blk_frozen BK284.out 1; have hfz155_2 := blk_frozen BK284.out 2; have hfz155_3 := blk_frozen BK284.out 3; have hfz155_4 := blk_frozen BK284.out 4) | ((with_reducible refine gate_callee (f := 15) rfl ?_); refine goesL_ (some 78) rfl rfl Try.func15 (by kernel_rfl) rfl #[.agg #[.slice Ao148 x285000_1.length co148, .int .i64 1, .slice (some ⟨go143, 0, none⟩) y287.length co149, .slice Ao150 x285003_1.length co150, .int .i64 t283]] rfl (by (try simp only [List.map_toArray, List.map_cons, List.map_nil]); first | done | (rw [show y287.length = x285002_1.length from (Kd.S_reads' HO_285002.out).1.symm] <;> rfl) | rfl | (simp only [List.length_drop, List.length_take]; rfl)) ?_; (with_reducible refine (scc_Fair.calls k1 _ _ x285000_1 1 _ _ y287 _ _ x285003_1 t283 t288 t289 _ ?side1 ?side2 ?side3 ?side4 ?side5 ?side6 A144.out).mono ?_); (case side1 => repeat (first | exact (Kd.R_reads' HO_285000.out).2.2 | (with_reducible refine Kd.C_alloc ?_ _) | (with_reducible refine Kd.C_drewN ?_ _) | (with_reducible refine Kd.C_drew ?_))); (case side2 => exact (Kd.R_reads' HO_285000.out).2.1); (case side3 => repeat (first | exact (Kd.S_reads' HO_285002.out).2.2 | (with_reducible refine Kd.C_alloc ?_ _) | (with_reducible refine Kd.C_drewN ?_ _) | (with_reducible refine Kd.C_drew ?_))); (case side4 => rw [show y287.length = x285002_1.length from (Kd.S_reads' HO_285002.out).1.symm]; exact (Kd.S_reads' HO_285002.out).2.1); (case side5 => repeat (first | exact (Kd.R_reads' HO_285003.out).2.2 | (with_reducible refine Kd.C_alloc ?_ _) | (with_reducible refine Kd.C_drewN ?_ _) | (with_reducible refine Kd.C_drew ?_))); (case side6 => exact (Kd.R_reads' HO_285003.out).2.1); rintro e w156 ⟨rfl, hb⟩; refine ⟨_, rfl, ?_⟩; have n0_ := Aside0.mk (Kd.R_below (by (with_reducible repeat (first | apply Kd.R_alloc | apply Kd.R_drewN | apply Kd.R_drew)); exact HO_285000.out) hb); have n1_ := Aside0.mk (Kd.S_below (by (with_reducible repeat (first | apply Kd.S_alloc | apply Kd.S_drewN | apply Kd.S_drew)); exact HO_285002.out) hb); have n2_ := Aside0.mk (Kd.R_below (by (with_reducible repeat (first | apply Kd.R_alloc | apply Kd.R_drewN | apply Kd.R_drew)); exact HO_285003.out) hb); have n3_ := Aside0.mk (blk_below (g := gb284) (o := .cells #[.slice Ao148 x285000_1.length co148, .int .i64 1, .slice (some ⟨go143, 0, none⟩) x285002_1.length co149, .slice Ao150 x285003_1.length co150, .int .i64 t283] 28 (0, 0)) (by (with_reducible repeat (first | refine blk_drewN ?_ _ | refine blk_drew ?_ | refine blk_alloc ?_ _)); exact BK284.out) hb); have n4_ := Aside0.mk (below_step (by repeat (first | (with_reducible first | exact HB.out | apply below_alloc | apply pw_below_drewN | apply below_drew1 | refine below_set ?_ GE284.out) | exact HB.out)) hb); clear HO_285000; clear HO_285002; clear HO_285003; clear BK284; clear HB; have HO_285000 := n0_; have HO_285002 := n1_; have HO_285003 := n2_; have BK284 := n3_; have HB := n4_; clear n0_ n1_ n2_ n3_ n4_; (try clear hb); (try clear hb2); (try clear hk); (try clear hi)))
        go_ret
        exact ⟨by first | rfl | (simp [errW_none, errW_some] <;> rfl) | (simp only [← hji140]; first | rfl | (simp [errW_none, errW_some] <;> rfl)) | (simp [*, errW_none, errW_some] <;> rfl), by repeat (first | (with_reducible first | exact HB.out | apply below_alloc | apply pw_below_drewN | apply below_drew1 | refine below_set ?_ GE284.out) | exact HB.out)⟩
       ·
        rw [if_neg c146] at H
        exact absurd ((Option.some.inj H).trans hr_.out) (by decide)
      ·
       rw [if_neg c145] at H
       exact absurd ((Option.some.inj H).trans hr_.out) (by decide)
     ·
      rw [if_neg c142] at H
      exact absurd H (by simp)
    ·
     rw [if_neg c141] at H
     exact absurd H (by simp)

/-- THE ONE PURE STATEMENT of foretellkeep_FairRound: yours. -/
def foretellkeep_FairRound.Pure : Prop := ∀ (a0 : Int) (a1 : Int), (Lit.int .i64 a0).wf = true → (Lit.int .i64 a1).wf = true → ∃ k, foretellkeep_FairRound.f k a0 a1 = some true
theorem foretellkeep_FairRound.walk (P : foretellkeep_FairRound.Pure) (a0 : Int) (a1 : Int) (w : World) (w0 : (Lit.int .i64 a0).wf = true) (w1 : (Lit.int .i64 a1).wf = true) :
  Calls Try.prog 6 #[.int .i64 a0, .int .i64 a1] w fun e w' => e = .returned (.bool true) ∧ Below w.heap.size w w' := by
 obtain ⟨k, h⟩ := P a0 a1 w0 w1
 refine (foretellkeep_FairRound.calls k a0 a1 true w ⟨rfl⟩ h).mono ?_
 rintro e w' ⟨rfl, hd⟩
 exact ⟨rfl, hd⟩

end Go.Proofs.Ytpkigkmkolbiiaa.P
end
