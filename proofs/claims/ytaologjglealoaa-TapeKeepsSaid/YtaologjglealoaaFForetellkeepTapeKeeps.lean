-- a walk, laid out by a program of this repo over the seat's translation
import Derived.Test.YtaologjglealoaaF0
import Derived.Test.YtaologjglealoaaFForetellkeepPicked
import Derived.Test.YtaologjglealoaaFForetellkeepRecord
import Derived.Test.YtaologjglealoaaFTapeWrite
import Derived.Test.YtaologjglealoaaFForetellkeepTaped
import Derived.Test.YtaologjglealoaaFTapeRead
import Derived.Test.YtaologjglealoaaFForetellkeepSameInts
import Derived.Test.YtaologjglealoaaFForetellkeepSameLists
import Derived.Test.YtaologjglealoaaFTapeSync
import Derived.Test.YtaologjglealoaaFTapeCrash
import Derived.Test.YtaologjglealoaaFTapeRepair
namespace Go.Proofs.Ytaologjglealoaa.P
open Go.RowKit Go.Proofs.YtaologjglealoaaW.PrintWords Go.Proofs.YtaologjglealoaaW.PrintLast Go.Proofs.YtaologjglealoaaW.PrintMore Go.Proofs.Ytaologjglealoaa.G
attribute [local go_sem] max2_int min2_int max_two min_two max_three min_three max_four min_four   -- for this text's walks alone
set_option linter.unusedVariables false
set_option linter.unusedSimpArgs false

/-! ### foretellkeep_TapeKeeps: function 7 -/
mutual
def foretellkeep_TapeKeeps.l0 : Nat → List (List Int) → Int → List Int → List (List Int) → Bool → Int → List (List Int) → Int → List Int → Int → Option (Bool)
  | 0, _, _, _, _, _, _, _, _, _, _ => none
  | k + 1, x1, x2, x3, x10, x11, x12, x13, x14, x341000, x341001 => if x14 < (x1.length : Int) then (foretellkeep_TapeKeeps.j1 k x1 x2 x3 x10 x11 x12 x13 x14 (decide (x14 < 8)) x341000 x341001) else (foretellkeep_TapeKeeps.j1 k x1 x2 x3 x10 x11 x12 x13 x14 false x341000 x341001)
def foretellkeep_TapeKeeps.j1 : Nat → List (List Int) → Int → List Int → List (List Int) → Bool → Int → List (List Int) → Int → Bool → List Int → Int → Option (Bool)
  | 0, _, _, _, _, _, _, _, _, _, _, _ => none
  | k + 1, x1, x2, x3, x10, x11, x12, x13, x14, x47, x341000, x341001 => if x47 = true then (if 0 ≤ x14 then (if x14 < (x1.length : Int) then ((foretellkeep_record.f k (rd_L3 x1 x14)).bind fun t347 => ((tape_Write.f k x341000 x341001 t347).bind fun bt350 => (if bt350.2.2 = 0 then (if ([] : List (List Int)).length + x13.length < 5864062014805 then ((some (([] : List (List Int)) ++ x13 : List (List Int))).bind fun y356 => (if y356.length < 5864062014805 then (foretellkeep_TapeKeeps.l0 k x1 x2 x3 x10 x11 x12 (y356 ++ [t347]) (wrap64 (x14 + 1)) bt350.1 bt350.2.1) else (none))) else (none)) else (some false)))) else (none)) else (none)) else ((foretellkeep_picked.f x2 200).bind fun t362 => ((tape_Crash.f x341000 x341001 t362).bind fun bt363 => ((tape_Repair.f k bt363.1 bt363.2.1).bind fun bt368 => ((tape_Read.f k bt368.1 bt368.2.1).bind fun bt373 => (if x11 = true then (if x12 = 0 then (if bt363.2.2 = 0 then (if bt368.2.2 = 0 then (if bt373.2.2 = 0 then (if (bt373.1.length : Int) < (x10.length : Int) then (foretellkeep_TapeKeeps.j2 k x3 bt373.1 true bt368.1 bt368.2.1) else (if (bt373.1.length : Int) > (x13.length : Int) then (foretellkeep_TapeKeeps.j2 k x3 bt373.1 true bt368.1 bt368.2.1) else (if bt373.2.1 = (bt368.1.length : Int) then (if 0 ≤ (bt373.1.length : Int) then (if (bt373.1.length : Int) ≤ (x13.length : Int) then ((foretellkeep_sameLists.f k bt373.1 (x13.take ((bt373.1.length : Int) : Int).toNat)).bind fun t383 => (foretellkeep_TapeKeeps.j2 k x3 bt373.1 (!t383) bt368.1 bt368.2.1)) else (none)) else (none)) else (foretellkeep_TapeKeeps.j2 k x3 bt373.1 true bt368.1 bt368.2.1)))) else (foretellkeep_TapeKeeps.j2 k x3 bt373.1 true bt368.1 bt368.2.1)) else (foretellkeep_TapeKeeps.j2 k x3 bt373.1 true bt368.1 bt368.2.1)) else (foretellkeep_TapeKeeps.j2 k x3 bt373.1 true bt368.1 bt368.2.1)) else (foretellkeep_TapeKeeps.j2 k x3 bt373.1 true bt368.1 bt368.2.1)) else (foretellkeep_TapeKeeps.j2 k x3 bt373.1 true bt368.1 bt368.2.1))))))
def foretellkeep_TapeKeeps.j2 : Nat → List Int → List (List Int) → Bool → List Int → Int → Option (Bool)
  | 0, _, _, _, _, _ => none
  | k + 1, x3, x20, x134, x341000, x341001 => if x134 = true then (some false) else ((foretellkeep_record.f k x3).bind fun t384 => ((tape_Write.f k x341000 x341001 t384).bind fun bt387 => ((tape_Read.f k bt387.1 bt387.2.1).bind fun bt392 => (if bt387.2.2 = 0 then (if bt392.2.2 = 0 then (if (bt392.1.length : Int) = (wrap64 ((x20.length : Int) + 1)) then (if 0 ≤ (x20.length : Int) then (if (x20.length : Int) ≤ (bt392.1.length : Int) then ((foretellkeep_sameLists.f k (bt392.1.take ((x20.length : Int) : Int).toNat) x20).bind fun t402 => (if t402 = true then (if (x20.length : Int) < (bt392.1.length : Int) then ((foretellkeep_sameInts.f k (rd_L3 bt392.1 (x20.length : Int)) t384).bind fun t404 => (some t404)) else (none)) else (some false))) else (none)) else (none)) else (some false)) else (some false)) else (some false)))))
end
def foretellkeep_TapeKeeps.f (k : Nat) (l0 : List (List Int)) (l1 : List (List Int)) (a2 : Int) (l3 : List Int) : Option (Bool) := (foretellkeep_taped.f k l0).bind fun bt332 => ((tape_Sync.f bt332.1 bt332.2.1).bind fun bt341 => (foretellkeep_TapeKeeps.l0 k l1 a2 l3 bt332.2.2.1 bt332.2.2.2 bt341.2.2 bt332.2.2.1 0 bt341.1 bt341.2.1))
theorem foretellkeep_TapeKeeps.mono_l : ∀ k, (∀ y0 y1 y2 y3 y4 y5 y6 y7 y8 y9, LeO (foretellkeep_TapeKeeps.l0 k y0 y1 y2 y3 y4 y5 y6 y7 y8 y9) (foretellkeep_TapeKeeps.l0 (k + 1) y0 y1 y2 y3 y4 y5 y6 y7 y8 y9)) ∧ (∀ y0 y1 y2 y3 y4 y5 y6 y7 y8 y9 y10, LeO (foretellkeep_TapeKeeps.j1 k y0 y1 y2 y3 y4 y5 y6 y7 y8 y9 y10) (foretellkeep_TapeKeeps.j1 (k + 1) y0 y1 y2 y3 y4 y5 y6 y7 y8 y9 y10)) ∧ (∀ y0 y1 y2 y3 y4, LeO (foretellkeep_TapeKeeps.j2 k y0 y1 y2 y3 y4) (foretellkeep_TapeKeeps.j2 (k + 1) y0 y1 y2 y3 y4))
  | 0 => ⟨fun _ _ _ _ _ _ _ _ _ _ r h => by simp [foretellkeep_TapeKeeps.l0] at h, fun _ _ _ _ _ _ _ _ _ _ _ r h => by simp [foretellkeep_TapeKeeps.j1] at h, fun _ _ _ _ _ r h => by simp [foretellkeep_TapeKeeps.j2] at h⟩
  | k + 1 => by
    obtain ⟨ih0, ih1, ih2⟩ := foretellkeep_TapeKeeps.mono_l k
    refine ⟨?_, ?_, ?_⟩
    · intro y0 y1 y2 y3 y4 y5 y6 y7 y8 y9
      unfold foretellkeep_TapeKeeps.l0
      repeat' first
      | (with_reducible exact ih0 _ _ _ _ _ _ _ _ _ _)
      | (with_reducible exact ih1 _ _ _ _ _ _ _ _ _ _ _)
      | (with_reducible exact ih2 _ _ _ _ _)
      | (with_reducible exact foretellkeep_record.mono _ _)
      | (with_reducible exact foretellkeep_sameInts.mono _ _ _)
      | (with_reducible exact foretellkeep_sameLists.mono _ _ _)
      | (with_reducible exact foretellkeep_taped.mono _ _)
      | (with_reducible exact tape_Read.mono _ _ _)
      | (with_reducible exact tape_Repair.mono _ _ _)
      | (with_reducible exact tape_Write.mono _ _ _ _)
      | (with_reducible exact LeO.refl _)
      | (with_reducible exact LeO.none _)
      | (with_reducible refine LeO.ite ?_ ?_)
      | (with_reducible refine LeO.bind ?_ (fun _ => ?_))
      | exact ih0 _ _ _ _ _ _ _ _ _ _
      | exact ih1 _ _ _ _ _ _ _ _ _ _ _
      | exact ih2 _ _ _ _ _
      | exact foretellkeep_record.mono _ _
      | exact foretellkeep_sameInts.mono _ _ _
      | exact foretellkeep_sameLists.mono _ _ _
      | exact foretellkeep_taped.mono _ _
      | exact tape_Read.mono _ _ _
      | exact tape_Repair.mono _ _ _
      | exact tape_Write.mono _ _ _ _
      | exact LeO.none _
      | refine LeO.ite ?_ ?_
      | refine LeO.bind ?_ (fun _ => ?_)
    · intro y0 y1 y2 y3 y4 y5 y6 y7 y8 y9 y10
      unfold foretellkeep_TapeKeeps.j1
      repeat' first
      | (with_reducible exact ih0 _ _ _ _ _ _ _ _ _ _)
      | (with_reducible exact ih1 _ _ _ _ _ _ _ _ _ _ _)
      | (with_reducible exact ih2 _ _ _ _ _)
      | (with_reducible exact foretellkeep_record.mono _ _)
      | (with_reducible exact foretellkeep_sameInts.mono _ _ _)
      | (with_reducible exact foretellkeep_sameLists.mono _ _ _)
      | (with_reducible exact foretellkeep_taped.mono _ _)
      | (with_reducible exact tape_Read.mono _ _ _)
      | (with_reducible exact tape_Repair.mono _ _ _)
      | (with_reducible exact tape_Write.mono _ _ _ _)
      | (with_reducible exact LeO.refl _)
      | (with_reducible exact LeO.none _)
      | (with_reducible refine LeO.ite ?_ ?_)
      | (with_reducible refine LeO.bind ?_ (fun _ => ?_))
      | exact ih0 _ _ _ _ _ _ _ _ _ _
      | exact ih1 _ _ _ _ _ _ _ _ _ _ _
      | exact ih2 _ _ _ _ _
      | exact foretellkeep_record.mono _ _
      | exact foretellkeep_sameInts.mono _ _ _
      | exact foretellkeep_sameLists.mono _ _ _
      | exact foretellkeep_taped.mono _ _
      | exact tape_Read.mono _ _ _
      | exact tape_Repair.mono _ _ _
      | exact tape_Write.mono _ _ _ _
      | exact LeO.none _
      | refine LeO.ite ?_ ?_
      | refine LeO.bind ?_ (fun _ => ?_)
    · intro y0 y1 y2 y3 y4
      unfold foretellkeep_TapeKeeps.j2
      repeat' first
      | (with_reducible exact ih0 _ _ _ _ _ _ _ _ _ _)
      | (with_reducible exact ih1 _ _ _ _ _ _ _ _ _ _ _)
      | (with_reducible exact ih2 _ _ _ _ _)
      | (with_reducible exact foretellkeep_record.mono _ _)
      | (with_reducible exact foretellkeep_sameInts.mono _ _ _)
      | (with_reducible exact foretellkeep_sameLists.mono _ _ _)
      | (with_reducible exact foretellkeep_taped.mono _ _)
      | (with_reducible exact tape_Read.mono _ _ _)
      | (with_reducible exact tape_Repair.mono _ _ _)
      | (with_reducible exact tape_Write.mono _ _ _ _)
      | (with_reducible exact LeO.refl _)
      | (with_reducible exact LeO.none _)
      | (with_reducible refine LeO.ite ?_ ?_)
      | (with_reducible refine LeO.bind ?_ (fun _ => ?_))
      | exact ih0 _ _ _ _ _ _ _ _ _ _
      | exact ih1 _ _ _ _ _ _ _ _ _ _ _
      | exact ih2 _ _ _ _ _
      | exact foretellkeep_record.mono _ _
      | exact foretellkeep_sameInts.mono _ _ _
      | exact foretellkeep_sameLists.mono _ _ _
      | exact foretellkeep_taped.mono _ _
      | exact tape_Read.mono _ _ _
      | exact tape_Repair.mono _ _ _
      | exact tape_Write.mono _ _ _ _
      | exact LeO.none _
      | refine LeO.ite ?_ ?_
      | refine LeO.bind ?_ (fun _ => ?_)
theorem foretellkeep_TapeKeeps.mono : ∀ a0 a1 a2 a3 k, LeO (foretellkeep_TapeKeeps.f k a0 a1 a2 a3) (foretellkeep_TapeKeeps.f (k + 1) a0 a1 a2 a3) := by
  intro a0 a1 a2 a3 k
  obtain ⟨ih0, ih1, ih2⟩ := foretellkeep_TapeKeeps.mono_l k
  unfold foretellkeep_TapeKeeps.f
  repeat' first
      | (with_reducible exact ih0 _ _ _ _ _ _ _ _ _ _)
      | (with_reducible exact ih1 _ _ _ _ _ _ _ _ _ _ _)
      | (with_reducible exact ih2 _ _ _ _ _)
      | (with_reducible exact foretellkeep_record.mono _ _)
      | (with_reducible exact foretellkeep_sameInts.mono _ _ _)
      | (with_reducible exact foretellkeep_sameLists.mono _ _ _)
      | (with_reducible exact foretellkeep_taped.mono _ _)
      | (with_reducible exact tape_Read.mono _ _ _)
      | (with_reducible exact tape_Repair.mono _ _ _)
      | (with_reducible exact tape_Write.mono _ _ _ _)
      | (with_reducible exact LeO.refl _)
      | (with_reducible exact LeO.none _)
      | (with_reducible refine LeO.ite ?_ ?_)
      | (with_reducible refine LeO.bind ?_ (fun _ => ?_))
      | exact ih0 _ _ _ _ _ _ _ _ _ _
      | exact ih1 _ _ _ _ _ _ _ _ _ _ _
      | exact ih2 _ _ _ _ _
      | exact foretellkeep_record.mono _ _
      | exact foretellkeep_sameInts.mono _ _ _
      | exact foretellkeep_sameLists.mono _ _ _
      | exact foretellkeep_taped.mono _ _
      | exact tape_Read.mono _ _ _
      | exact tape_Repair.mono _ _ _
      | exact tape_Write.mono _ _ _ _
      | exact LeO.none _
      | refine LeO.ite ?_ ?_
      | refine LeO.bind ?_ (fun _ => ?_)
def foretellkeep_TapeKeeps.T13 : Bool × List (List Nat × List Nat) := (true, [([], []), ([], []), ([1], [1]), ([0, 2, 2], [0, 2]), ([3], [3]), ([4], [4]), ([4], [4]), ([5, 3, 0, 1, 2, 3, 4, 5], [5]), ([6, 7, 0, 1, 2, 3, 4, 5, 6, 7], [6])])
def foretellkeep_TapeKeeps.B13 : List Nat := [0, 0, 2, 7, 15, 31, 31, 63, 255]
theorem foretellkeep_TapeKeeps.tab13 : rtab .any (opsOf Try.f7 13) = foretellkeep_TapeKeeps.T13 := by kernel_rfl
theorem foretellkeep_TapeKeeps.bits13 : waitsOk foretellkeep_TapeKeeps.T13.2 foretellkeep_TapeKeeps.B13 = true := by kernel_rfl
set_option maxHeartbeats 8000000 in
set_option maxRecDepth 100000 in
theorem foretellkeep_TapeKeeps.calls (k : Nat) (A0 : Option Addr) (c0 : Nat) (l0 : List (List Int)) (A1 : Option Addr) (c1 : Nat) (l1 : List (List Int)) (a2 : Int) (A3 : Option Addr) (c3 : Nat) (l3 : List Int) (r : Bool) (w : World) (hr0 : Kd.C (Kd.slice 3 (Kd.int .i64)) w A0 l0.length l0) (hc0 : l0.length ≤ c0) (hr1 : Kd.C (Kd.slice 3 (Kd.int .i64)) w A1 l1.length l1) (hc1 : l1.length ≤ c1) (hr3 : Kd.C (Kd.int .i64) w A3 l3.length l3) (hc3 : l3.length ≤ c3) (hr_ : Aside0 (r = true)) (h : foretellkeep_TapeKeeps.f k l0 l1 a2 l3 = some r) :
    Calls Try.prog 7 #[.slice A0 l0.length c0, .slice A1 l1.length c1, .int .i64 a2, .slice A3 l3.length c3] w fun e w' => e = .returned (.bool r) ∧ Below w.heap.size w w' := by
  have hu30 := Try.underlying30
  have HR0 := Aside0.mk hr0
  have HC0 := Aside0.mk hc0
  clear hr0 hc0
  have HR1 := Aside0.mk hr1
  have HC1 := Aside0.mk hc1
  clear hr1 hc1
  have HR3 := Aside0.mk hr3
  have HC3 := Aside0.mk hc3
  clear hr3 hc3
  have HB := Aside0.mk (Below.refl w.heap.size w)
  have H : ((foretellkeep_taped.f k l0).bind fun bt332 => ((tape_Sync.f bt332.1 bt332.2.1).bind fun bt341 => (foretellkeep_TapeKeeps.l0 k l1 a2 l3 bt332.2.2.1 bt332.2.2.2 bt341.2.2 bt332.2.2.1 0 bt341.1 bt341.2.1))) = some r := h
  clear h
  replace H := Option.bind_eq_some_iff.mp H
  obtain ⟨⟨t332, t335, t336, t339⟩, A50, H⟩ := H
  replace H : ((tape_Sync.f t332 t335).bind fun bt341 => (foretellkeep_TapeKeeps.l0 k l1 a2 l3 t336 t339 bt341.2.2 t336 0 bt341.1 bt341.2.1)) = some r := H
  have A5 := Aside0.mk A50
  clear A50
  replace H := Option.bind_eq_some_iff.mp H
  obtain ⟨⟨t341, t344, t345⟩, A60, H⟩ := H
  replace H : (foretellkeep_TapeKeeps.l0 k l1 a2 l3 t336 t339 t345 t336 0 t341 t344) = some r := H
  have A6 := Aside0.mk A60
  clear A60
  have H' := Aside0.mk H
  clear H
  go_enter Try.func7, Try.ntmps7
  go_wp2_with (first | ((with_reducible refine gate_callee (f := 14) rfl ?_); refine goesL_ (some 30) rfl rfl Try.func14 (by kernel_rfl) rfl #[.slice A0 l0.length c0] rfl (by (try simp only [List.map_toArray, List.map_cons, List.map_nil]); first | done | rfl | (simp only [List.length_drop, List.length_take]; rfl)) ?_; (with_reducible refine (foretellkeep_taped.calls k _ _ l0 t332 t335 t336 t339 _ ?side1 ?side2 A5.out).mono ?_); (case side1 => repeat (first | exact HR0.out | (with_reducible refine Kd.C_alloc ?_ _) | (with_reducible refine Kd.C_drewN ?_ _) | (with_reducible refine Kd.C_drew ?_))); (case side2 => exact HC0.out); rintro e w7 ⟨v333, v337, rfl, ho0, ho1, hb⟩; refine ⟨_, rfl, ?_⟩; have n0_ := Aside0.mk (Kd.R_lower ho0 (below_size (by repeat (first | (with_reducible first | exact HB.out | apply below_alloc | apply pw_below_drewN | apply below_drew1) | exact HB.out)))); have n1_ := Aside0.mk (Kd.N_lower (Kd.N_mono (ok' := fun k_ => some k_ ≠ (v333 : Value).ownBlock) (Kd.S_N (Kd.S_bound (Kd.S_apart' ho1 (Kd.R_typed ho0) (by decide)))) (fun k_ hk_ => hk_.1.2)) (below_size (by repeat (first | (with_reducible first | exact HB.out | apply below_alloc | apply pw_below_drewN | apply below_drew1) | exact HB.out)))); have n2_ := Aside0.mk (below_step (by repeat (first | (with_reducible first | exact HB.out | apply below_alloc | apply pw_below_drewN | apply below_drew1) | exact HB.out)) hb); clear HB; have HO334 := n0_; have HO338 := n1_; have HB := n2_; clear n0_ n1_ n2_; (try clear hb); (try clear hb2); (try clear hk); (try clear hi); (try clear ho0); (try clear ho1)) | ((with_reducible refine gate_dst (N := 9) rfl ?_); (try (refine gate_guard (by rfl) ?_; dsimp only)); refine box_event ?hg (N := 9) ?hd (cs := #[.slice none 0 0, .int .i64 0]) (t := 30) ?hr ?_; (case hd => rfl); (case hg => rfl); (case hr => first | (go_simp; done) | (go_simp; rfl)); intro gb340 hg w8 hbox hb; have n0_ := Aside0.mk (Kd.R_below (by (with_reducible repeat (first | apply Kd.R_alloc | apply Kd.R_drewN | apply Kd.R_drew)); exact HO334.out) hb); have n1_ := Aside0.mk (Kd.N_below (Kd.N_elderB (by (with_reducible repeat (first | apply Kd.N_alloc | apply Kd.N_drewN | apply Kd.N_drew)); exact HO338.out) gb340 (Nat.le_of_eq hg.symm)) hb); have n2_ := Aside0.mk (below_step (by repeat (first | (with_reducible first | exact HB.out | apply below_alloc | apply pw_below_drewN | apply below_drew1) | exact HB.out)) hb); have n3_ := Aside0.mk (hbox); have n4_ := Aside0.mk ((by rw [hg]; exact (below_size (by repeat (first | (with_reducible first | exact HB.out | apply below_alloc | apply pw_below_drewN | apply below_drew1) | exact HB.out))) : w.heap.size ≤ gb340)); have n5_ := Aside0.mk ((by rw [hg]; exact (below_size (by repeat (first | (with_reducible first | exact HB.out | apply below_alloc | apply pw_below_drewN | apply below_drew1) | exact HB.out))) : w.heap.size ≤ gb340)); clear HO334; clear HO338; clear HB; have HO334 := n0_; have HO338 := n1_; have HB := n2_; have BK340 := n3_; have GW340 := n4_; have GE340 := n5_; clear n0_ n1_ n2_ n3_ n4_ n5_; clear hb hbox hg; obtain ⟨Ao9, co9, eo9⟩ := Kd.R_slice HO334.out; subst eo9; have hcz10_0 : w8.cell? ⟨gb340, 0, none⟩ = some (.slice none 0 0) := (blk_cell BK340.out 0).trans rfl; have hcz10_1 : w8.cell? ⟨gb340, 1, none⟩ = some (.int .i64 0) := (blk_cell BK340.out 1).trans rfl; have hfz10_0 := blk_frozen BK340.out 0; have hfz10_1 := blk_frozen BK340.out 1) | ((with_reducible refine gate_callee (f := 17) rfl ?_); refine goesL_ (some 36) rfl rfl Try.func17 (by kernel_rfl) rfl #[.agg #[.slice Ao9 t332.length co9, .int .i64 t335]] rfl (by (try simp only [List.map_toArray, List.map_cons, List.map_nil]); first | done | rfl | (simp only [List.length_drop, List.length_take]; rfl)) ?_; (with_reducible refine (tape_Sync.calls _ _ t332 t335 t341 t344 t345 _ ?side1 ?side2 A6.out).mono ?_); (case side1 => refine (Kd.R_reads' (e := 5) (base := w.heap.size) (ok := fun k_ => True) (n := t332.length) (c := co9) ?_).2.2; exact (by (with_reducible repeat (first | apply Kd.R_alloc | apply Kd.R_drewN | apply Kd.R_drew)); exact (Kd.R_mono (Kd.R_far (p := ⟨gb340, 1, none⟩) (Kd.R_far (p := ⟨gb340, 0, none⟩) (Kd.R_types HO334.out BK340.out (by decide)) (fun _ hk => hk.2) (.slice Ao9 t332.length co9)) (fun _ hk => hk.2) (.int .i64 t335)) (fun _ h_ => h_.1)))); (case side2 => exact (Kd.R_reads' HO334.out).2.1); rintro e w11 ⟨v342, rfl, ho0, hb⟩; refine ⟨_, rfl, ?_⟩; have n0_ := Aside0.mk (Kd.R_elder' (by (with_reducible repeat (first | apply Kd.R_alloc | apply Kd.R_drewN | apply Kd.R_drew)); exact (Kd.R_mono (Kd.R_far (p := ⟨gb340, 1, none⟩) (Kd.R_far (p := ⟨gb340, 0, none⟩) (Kd.R_types HO334.out BK340.out (by decide)) (fun _ hk => hk.2) (.slice Ao9 t332.length co9)) (fun _ hk => hk.2) (.int .i64 t335)) (fun _ h_ => h_.1))) (Kd.R_base ho0) hb); have n1_ := Aside0.mk (Kd.N_elder' (by (with_reducible repeat (first | apply Kd.N_alloc | apply Kd.N_drewN | apply Kd.N_drew)); exact (Kd.N_mono (Kd.N_far (p := ⟨gb340, 1, none⟩) (Kd.N_far (p := ⟨gb340, 0, none⟩) (Kd.N_mono HO338.out (fun k_ hk => (⟨hk, hk.2⟩ : _ ∧ k_ ≠ gb340))) (fun _ hk => hk.2) (.slice Ao9 t332.length co9)) (fun _ hk => hk.2) (.int .i64 t335)) (fun _ h_ => h_.1))) (Kd.R_base ho0) hb); have n2_ := Aside0.mk (Kd.R_lower (Kd.R_new' ho0 (Kd.R_lt (by (with_reducible repeat (first | apply Kd.R_alloc | apply Kd.R_drewN | apply Kd.R_drew)); exact (Kd.R_mono (Kd.R_far (p := ⟨gb340, 1, none⟩) (Kd.R_far (p := ⟨gb340, 0, none⟩) (Kd.R_types HO334.out BK340.out (by decide)) (fun _ hk => hk.2) (.slice Ao9 t332.length co9)) (fun _ hk => hk.2) (.int .i64 t335)) (fun _ h_ => h_.1))))) (below_size (by repeat (first | (with_reducible first | exact HB.out | apply below_alloc | apply pw_below_drewN | apply below_drew1 | refine below_set ?_ GE340.out) | exact HB.out)))); have n3_ := Aside0.mk (blk_below (g := gb340) (o := .cells #[.slice Ao9 t332.length co9, .int .i64 t335] 30 (0, 0)) (by (with_reducible repeat (first | refine blk_drewN ?_ _ | refine blk_drew ?_ | refine blk_alloc ?_ _)); refine blk_put (cs := #[.slice Ao9 t332.length co9, .int .i64 0]) ?_ 1 _ rfl; (with_reducible repeat (first | refine blk_drewN ?_ _ | refine blk_drew ?_ | refine blk_alloc ?_ _)); refine blk_put (cs := #[.slice none 0 0, .int .i64 0]) ?_ 0 _ rfl; (with_reducible repeat (first | refine blk_drewN ?_ _ | refine blk_drew ?_ | refine blk_alloc ?_ _)); exact BK340.out) hb); have n4_ := Aside0.mk (below_step (by repeat (first | (with_reducible first | exact HB.out | apply below_alloc | apply pw_below_drewN | apply below_drew1 | refine below_set ?_ GE340.out) | exact HB.out)) hb); clear HO334; clear HO338; clear BK340; clear HB; have HO334 := n0_; have HO338 := n1_; have HO343 := n2_; have BK340 := n3_; have HB := n4_; clear n0_ n1_ n2_ n3_ n4_; (try clear hb); (try clear hb2); (try clear hk); (try clear hi); (try clear ho0); obtain ⟨Ao12, co12, eo12⟩ := Kd.R_slice HO343.out; subst eo12; have hcz13_0 : w11.cell? ⟨gb340, 0, none⟩ = some (.slice Ao9 t332.length co9) := (blk_cell BK340.out 0).trans rfl; have hcz13_1 : w11.cell? ⟨gb340, 1, none⟩ = some (.int .i64 t335) := (blk_cell BK340.out 1).trans rfl; have hfz13_0 := blk_frozen BK340.out 0; have hfz13_1 := blk_frozen BK340.out 1))
  go_loopg [13, 14] k (fun kq v13 v14 w' => ∃ (x13_1 : List (List Int)) (x14_1 : Int) (x341000_1 : List Int) (x341001_1 : Int) (u341000 : Value), v14 = .int .i64 x14_1 ∧ Aside0 (foretellkeep_TapeKeeps.l0 kq l1 a2 l3 t336 t339 t345 x13_1 x14_1 x341000_1 x341001_1 = some r) ∧ Aside0 (kq ≤ k) ∧ Aside0 (Kd.N (Kd.slice 3 (Kd.int .i64)) 27 w' w.heap.size (fun k_ => some k_ ≠ (u341000 : Value).ownBlock ∧ k_ ≠ gb340) v337 t336) ∧ Aside0 (Kd.N (Kd.slice 3 (Kd.int .i64)) 27 w' w.heap.size (fun k_ => some k_ ≠ (u341000 : Value).ownBlock ∧ k_ ≠ gb340) v13 x13_1) ∧ Aside0 (Kd.R (Kd.int .u8) 5 w' w.heap.size (fun _ => True) u341000 x341000_1) ∧ Aside0 (w'.heap[gb340]? = some (.cells #[u341000, .int .i64 x341001_1] 30 (0, 0))) ∧ Aside0 (Below w.heap.size w w'))
  case atStart => exact ⟨(t336), (0), (t341), (t344), (.slice Ao12 t341.length co12), (by first | rfl | (simp; done) | (simp [*]; done)), H', ⟨Nat.le_refl _⟩, ⟨by (with_reducible repeat (first | apply Kd.N_alloc | apply Kd.N_drewN | apply Kd.N_drew)); exact Kd.N_mono (Kd.N_far (p := ⟨gb340, 1, none⟩) (Kd.N_far (p := ⟨gb340, 0, none⟩) (Kd.N_mono HO338.out (fun k_ hk => (⟨hk, hk.1.2⟩ : _ ∧ k_ ≠ gb340))) (fun _ hk => hk.2) (.slice Ao12 t341.length co12)) (fun _ hk => hk.2) (.int .i64 t344)) (fun _ hk => ⟨hk.1.2, hk.1.1.2⟩)⟩, ⟨by (with_reducible repeat (first | apply Kd.N_alloc | apply Kd.N_drewN | apply Kd.N_drew)); exact Kd.N_mono (Kd.N_far (p := ⟨gb340, 1, none⟩) (Kd.N_far (p := ⟨gb340, 0, none⟩) (Kd.N_mono HO338.out (fun k_ hk => (⟨hk, hk.1.2⟩ : _ ∧ k_ ≠ gb340))) (fun _ hk => hk.2) (.slice Ao12 t341.length co12)) (fun _ hk => hk.2) (.int .i64 t344)) (fun _ hk => ⟨hk.1.2, hk.1.1.2⟩)⟩, ⟨by (with_reducible repeat (first | apply Kd.R_alloc | apply Kd.R_drewN | apply Kd.R_drew)); exact Kd.R_mono (Kd.R_far (p := ⟨gb340, 1, none⟩) (Kd.R_far (p := ⟨gb340, 0, none⟩) (Kd.R_types HO343.out BK340.out (by decide)) (fun _ hk => hk.2) (.slice Ao12 t341.length co12)) (fun _ hk => hk.2) (.int .i64 t344)) (fun _ hk => trivial)⟩, ⟨by (with_reducible repeat (first | refine blk_drewN ?_ _ | refine blk_drew ?_ | refine blk_alloc ?_ _)); refine blk_put (cs := #[.slice Ao12 t341.length co12, .int .i64 t335]) ?_ 1 _ rfl; (with_reducible repeat (first | refine blk_drewN ?_ _ | refine blk_drew ?_ | refine blk_alloc ?_ _)); refine blk_put (cs := #[.slice Ao9 t332.length co9, .int .i64 t335]) ?_ 0 _ rfl; (with_reducible repeat (first | refine blk_drewN ?_ _ | refine blk_drew ?_ | refine blk_alloc ?_ _)); exact BK340.out⟩, ⟨by repeat (first | (with_reducible first | exact HB.out | apply below_alloc | apply pw_below_drewN | apply below_drew1 | refine below_set ?_ GE340.out) | exact HB.out)⟩⟩
  case round =>
    clear H'
    try clear c1
    try clear p2
    try clear c3
    try clear c7
    try clear hcz10_0
    try clear hcz10_1
    try clear hcz13_0
    try clear hcz13_1
    try clear hfz10_0
    try clear hfz10_1
    try clear hfz13_0
    try clear hfz13_1
    obtain ⟨x13_1, x14_1, x341000_1, x341001_1, u341000, rfl, HA, HK1, HO_10, HO_13, HO_341000, BK340, HB⟩ := hrel
    cases gk with
    | zero => exact absurd HA.out (by simp [foretellkeep_TapeKeeps.l0])
    | succ k1 =>
      have H := HA.out
      clear HA
      simp only [foretellkeep_TapeKeeps.l0] at H
      have HC14 := Aside0.mk H
      clear H
      go_upto_region 5 with (fail)
      go_cut [47] (fun v47 wc => ∃ (kq : Nat) (x47_13 : Bool), v47 = .bool x47_13 ∧ Aside0 (foretellkeep_TapeKeeps.j1 kq l1 a2 l3 t336 t339 t345 x13_1 x14_1 x47_13 x341000_1 x341001_1 = some r) ∧ Aside0 (kq ≤ k1) ∧ Aside0 (Kd.N (Kd.slice 3 (Kd.int .i64)) 27 wc w.heap.size (fun k_ => some k_ ≠ (u341000 : Value).ownBlock ∧ k_ ≠ gb340) v337 t336) ∧ Aside0 (Kd.N (Kd.slice 3 (Kd.int .i64)) 27 wc w.heap.size (fun k_ => some k_ ≠ (u341000 : Value).ownBlock ∧ k_ ≠ gb340) u13 x13_1) ∧ Aside0 (Kd.R (Kd.int .u8) 5 wc w.heap.size (fun _ => True) u341000 x341000_1) ∧ Aside0 (wc.heap[gb340]? = some (.cells #[u341000, .int .i64 x341001_1] 30 (0, 0))) ∧ Aside0 (Below w.heap.size w wc))
      case first =>
        have H := HC14.out
        clear HC14
        by_cases c15 : x14_1 < (l1.length : Int)
        · rw [if_pos c15] at H
          have c15b0 : decide (x14_1 < (l1.length : Int)) = true := decide_eq_true c15
          clear c15
          (first | rw [c15b0] | (simp only [i64_w, i32_w]; rw [c15b0]) | skip)
          have H' := Aside0.mk H
          clear H
          go_wp2
          go_meet
          case rel => exact ⟨_, (decide (x14_1 < 8)), (by first | rfl | (simp; done) | (simp [*]; done)), H', ⟨by have := HK1.out; first | omega | exact Nat.le_refl _⟩, ⟨by (with_reducible repeat (first | apply Kd.N_alloc | apply Kd.N_drewN | apply Kd.N_drew)); exact HO_10.out⟩, ⟨by (with_reducible repeat (first | apply Kd.N_alloc | apply Kd.N_drewN | apply Kd.N_drew)); exact HO_13.out⟩, ⟨by (with_reducible repeat (first | apply Kd.R_alloc | apply Kd.R_drewN | apply Kd.R_drew)); exact HO_341000.out⟩, ⟨by (with_reducible repeat (first | refine blk_drewN ?_ _ | refine blk_drew ?_ | refine blk_alloc ?_ _)); exact BK340.out⟩, ⟨by repeat (first | (with_reducible first | exact HB.out | apply below_alloc | apply pw_below_drewN | apply below_drew1 | refine below_set ?_ GE340.out) | exact HB.out)⟩⟩
        · rw [if_neg c15] at H
          have c15b0 : decide (x14_1 < (l1.length : Int)) = false := decide_eq_false c15
          clear c15
          (first | rw [c15b0] | (simp only [i64_w, i32_w]; rw [c15b0]) | skip)
          have H' := Aside0.mk H
          clear H
          go_wp2
          go_meet
          case rel => exact ⟨_, (false), (by first | rfl | (simp; done) | (simp [*]; done)), H', ⟨by have := HK1.out; first | omega | exact Nat.le_refl _⟩, ⟨by (with_reducible repeat (first | apply Kd.N_alloc | apply Kd.N_drewN | apply Kd.N_drew)); exact HO_10.out⟩, ⟨by (with_reducible repeat (first | apply Kd.N_alloc | apply Kd.N_drewN | apply Kd.N_drew)); exact HO_13.out⟩, ⟨by (with_reducible repeat (first | apply Kd.R_alloc | apply Kd.R_drewN | apply Kd.R_drew)); exact HO_341000.out⟩, ⟨by (with_reducible repeat (first | refine blk_drewN ?_ _ | refine blk_drew ?_ | refine blk_alloc ?_ _)); exact BK340.out⟩, ⟨by repeat (first | (with_reducible first | exact HB.out | apply below_alloc | apply pw_below_drewN | apply below_drew1 | refine below_set ?_ GE340.out) | exact HB.out)⟩⟩
      case rest =>
        clear HC14
        try clear c1
        try clear p2
        try clear c3
        try clear c7
        try clear c14
        try clear c15
        try clear c15b0
        try clear hcz10_0
        try clear hcz10_1
        try clear hcz13_0
        try clear hcz13_1
        try clear hfz10_0
        try clear hfz10_1
        try clear hfz13_0
        try clear hfz13_1
        try clear p2
        obtain ⟨kq, x47_13, rfl, HA, HJ13, HO_10, HO_13, HO_341000, BK340, HB⟩ := hcut
        cases kq with
        | zero => exact absurd HA.out (by simp [foretellkeep_TapeKeeps.j1])
        | succ kj13 =>
          have H := HA.out
          clear HA
          simp only [foretellkeep_TapeKeeps.j1] at H
          by_cases c16 : x47_13 = true
          · subst c16
            have H1 : (if 0 ≤ x14_1 then (if x14_1 < (l1.length : Int) then ((foretellkeep_record.f kj13 (rd_L3 l1 x14_1)).bind fun t347 => ((tape_Write.f kj13 x341000_1 x341001_1 t347).bind fun bt350 => (if bt350.2.2 = 0 then (if ([] : List (List Int)).length + x13_1.length < 5864062014805 then ((some (([] : List (List Int)) ++ x13_1 : List (List Int))).bind fun y356 => (if y356.length < 5864062014805 then (foretellkeep_TapeKeeps.l0 kj13 l1 a2 l3 t336 t339 t345 (y356 ++ [t347]) (wrap64 (x14_1 + 1)) bt350.1 bt350.2.1) else (none))) else (none)) else (some false)))) else (none)) else (none)) = some r := by rw [if_pos rfl] at H; exact H
            clear H
            have H := H1
            clear H1
            by_cases c17 : 0 ≤ x14_1
            · rw [if_pos c17] at H
              have c17b0 : decide (0 ≤ x14_1) = true := decide_eq_true c17
              clear c17
              by_cases c18 : x14_1 < (l1.length : Int)
              · rw [if_pos c18] at H
                have c18b0 : decide (x14_1 < (l1.length : Int)) = true := decide_eq_true c18
                clear c18
                replace H := Option.bind_eq_some_iff.mp H
                obtain ⟨t347, A190, H⟩ := H
                replace H : ((tape_Write.f kj13 x341000_1 x341001_1 t347).bind fun bt350 => (if bt350.2.2 = 0 then (if ([] : List (List Int)).length + x13_1.length < 5864062014805 then ((some (([] : List (List Int)) ++ x13_1 : List (List Int))).bind fun y356 => (if y356.length < 5864062014805 then (foretellkeep_TapeKeeps.l0 kj13 l1 a2 l3 t336 t339 t345 (y356 ++ [t347]) (wrap64 (x14_1 + 1)) bt350.1 bt350.2.1) else (none))) else (none)) else (some false))) = some r := H
                have A19 := Aside0.mk A190
                clear A190
                replace H := Option.bind_eq_some_iff.mp H
                obtain ⟨⟨t350, t353, t354⟩, A200, H⟩ := H
                replace H : (if t354 = 0 then (if ([] : List (List Int)).length + x13_1.length < 5864062014805 then ((some (([] : List (List Int)) ++ x13_1 : List (List Int))).bind fun y356 => (if y356.length < 5864062014805 then (foretellkeep_TapeKeeps.l0 kj13 l1 a2 l3 t336 t339 t345 (y356 ++ [t347]) (wrap64 (x14_1 + 1)) t350 t353) else (none))) else (none)) else (some false)) = some r := H
                have A20 := Aside0.mk A200
                clear A200
                by_cases c21 : t354 = 0
                · rw [if_pos c21] at H
                  have c21b0 : (t354 == 0) = true := beq_iff_eq.mpr c21
                  have c21b1 : (t354 != 0) = false := bne_eq_false_iff_eq.mpr c21
                  clear c21
                  by_cases c22 : ([] : List (List Int)).length + x13_1.length < 5864062014805
                  · rw [if_pos c22] at H
                    have LMc22 := Aside0.mk c22
                    clear c22
                    obtain ⟨y356, hy356⟩ : ∃ y_ : List (List Int), y_ = (([] : List (List Int)) ++ x13_1) := ⟨_, rfl⟩
                    replace H : (if y356.length < 5864062014805 then (foretellkeep_TapeKeeps.l0 kj13 l1 a2 l3 t336 t339 t345 (y356 ++ [t347]) (wrap64 (x14_1 + 1)) t350 t353) else (none)) = some r := by first | (rw [hy356]; with_reducible exact H) | (have H2_ := (Option.bind_some _ _).symm.trans H; rw [hy356]; with_reducible exact H2_) | (have H2_ := (Option.bind_some _ _).symm.trans H; with_reducible exact H2_) | with_reducible exact H | (rw [hy356]; exact H) | exact H
                    have Ny356 := Aside0.mk hy356
                    clear hy356
                    by_cases c23 : y356.length < 5864062014805
                    · rw [if_pos c23] at H
                      have LMc23 := Aside0.mk c23
                      clear c23
                      obtain ⟨y359, hy359⟩ : ∃ y_ : List (List Int), y_ = (y356 ++ [t347]) := ⟨_, rfl⟩
                      replace H : (foretellkeep_TapeKeeps.l0 kj13 l1 a2 l3 t336 t339 t345 y359 (wrap64 (x14_1 + 1)) t350 t353) = some r := by first | (rw [hy359]; with_reducible exact H) | (have H2_ := (Option.bind_some _ _).symm.trans H; rw [hy359]; with_reducible exact H2_) | (have H2_ := (Option.bind_some _ _).symm.trans H; with_reducible exact H2_) | with_reducible exact H | (rw [hy359]; exact H) | exact H
                      have Ny359 := Aside0.mk hy359
                      clear hy359
                      have H' := Aside0.mk H
                      clear H
                      have p346 : 0 ≤ (x14_1 : Int) := of_decide_eq_true (by first | (with_reducible assumption) | assumption)
                      have q346 : x14_1 < (l1.length : Int) := of_decide_eq_true (by first | (with_reducible assumption) | assumption)
                      obtain ⟨ad346, A346_0, c346_0, e346, hx346_0, hl346_0, hi346_0⟩ := at_L3 HR1.out x14_1 p346 q346
                      cases e346
                      replace hx346_0 := (HB.out.cell (World.block_lt_of_cell? w _ hx346_0)).trans hx346_0
                      have HR346_0 := Aside0.mk hi346_0
                      have HC346_0 := Aside0.mk hl346_0
                      clear hi346_0 hl346_0
                      replace p346 := eq_true p346
                      replace q346 := eq_true q346
                      go_wp2_with (first | ((with_reducible refine gate_callee (f := 12) rfl ?_); refine goesL_ (some 54) rfl rfl Try.func12 (by kernel_rfl) rfl #[.slice A346_0 (rd_L3 l1 x14_1).length c346_0] rfl (by (try simp only [List.map_toArray, List.map_cons, List.map_nil]); first | done | rfl | (simp only [List.length_drop, List.length_take]; rfl)) ?_; (with_reducible refine (foretellkeep_record.calls kj13 _ _ (rd_L3 l1 x14_1) t347 _ ?side1 ?side2 A19.out).mono ?_); (case side1 => repeat (first | exact (Kd.C_below HR346_0.out HB.out) | (with_reducible refine Kd.C_alloc ?_ _) | (with_reducible refine Kd.C_drewN ?_ _) | (with_reducible refine Kd.C_drew ?_))); (case side2 => exact HC346_0.out); rintro e w24 ⟨v348, rfl, ho0, hb⟩; refine ⟨_, rfl, ?_⟩; have n0_ := Aside0.mk (Kd.N_elder' (by (with_reducible repeat (first | apply Kd.N_alloc | apply Kd.N_drewN | apply Kd.N_drew)); exact HO_10.out) (Kd.R_base ho0) hb); have n1_ := Aside0.mk (Kd.N_elder' (by (with_reducible repeat (first | apply Kd.N_alloc | apply Kd.N_drewN | apply Kd.N_drew)); exact HO_13.out) (Kd.R_base ho0) hb); have n2_ := Aside0.mk (Kd.R_below (by (with_reducible repeat (first | apply Kd.R_alloc | apply Kd.R_drewN | apply Kd.R_drew)); exact HO_341000.out) hb); have n3_ := Aside0.mk (Kd.R_lower ho0 (below_size (by repeat (first | (with_reducible first | exact HB.out | apply below_alloc | apply pw_below_drewN | apply below_drew1 | refine below_set ?_ GE340.out) | exact HB.out)))); have n4_ := Aside0.mk (blk_below (g := gb340) (o := .cells #[u341000, .int .i64 x341001_1] 30 (0, 0)) (by (with_reducible repeat (first | refine blk_drewN ?_ _ | refine blk_drew ?_ | refine blk_alloc ?_ _)); exact BK340.out) hb); have n5_ := Aside0.mk (below_step (by repeat (first | (with_reducible first | exact HB.out | apply below_alloc | apply pw_below_drewN | apply below_drew1 | refine below_set ?_ GE340.out) | exact HB.out)) hb); clear HO_10; clear HO_13; clear HO_341000; clear BK340; clear HB; have HO_10 := n0_; have HO_13 := n1_; have HO_341000 := n2_; have HO349 := n3_; have BK340 := n4_; have HB := n5_; clear n0_ n1_ n2_ n3_ n4_ n5_; (try clear hb); (try clear hb2); (try clear hk); (try clear hi); (try clear ho0); have hcz25_0 : w24.cell? ⟨gb340, 0, none⟩ = some (u341000) := (blk_cell BK340.out 0).trans rfl; have hcz25_1 : w24.cell? ⟨gb340, 1, none⟩ = some (.int .i64 x341001_1) := (blk_cell BK340.out 1).trans rfl; have hfz25_0 := blk_frozen BK340.out 0; have hfz25_1 := blk_frozen BK340.out 1; obtain ⟨Ao26, co26, eo26⟩ := Kd.R_slice HO_341000.out; subst eo26; obtain ⟨Ao27, co27, eo27⟩ := Kd.R_slice HO349.out; subst eo27) | ((with_reducible refine gate_callee (f := 13) rfl ?_); refine goesL_ (some 58) rfl rfl Try.func13 (by kernel_rfl) rfl #[.agg #[.slice Ao26 x341000_1.length co26, .int .i64 x341001_1], .slice Ao27 t347.length co27] rfl (by (try simp only [List.map_toArray, List.map_cons, List.map_nil]); first | done | rfl | (simp only [List.length_drop, List.length_take]; rfl)) ?_; (with_reducible refine (tape_Write.calls kj13 _ _ x341000_1 x341001_1 _ _ t347 t350 t353 t354 _ ?side1 ?side2 ?side3 ?side4 A20.out).mono ?_); (case side1 => repeat (first | exact (Kd.R_reads' HO_341000.out).2.2 | (with_reducible refine Kd.C_alloc ?_ _) | (with_reducible refine Kd.C_drewN ?_ _) | (with_reducible refine Kd.C_drew ?_))); (case side2 => exact (Kd.R_reads' HO_341000.out).2.1); (case side3 => repeat (first | exact (Kd.R_reads' HO349.out).2.2 | (with_reducible refine Kd.C_alloc ?_ _) | (with_reducible refine Kd.C_drewN ?_ _) | (with_reducible refine Kd.C_drew ?_))); (case side4 => exact (Kd.R_reads' HO349.out).2.1); rintro e w28 ⟨v351, rfl, ho0, hb⟩; refine ⟨_, rfl, ?_⟩; have n0_ := Aside0.mk (Kd.N_elder' (by (with_reducible repeat (first | apply Kd.N_alloc | apply Kd.N_drewN | apply Kd.N_drew)); exact HO_10.out) (Kd.R_base ho0) hb); have n1_ := Aside0.mk (Kd.N_elder' (by (with_reducible repeat (first | apply Kd.N_alloc | apply Kd.N_drewN | apply Kd.N_drew)); exact HO_13.out) (Kd.R_base ho0) hb); have n2_ := Aside0.mk (Kd.R_elder' (by (with_reducible repeat (first | apply Kd.R_alloc | apply Kd.R_drewN | apply Kd.R_drew)); exact HO_341000.out) (Kd.R_base ho0) hb); have n3_ := Aside0.mk (Kd.R_below (by (with_reducible repeat (first | apply Kd.R_alloc | apply Kd.R_drewN | apply Kd.R_drew)); exact HO349.out) hb); have n4_ := Aside0.mk (Kd.R_lower (Kd.R_new' ho0 (Kd.R_lt (by (with_reducible repeat (first | apply Kd.R_alloc | apply Kd.R_drewN | apply Kd.R_drew)); exact HO_341000.out))) (below_size (by repeat (first | (with_reducible first | exact HB.out | apply below_alloc | apply pw_below_drewN | apply below_drew1 | refine below_set ?_ GE340.out) | exact HB.out)))); have n5_ := Aside0.mk (blk_below (g := gb340) (o := .cells #[.slice Ao26 x341000_1.length co26, .int .i64 x341001_1] 30 (0, 0)) (by (with_reducible repeat (first | refine blk_drewN ?_ _ | refine blk_drew ?_ | refine blk_alloc ?_ _)); exact BK340.out) hb); have n6_ := Aside0.mk (below_step (by repeat (first | (with_reducible first | exact HB.out | apply below_alloc | apply pw_below_drewN | apply below_drew1 | refine below_set ?_ GE340.out) | exact HB.out)) hb); clear HO_10; clear HO_13; clear HO_341000; clear HO349; clear BK340; clear HB; have HO_10 := n0_; have HO_13 := n1_; have HO_341000 := n2_; have HO349 := n3_; have HO352 := n4_; have BK340 := n5_; have HB := n6_; clear n0_ n1_ n2_ n3_ n4_ n5_ n6_; (try clear hb); (try clear hb2); (try clear hk); (try clear hi); (try clear ho0)) | ((with_reducible refine gate_dst (N := 16) rfl ?_); (try (refine gate_guard (by rfl) ?_; dsimp only)); refine box_event ?hg (N := 16) ?hd (cs := #[.slice none 0 0, .int .i64 0]) (t := 30) ?hr ?_; (case hd => rfl); (case hg => rfl); (case hr => first | (go_simp; done) | (go_simp; rfl)); intro gb355 hg w29 hbox hb; have n0_ := Aside0.mk (Kd.N_below (Kd.N_elderB (by (with_reducible repeat (first | apply Kd.N_alloc | apply Kd.N_drewN | apply Kd.N_drew)); exact HO_10.out) gb355 (Nat.le_of_eq hg.symm)) hb); have n1_ := Aside0.mk (Kd.N_below (Kd.N_elderB (by (with_reducible repeat (first | apply Kd.N_alloc | apply Kd.N_drewN | apply Kd.N_drew)); exact HO_13.out) gb355 (Nat.le_of_eq hg.symm)) hb); have n2_ := Aside0.mk (Kd.R_below (by (with_reducible repeat (first | apply Kd.R_alloc | apply Kd.R_drewN | apply Kd.R_drew)); exact HO_341000.out) hb); have n3_ := Aside0.mk (Kd.R_below (by (with_reducible repeat (first | apply Kd.R_alloc | apply Kd.R_drewN | apply Kd.R_drew)); exact HO349.out) hb); have n4_ := Aside0.mk (Kd.R_below (by (with_reducible repeat (first | apply Kd.R_alloc | apply Kd.R_drewN | apply Kd.R_drew)); exact HO352.out) hb); have n5_ := Aside0.mk (blk_below (g := gb340) (o := .cells #[.slice Ao26 x341000_1.length co26, .int .i64 x341001_1] 30 (0, 0)) (by (with_reducible repeat (first | refine blk_drewN ?_ _ | refine blk_drew ?_ | refine blk_alloc ?_ _)); exact BK340.out) hb); have n6_ := Aside0.mk (below_step (by repeat (first | (with_reducible first | exact HB.out | apply below_alloc | apply pw_below_drewN | apply below_drew1 | refine below_set ?_ GE340.out) | exact HB.out)) hb); have n7_ := Aside0.mk (hbox); have n8_ := Aside0.mk ((by rw [hg]; exact (below_size (by repeat (first | (with_reducible first | exact HB.out | apply below_alloc | apply pw_below_drewN | apply below_drew1 | refine below_set ?_ GE340.out) | exact HB.out))) : w.heap.size ≤ gb355)); have n9_ := Aside0.mk ((by rw [hg]; exact (below_size (by repeat (first | (with_reducible first | exact HB.out | apply below_alloc | apply pw_below_drewN | apply below_drew1 | refine below_set ?_ GE340.out) | exact HB.out))) : w.heap.size ≤ gb355)); have n10_ := Aside0.mk ((by rw [hg]; exact Nat.ne_of_lt (blk_lt (g := gb340) (o := .cells #[.slice Ao26 x341000_1.length co26, .int .i64 x341001_1] 30 (0, 0)) (by (with_reducible repeat (first | refine blk_drewN ?_ _ | refine blk_drew ?_ | refine blk_alloc ?_ _)); exact BK340.out)) : gb340 ≠ gb355)); have n11_ := Aside0.mk ((by rw [hg]; exact Nat.ne_of_gt (blk_lt (g := gb340) (o := .cells #[.slice Ao26 x341000_1.length co26, .int .i64 x341001_1] 30 (0, 0)) (by (with_reducible repeat (first | refine blk_drewN ?_ _ | refine blk_drew ?_ | refine blk_alloc ?_ _)); exact BK340.out)) : gb355 ≠ gb340)); clear HO_10; clear HO_13; clear HO_341000; clear HO349; clear HO352; clear BK340; clear HB; have HO_10 := n0_; have HO_13 := n1_; have HO_341000 := n2_; have HO349 := n3_; have HO352 := n4_; have BK340 := n5_; have HB := n6_; have BK355 := n7_; have GW355 := n8_; have GE355 := n9_; have NB340_355 := n10_; have NB355_340 := n11_; clear n0_ n1_ n2_ n3_ n4_ n5_ n6_ n7_ n8_ n9_ n10_ n11_; clear hb hbox hg; obtain ⟨Ao30, co30, eo30⟩ := Kd.R_slice HO352.out; subst eo30; have hnb31 := NB355_340.out; have hnc31 := NB340_355.out; have hcz32_0 : w29.cell? ⟨gb355, 0, none⟩ = some (.slice none 0 0) := (blk_cell BK355.out 0).trans rfl; have hcz32_1 : w29.cell? ⟨gb355, 1, none⟩ = some (.int .i64 0) := (blk_cell BK355.out 1).trans rfl; have hfz32_0 := blk_frozen BK355.out 0; have hfz32_1 := blk_frozen BK355.out 1; have hcz33_0 : w29.cell? ⟨gb340, 0, none⟩ = some (.slice Ao26 x341000_1.length co26) := (blk_cell BK340.out 0).trans rfl; have hcz33_1 : w29.cell? ⟨gb340, 1, none⟩ = some (.int .i64 x341001_1) := (blk_cell BK340.out 1).trans rfl; have hfz33_0 := blk_frozen BK340.out 0; have hfz33_1 := blk_frozen BK340.out 1; obtain ⟨Ao35, co35, eo35⟩ := Kd.N_slice HO_13.out; subst eo35) | ((with_reducible refine gate_builtin (b := .append) (xs := #[.const (.slice none 0 0), .tmp 64]) rfl ?_); (try (refine gate_guard (by rfl) ?_; dsimp only)); at_builtin; refine Kd.N_append_rows (Kd.slice 3 (Kd.int .i64)) (w0 := w) w.heap.size rfl (.const (.slice none 0 0)) (.tmp 64) 35 27 (.slice none 0 0) 24 rfl Try.underlying35 info27 rfl (by decide) (by omega) (.slice none 0 0) ([] : List (List Int)) x13_1 _ _ _ (fun k_ => some k_ ≠ (.slice Ao26 x341000_1.length co26 : Value).ownBlock ∧ some k_ ≠ (.slice Ao27 t347.length co27 : Value).ownBlock ∧ some k_ ≠ (.slice Ao30 t350.length co30 : Value).ownBlock ∧ k_ ≠ gb340 ∧ k_ ≠ gb355) (fun k_ => ((fun k_ => some k_ ≠ (.slice Ao26 x341000_1.length co26 : Value).ownBlock ∧ some k_ ≠ (.slice Ao27 t347.length co27 : Value).ownBlock ∧ some k_ ≠ (.slice Ao30 t350.length co30 : Value).ownBlock ∧ k_ ≠ gb340 ∧ k_ ≠ gb355)) k_ ∧ some k_ ≠ (.slice none 0 0 : Value).ownBlock) rfl rfl ?aO ?aR (fun _ hk => hk) ?aF ?aB ?aS ?aL ?_; (case aR => exact (by skip; exact Kd.N_F (Kd.N_mono (ok' := (fun k_ => ((fun k_ => some k_ ≠ (.slice Ao26 x341000_1.length co26 : Value).ownBlock ∧ some k_ ≠ (.slice Ao27 t347.length co27 : Value).ownBlock ∧ some k_ ≠ (.slice Ao30 t350.length co30 : Value).ownBlock ∧ k_ ≠ gb340 ∧ k_ ≠ gb355)) k_ ∧ some k_ ≠ (.slice none 0 0 : Value).ownBlock)) ((Kd.N_far (p := ⟨gb340, 1, none⟩) (Kd.N_far (p := ⟨gb340, 0, none⟩) (Kd.N_far (p := ⟨gb355, 1, none⟩) (Kd.N_far (p := ⟨gb355, 0, none⟩) (Kd.N_mono (Kd.N_mono HO_13.out (fun k_ hk => (⟨hk, hk.2⟩ : _ ∧ k_ ≠ gb355))) (fun k_ hk => (⟨hk, hk.1.1.1.1.2⟩ : _ ∧ k_ ≠ gb340))) (fun _ hk => hk.1.2) (.slice Ao30 t350.length co30)) (fun _ hk => hk.1.2) (.int .i64 t353)) (fun _ hk => hk.2) (.slice Ao30 t350.length co30)) (fun _ hk => hk.2) (.int .i64 t353))) (fun k_ hk => ⟨⟨hk.1.1.1.1.1.1, ⟨hk.1.1.1.1.2, ⟨hk.1.1.1.2, ⟨hk.1.1.1.1.1.2, hk.1.1.2⟩⟩⟩⟩, (by simp [Value.ownBlock])⟩)))); (case aB => exact (by repeat (first | (with_reducible first | exact HB.out | apply below_alloc | apply pw_below_drewN | apply below_drew1 | refine below_set ?_ GE340.out | refine below_set ?_ GE355.out) | exact HB.out))); (case aF => exact (fun k_ hk => ⟨Kd.fresh' (Kd.R_lt (by (with_reducible repeat (first | apply Kd.R_alloc | apply Kd.R_drewN | apply Kd.R_drew)); exact (Kd.R_mono (Kd.R_mono (Kd.R_far (p := ⟨gb340, 1, none⟩) (Kd.R_far (p := ⟨gb340, 0, none⟩) (Kd.R_far (p := ⟨gb355, 1, none⟩) (Kd.R_far (p := ⟨gb355, 0, none⟩) (Kd.R_types (Kd.R_types HO_341000.out BK355.out (by decide)) BK340.out (by decide)) (fun _ hk => hk.1.2) (.slice Ao30 t350.length co30)) (fun _ hk => hk.1.2) (.int .i64 t353)) (fun _ hk => hk.2) (.slice Ao30 t350.length co30)) (fun _ hk => hk.2) (.int .i64 t353)) (fun _ h_ => h_.1)) (fun _ h_ => h_.1)))) k_ hk, Kd.fresh' (Kd.R_lt (by (with_reducible repeat (first | apply Kd.R_alloc | apply Kd.R_drewN | apply Kd.R_drew)); exact (Kd.R_mono (Kd.R_mono (Kd.R_far (p := ⟨gb340, 1, none⟩) (Kd.R_far (p := ⟨gb340, 0, none⟩) (Kd.R_far (p := ⟨gb355, 1, none⟩) (Kd.R_far (p := ⟨gb355, 0, none⟩) (Kd.R_types (Kd.R_types HO349.out BK355.out (by decide)) BK340.out (by decide)) (fun _ hk => hk.1.2) (.slice Ao30 t350.length co30)) (fun _ hk => hk.1.2) (.int .i64 t353)) (fun _ hk => hk.2) (.slice Ao30 t350.length co30)) (fun _ hk => hk.2) (.int .i64 t353)) (fun _ h_ => h_.1)) (fun _ h_ => h_.1)))) k_ hk, Kd.fresh' (Kd.R_lt (by (with_reducible repeat (first | apply Kd.R_alloc | apply Kd.R_drewN | apply Kd.R_drew)); exact (Kd.R_mono (Kd.R_mono (Kd.R_far (p := ⟨gb340, 1, none⟩) (Kd.R_far (p := ⟨gb340, 0, none⟩) (Kd.R_far (p := ⟨gb355, 1, none⟩) (Kd.R_far (p := ⟨gb355, 0, none⟩) (Kd.R_types (Kd.R_types HO352.out BK355.out (by decide)) BK340.out (by decide)) (fun _ hk => hk.1.2) (.slice Ao30 t350.length co30)) (fun _ hk => hk.1.2) (.int .i64 t353)) (fun _ hk => hk.2) (.slice Ao30 t350.length co30)) (fun _ hk => hk.2) (.int .i64 t353)) (fun _ h_ => h_.1)) (fun _ h_ => h_.1)))) k_ hk, Kd.freshB (g := gb340) (o := .cells #[.slice Ao30 t350.length co30, .int .i64 t353] 30 (0, 0)) (by (with_reducible repeat (first | refine blk_drewN ?_ _ | refine blk_drew ?_ | refine blk_alloc ?_ _)); refine blk_put (cs := #[.slice Ao30 t350.length co30, .int .i64 x341001_1]) ?_ 1 _ rfl; (with_reducible repeat (first | refine blk_drewN ?_ _ | refine blk_drew ?_ | refine blk_alloc ?_ _)); refine blk_put (cs := #[.slice Ao26 x341000_1.length co26, .int .i64 x341001_1]) ?_ 0 _ rfl; (with_reducible repeat (first | refine blk_drewN ?_ _ | refine blk_drew ?_ | refine blk_alloc ?_ _)); refine blk_far ?_ NB340_355.out _; (with_reducible repeat (first | refine blk_drewN ?_ _ | refine blk_drew ?_ | refine blk_alloc ?_ _)); refine blk_far ?_ NB340_355.out _; (with_reducible repeat (first | refine blk_drewN ?_ _ | refine blk_drew ?_ | refine blk_alloc ?_ _)); exact BK340.out) k_ hk, Kd.freshB (g := gb355) (o := .cells #[.slice Ao30 t350.length co30, .int .i64 t353] 30 (0, 0)) (by (with_reducible repeat (first | refine blk_drewN ?_ _ | refine blk_drew ?_ | refine blk_alloc ?_ _)); refine blk_far ?_ NB355_340.out _; (with_reducible repeat (first | refine blk_drewN ?_ _ | refine blk_drew ?_ | refine blk_alloc ?_ _)); refine blk_far ?_ NB355_340.out _; (with_reducible repeat (first | refine blk_drewN ?_ _ | refine blk_drew ?_ | refine blk_alloc ?_ _)); refine blk_put (cs := #[.slice Ao30 t350.length co30, .int .i64 0]) ?_ 1 _ rfl; (with_reducible repeat (first | refine blk_drewN ?_ _ | refine blk_drew ?_ | refine blk_alloc ?_ _)); refine blk_put (cs := #[.slice none 0 0, .int .i64 0]) ?_ 0 _ rfl; (with_reducible repeat (first | refine blk_drewN ?_ _ | refine blk_drew ?_ | refine blk_alloc ?_ _)); exact BK355.out) k_ hk⟩)); (case aO => exact ((Kd.N_nil _ _ _ _ (fun k_ => some k_ ≠ (.slice Ao26 x341000_1.length co26 : Value).ownBlock ∧ some k_ ≠ (.slice Ao27 t347.length co27 : Value).ownBlock ∧ some k_ ≠ (.slice Ao30 t350.length co30 : Value).ownBlock ∧ k_ ≠ gb340 ∧ k_ ≠ gb355)))); (case aS => exact (below_size (by repeat (first | (with_reducible first | exact HB.out | apply below_alloc | apply pw_below_drewN | apply below_drew1 | refine below_set ?_ GE340.out | refine below_set ?_ GE355.out) | exact HB.out)))); (case aL => have := LMc22.out; omega); intro v357 w34 ho hb hg hat; rw [← Ny356.out] at ho; have n0_ := Aside0.mk (Kd.N_afterv (Kd.N_apart_nil (by (with_reducible repeat (first | apply Kd.N_alloc | apply Kd.N_drewN | apply Kd.N_drew)); exact (Kd.N_mono (Kd.N_mono (Kd.N_far (p := ⟨gb340, 1, none⟩) (Kd.N_far (p := ⟨gb340, 0, none⟩) (Kd.N_far (p := ⟨gb355, 1, none⟩) (Kd.N_far (p := ⟨gb355, 0, none⟩) (Kd.N_mono (Kd.N_mono HO_10.out (fun k_ hk => (⟨hk, hk.2⟩ : _ ∧ k_ ≠ gb355))) (fun k_ hk => (⟨hk, hk.1.1.1.1.2⟩ : _ ∧ k_ ≠ gb340))) (fun _ hk => hk.1.2) (.slice Ao30 t350.length co30)) (fun _ hk => hk.1.2) (.int .i64 t353)) (fun _ hk => hk.2) (.slice Ao30 t350.length co30)) (fun _ hk => hk.2) (.int .i64 t353)) (fun _ h_ => h_.1)) (fun _ h_ => h_.1)))) hg hat); have n1_ := Aside0.mk (Kd.N_afterv (Kd.N_apart_nil (by (with_reducible repeat (first | apply Kd.N_alloc | apply Kd.N_drewN | apply Kd.N_drew)); exact (Kd.N_mono (Kd.N_mono (Kd.N_far (p := ⟨gb340, 1, none⟩) (Kd.N_far (p := ⟨gb340, 0, none⟩) (Kd.N_far (p := ⟨gb355, 1, none⟩) (Kd.N_far (p := ⟨gb355, 0, none⟩) (Kd.N_mono (Kd.N_mono HO_13.out (fun k_ hk => (⟨hk, hk.2⟩ : _ ∧ k_ ≠ gb355))) (fun k_ hk => (⟨hk, hk.1.1.1.1.2⟩ : _ ∧ k_ ≠ gb340))) (fun _ hk => hk.1.2) (.slice Ao30 t350.length co30)) (fun _ hk => hk.1.2) (.int .i64 t353)) (fun _ hk => hk.2) (.slice Ao30 t350.length co30)) (fun _ hk => hk.2) (.int .i64 t353)) (fun _ h_ => h_.1)) (fun _ h_ => h_.1)))) hg hat); have n2_ := Aside0.mk (Kd.R_grown (by (with_reducible repeat (first | apply Kd.R_alloc | apply Kd.R_drewN | apply Kd.R_drew)); exact (Kd.R_mono (Kd.R_mono (Kd.R_far (p := ⟨gb340, 1, none⟩) (Kd.R_far (p := ⟨gb340, 0, none⟩) (Kd.R_far (p := ⟨gb355, 1, none⟩) (Kd.R_far (p := ⟨gb355, 0, none⟩) (Kd.R_types (Kd.R_types HO_341000.out BK355.out (by decide)) BK340.out (by decide)) (fun _ hk => hk.1.2) (.slice Ao30 t350.length co30)) (fun _ hk => hk.1.2) (.int .i64 t353)) (fun _ hk => hk.2) (.slice Ao30 t350.length co30)) (fun _ hk => hk.2) (.int .i64 t353)) (fun _ h_ => h_.1)) (fun _ h_ => h_.1))) hg (fun _ _ => by simp [Value.ownBlock])); have n3_ := Aside0.mk (blk_grown (g := gb340) (o := .cells #[.slice Ao30 t350.length co30, .int .i64 t353] 30 (0, 0)) (by (with_reducible repeat (first | refine blk_drewN ?_ _ | refine blk_drew ?_ | refine blk_alloc ?_ _)); refine blk_put (cs := #[.slice Ao30 t350.length co30, .int .i64 x341001_1]) ?_ 1 _ rfl; (with_reducible repeat (first | refine blk_drewN ?_ _ | refine blk_drew ?_ | refine blk_alloc ?_ _)); refine blk_put (cs := #[.slice Ao26 x341000_1.length co26, .int .i64 x341001_1]) ?_ 0 _ rfl; (with_reducible repeat (first | refine blk_drewN ?_ _ | refine blk_drew ?_ | refine blk_alloc ?_ _)); refine blk_far ?_ NB340_355.out _; (with_reducible repeat (first | refine blk_drewN ?_ _ | refine blk_drew ?_ | refine blk_alloc ?_ _)); refine blk_far ?_ NB340_355.out _; (with_reducible repeat (first | refine blk_drewN ?_ _ | refine blk_drew ?_ | refine blk_alloc ?_ _)); exact BK340.out) hg (by simp [Value.ownBlock])); have n4_ := Aside0.mk (Kd.R_grown (by (with_reducible repeat (first | apply Kd.R_alloc | apply Kd.R_drewN | apply Kd.R_drew)); exact (Kd.R_mono (Kd.R_mono (Kd.R_far (p := ⟨gb340, 1, none⟩) (Kd.R_far (p := ⟨gb340, 0, none⟩) (Kd.R_far (p := ⟨gb355, 1, none⟩) (Kd.R_far (p := ⟨gb355, 0, none⟩) (Kd.R_types (Kd.R_types HO349.out BK355.out (by decide)) BK340.out (by decide)) (fun _ hk => hk.1.2) (.slice Ao30 t350.length co30)) (fun _ hk => hk.1.2) (.int .i64 t353)) (fun _ hk => hk.2) (.slice Ao30 t350.length co30)) (fun _ hk => hk.2) (.int .i64 t353)) (fun _ h_ => h_.1)) (fun _ h_ => h_.1))) hg (fun _ _ => by simp [Value.ownBlock])); have n5_ := Aside0.mk (Kd.R_grown (by (with_reducible repeat (first | apply Kd.R_alloc | apply Kd.R_drewN | apply Kd.R_drew)); exact (Kd.R_mono (Kd.R_mono (Kd.R_far (p := ⟨gb340, 1, none⟩) (Kd.R_far (p := ⟨gb340, 0, none⟩) (Kd.R_far (p := ⟨gb355, 1, none⟩) (Kd.R_far (p := ⟨gb355, 0, none⟩) (Kd.R_types (Kd.R_types HO352.out BK355.out (by decide)) BK340.out (by decide)) (fun _ hk => hk.1.2) (.slice Ao30 t350.length co30)) (fun _ hk => hk.1.2) (.int .i64 t353)) (fun _ hk => hk.2) (.slice Ao30 t350.length co30)) (fun _ hk => hk.2) (.int .i64 t353)) (fun _ h_ => h_.1)) (fun _ h_ => h_.1))) hg (fun _ _ => by simp [Value.ownBlock])); have n6_ := Aside0.mk (blk_grown (g := gb355) (o := .cells #[.slice Ao30 t350.length co30, .int .i64 t353] 30 (0, 0)) (by (with_reducible repeat (first | refine blk_drewN ?_ _ | refine blk_drew ?_ | refine blk_alloc ?_ _)); refine blk_far ?_ NB355_340.out _; (with_reducible repeat (first | refine blk_drewN ?_ _ | refine blk_drew ?_ | refine blk_alloc ?_ _)); refine blk_far ?_ NB355_340.out _; (with_reducible repeat (first | refine blk_drewN ?_ _ | refine blk_drew ?_ | refine blk_alloc ?_ _)); refine blk_put (cs := #[.slice Ao30 t350.length co30, .int .i64 0]) ?_ 1 _ rfl; (with_reducible repeat (first | refine blk_drewN ?_ _ | refine blk_drew ?_ | refine blk_alloc ?_ _)); refine blk_put (cs := #[.slice none 0 0, .int .i64 0]) ?_ 0 _ rfl; (with_reducible repeat (first | refine blk_drewN ?_ _ | refine blk_drew ?_ | refine blk_alloc ?_ _)); exact BK355.out) hg (by simp [Value.ownBlock])); have n7_ := Aside0.mk (hb); have n8_ := Aside0.mk (ho); clear HO_10; clear HO_13; clear HO_341000; clear BK340; clear HO349; clear HO352; clear BK355; clear HB; have HO_10 := n0_; have HO_13 := n1_; have HO_341000 := n2_; have BK340 := n3_; have HO349 := n4_; have HO352 := n5_; have BK355 := n6_; have HB := n7_; have HO358 := n8_; clear n0_ n1_ n2_ n3_ n4_ n5_ n6_ n7_ n8_; clear ho hb hg hat) | ((with_reducible refine gate_builtin (b := .append) (xs := #[.tmp 65, .tmp 67]) rfl ?_); (try (refine gate_guard (by rfl) ?_; dsimp only)); at_builtin; refine Kd.N_append (Kd.slice 3 (Kd.int .i64)) (w0 := w) w.heap.size rfl (.tmp 65) (.tmp 67) 35 27 (.slice none 0 0) 24 rfl Try.underlying35 info27 rfl (by decide) (by omega) v357 y356 t347 [.slice Ao27 t347.length co27] (fun k_ => some k_ ≠ (.slice Ao26 x341000_1.length co26 : Value).ownBlock ∧ some k_ ≠ (.slice Ao30 t350.length co30 : Value).ownBlock ∧ k_ ≠ gb340 ∧ k_ ≠ gb355) (fun k_ => ((fun k_ => some k_ ≠ (.slice Ao26 x341000_1.length co26 : Value).ownBlock ∧ some k_ ≠ (.slice Ao30 t350.length co30 : Value).ownBlock ∧ k_ ≠ gb340 ∧ k_ ≠ gb355)) k_ ∧ some k_ ≠ (v357 : Value).ownBlock) rfl rfl ?aP (fun _ hk => hk) ?aF ?aO ?aB ?aS ?aL ?_; (case aP => exact (Kd.FK_slice_mk (Kd.R_reads' (Kd.R_mono (ok' := (fun k_ => ((fun k_ => some k_ ≠ (.slice Ao26 x341000_1.length co26 : Value).ownBlock ∧ some k_ ≠ (.slice Ao30 t350.length co30 : Value).ownBlock ∧ k_ ≠ gb340 ∧ k_ ≠ gb355)) k_ ∧ some k_ ≠ (v357 : Value).ownBlock)) (Kd.R_types (Kd.R_types (Kd.R_apart' (Kd.R_apart' (Kd.R_apart' (HO349.out) (Kd.R_typed HO_341000.out) (by decide)) (Kd.R_typed HO352.out) (by decide)) (Kd.N_typed HO358.out) (by decide)) BK340.out (by decide)) BK355.out (by decide)) (fun k_ hk => ⟨⟨hk.1.1.1.1.2, ⟨hk.1.1.1.2, ⟨hk.1.2, hk.2⟩⟩⟩, hk.1.1.2⟩))).2.1 (Kd.R_F (Kd.R_mono (ok' := (fun k_ => ((fun k_ => some k_ ≠ (.slice Ao26 x341000_1.length co26 : Value).ownBlock ∧ some k_ ≠ (.slice Ao30 t350.length co30 : Value).ownBlock ∧ k_ ≠ gb340 ∧ k_ ≠ gb355)) k_ ∧ some k_ ≠ (v357 : Value).ownBlock)) (Kd.R_types (Kd.R_types (Kd.R_apart' (Kd.R_apart' (Kd.R_apart' (HO349.out) (Kd.R_typed HO_341000.out) (by decide)) (Kd.R_typed HO352.out) (by decide)) (Kd.N_typed HO358.out) (by decide)) BK340.out (by decide)) BK355.out (by decide)) (fun k_ hk => ⟨⟨hk.1.1.1.1.2, ⟨hk.1.1.1.2, ⟨hk.1.2, hk.2⟩⟩⟩, hk.1.1.2⟩))))); (case aB => exact (by repeat (first | (with_reducible first | exact HB.out | apply below_alloc | apply pw_below_drewN | apply below_drew1 | refine below_set ?_ GE340.out | refine below_set ?_ GE355.out) | exact HB.out))); (case aF => exact (fun k_ hk => ⟨Kd.fresh' (Kd.R_lt (by (with_reducible repeat (first | apply Kd.R_alloc | apply Kd.R_drewN | apply Kd.R_drew)); exact HO_341000.out)) k_ hk, Kd.fresh' (Kd.R_lt (by (with_reducible repeat (first | apply Kd.R_alloc | apply Kd.R_drewN | apply Kd.R_drew)); exact HO352.out)) k_ hk, Kd.freshB (g := gb340) (o := .cells #[.slice Ao30 t350.length co30, .int .i64 t353] 30 (0, 0)) (by (with_reducible repeat (first | refine blk_drewN ?_ _ | refine blk_drew ?_ | refine blk_alloc ?_ _)); exact BK340.out) k_ hk, Kd.freshB (g := gb355) (o := .cells #[.slice Ao30 t350.length co30, .int .i64 t353] 30 (0, 0)) (by (with_reducible repeat (first | refine blk_drewN ?_ _ | refine blk_drew ?_ | refine blk_alloc ?_ _)); exact BK355.out) k_ hk⟩)); (case aO => exact (by (with_reducible repeat (first | apply Kd.N_alloc | apply Kd.N_drewN | apply Kd.N_drew)); exact Kd.N_mono HO358.out (fun _ hk => ⟨hk.1, ⟨hk.2.2.1, ⟨hk.2.2.2.1, hk.2.2.2.2⟩⟩⟩))); (case aS => exact (below_size (by repeat (first | (with_reducible first | exact HB.out | apply below_alloc | apply pw_below_drewN | apply below_drew1 | refine below_set ?_ GE340.out | refine below_set ?_ GE355.out) | exact HB.out)))); (case aL => have := LMc23.out; omega); intro v360 w36 ho hb hg hat; rw [← Ny359.out] at ho; have n0_ := Aside0.mk (Kd.N_afterv (ok := (fun k_ => some k_ ≠ (.slice Ao26 x341000_1.length co26 : Value).ownBlock ∧ some k_ ≠ (.slice Ao27 t347.length co27 : Value).ownBlock ∧ some k_ ≠ (.slice Ao30 t350.length co30 : Value).ownBlock ∧ k_ ≠ gb340 ∧ k_ ≠ gb355)) (by (with_reducible repeat (first | apply Kd.N_alloc | apply Kd.N_drewN | apply Kd.N_drew)); exact Kd.N_mono HO_10.out (fun _ hk => ⟨⟨hk.1.1.1.1.1, ⟨hk.1.1.1.2, ⟨hk.1.1.2, ⟨hk.1.1.1.1.2, hk.1.2⟩⟩⟩⟩, hk.2⟩)) hg hat); have n1_ := Aside0.mk (Kd.N_afterv (ok := (fun k_ => some k_ ≠ (.slice Ao26 x341000_1.length co26 : Value).ownBlock ∧ some k_ ≠ (.slice Ao27 t347.length co27 : Value).ownBlock ∧ some k_ ≠ (.slice Ao30 t350.length co30 : Value).ownBlock ∧ k_ ≠ gb340 ∧ k_ ≠ gb355)) (by (with_reducible repeat (first | apply Kd.N_alloc | apply Kd.N_drewN | apply Kd.N_drew)); exact Kd.N_mono HO_13.out (fun _ hk => ⟨⟨hk.1.1.1.1.1, ⟨hk.1.1.1.2, ⟨hk.1.1.2, ⟨hk.1.1.1.1.2, hk.1.2⟩⟩⟩⟩, hk.2⟩)) hg hat); have n2_ := Aside0.mk (Kd.R_over' (by (with_reducible repeat (first | apply Kd.R_alloc | apply Kd.R_drewN | apply Kd.R_drew)); exact HO_341000.out) (Kd.N_typed (by (with_reducible repeat (first | apply Kd.N_alloc | apply Kd.N_drewN | apply Kd.N_drew)); exact HO358.out)) (by decide) hg); have n3_ := Aside0.mk (blk_grown (g := gb340) (o := .cells #[.slice Ao30 t350.length co30, .int .i64 t353] 30 (0, 0)) (by (with_reducible repeat (first | refine blk_drewN ?_ _ | refine blk_drew ?_ | refine blk_alloc ?_ _)); exact BK340.out) hg (Kd.N_ne HO358.out BK340.out (by decide))); have n4_ := Aside0.mk (Kd.R_over' (by (with_reducible repeat (first | apply Kd.R_alloc | apply Kd.R_drewN | apply Kd.R_drew)); exact HO352.out) (Kd.N_typed (by (with_reducible repeat (first | apply Kd.N_alloc | apply Kd.N_drewN | apply Kd.N_drew)); exact HO358.out)) (by decide) hg); have n5_ := Aside0.mk (blk_grown (g := gb355) (o := .cells #[.slice Ao30 t350.length co30, .int .i64 t353] 30 (0, 0)) (by (with_reducible repeat (first | refine blk_drewN ?_ _ | refine blk_drew ?_ | refine blk_alloc ?_ _)); exact BK355.out) hg (Kd.N_ne HO358.out BK355.out (by decide))); have n6_ := Aside0.mk (hb); have n7_ := Aside0.mk (ho); clear HO_10; clear HO_13; clear HO_341000; clear BK340; clear HO352; clear BK355; clear HB; clear HO358; clear HO349; have HO_10 := n0_; have HO_13 := n1_; have HO_341000 := n2_; have BK340 := n3_; have HO352 := n4_; have BK355 := n5_; have HB := n6_; have HO361 := n7_; clear n0_ n1_ n2_ n3_ n4_ n5_ n6_ n7_; clear ho hb hg hat))
                      go_roundg kj13
                      case measure => have := HK1.out; have := HJ13.out; omega
                      case rel => exact ⟨(y359), (wrap64 (x14_1 + 1)), (t350), (t353), (.slice Ao30 t350.length co30), (by first | rfl | (simp; done) | (simp [*]; done)), H', ⟨by have := HK1.out; have := HJ13.out; omega⟩, ⟨by (with_reducible repeat (first | apply Kd.N_alloc | apply Kd.N_drewN | apply Kd.N_drew)); exact Kd.N_mono HO_10.out (fun _ hk => ⟨hk.1.2.2.1, hk.1.2.2.2.1⟩)⟩, ⟨by (with_reducible repeat (first | apply Kd.N_alloc | apply Kd.N_drewN | apply Kd.N_drew)); exact Kd.N_mono HO361.out (fun _ hk => ⟨hk.2.1, hk.2.2.1⟩)⟩, ⟨by (with_reducible repeat (first | apply Kd.R_alloc | apply Kd.R_drewN | apply Kd.R_drew)); exact Kd.R_mono HO352.out (fun _ hk => trivial)⟩, ⟨by (with_reducible repeat (first | refine blk_drewN ?_ _ | refine blk_drew ?_ | refine blk_alloc ?_ _)); exact BK340.out⟩, ⟨by repeat (first | (with_reducible first | exact HB.out | apply below_alloc | apply pw_below_drewN | apply below_drew1 | refine below_set ?_ GE340.out | refine below_set ?_ GE355.out) | exact HB.out)⟩⟩
                    · rw [if_neg c23] at H
                      exact absurd H (by simp)
                  · rw [if_neg c22] at H
                    exact absurd H (by simp)
                · rw [if_neg c21] at H
                  exact absurd ((Option.some.inj H).trans hr_.out) (by decide)
              · rw [if_neg c18] at H
                exact absurd H (by simp)
            · rw [if_neg c17] at H
              exact absurd H (by simp)
          · replace c16 := Bool.eq_false_iff.mpr c16
            subst c16
            have H1 : ((foretellkeep_picked.f a2 200).bind fun t362 => ((tape_Crash.f x341000_1 x341001_1 t362).bind fun bt363 => ((tape_Repair.f kj13 bt363.1 bt363.2.1).bind fun bt368 => ((tape_Read.f kj13 bt368.1 bt368.2.1).bind fun bt373 => (if t339 = true then (if t345 = 0 then (if bt363.2.2 = 0 then (if bt368.2.2 = 0 then (if bt373.2.2 = 0 then (if (bt373.1.length : Int) < (t336.length : Int) then (foretellkeep_TapeKeeps.j2 kj13 l3 bt373.1 true bt368.1 bt368.2.1) else (if (bt373.1.length : Int) > (x13_1.length : Int) then (foretellkeep_TapeKeeps.j2 kj13 l3 bt373.1 true bt368.1 bt368.2.1) else (if bt373.2.1 = (bt368.1.length : Int) then (if 0 ≤ (bt373.1.length : Int) then (if (bt373.1.length : Int) ≤ (x13_1.length : Int) then ((foretellkeep_sameLists.f kj13 bt373.1 (x13_1.take ((bt373.1.length : Int) : Int).toNat)).bind fun t383 => (foretellkeep_TapeKeeps.j2 kj13 l3 bt373.1 (!t383) bt368.1 bt368.2.1)) else (none)) else (none)) else (foretellkeep_TapeKeeps.j2 kj13 l3 bt373.1 true bt368.1 bt368.2.1)))) else (foretellkeep_TapeKeeps.j2 kj13 l3 bt373.1 true bt368.1 bt368.2.1)) else (foretellkeep_TapeKeeps.j2 kj13 l3 bt373.1 true bt368.1 bt368.2.1)) else (foretellkeep_TapeKeeps.j2 kj13 l3 bt373.1 true bt368.1 bt368.2.1)) else (foretellkeep_TapeKeeps.j2 kj13 l3 bt373.1 true bt368.1 bt368.2.1)) else (foretellkeep_TapeKeeps.j2 kj13 l3 bt373.1 true bt368.1 bt368.2.1)))))) = some r := by rw [if_neg (show ¬ (false = true) by decide)] at H; exact H
            clear H
            have H := H1
            clear H1
            replace H := Option.bind_eq_some_iff.mp H
            obtain ⟨t362, A370, H⟩ := H
            replace H : ((tape_Crash.f x341000_1 x341001_1 t362).bind fun bt363 => ((tape_Repair.f kj13 bt363.1 bt363.2.1).bind fun bt368 => ((tape_Read.f kj13 bt368.1 bt368.2.1).bind fun bt373 => (if t339 = true then (if t345 = 0 then (if bt363.2.2 = 0 then (if bt368.2.2 = 0 then (if bt373.2.2 = 0 then (if (bt373.1.length : Int) < (t336.length : Int) then (foretellkeep_TapeKeeps.j2 kj13 l3 bt373.1 true bt368.1 bt368.2.1) else (if (bt373.1.length : Int) > (x13_1.length : Int) then (foretellkeep_TapeKeeps.j2 kj13 l3 bt373.1 true bt368.1 bt368.2.1) else (if bt373.2.1 = (bt368.1.length : Int) then (if 0 ≤ (bt373.1.length : Int) then (if (bt373.1.length : Int) ≤ (x13_1.length : Int) then ((foretellkeep_sameLists.f kj13 bt373.1 (x13_1.take ((bt373.1.length : Int) : Int).toNat)).bind fun t383 => (foretellkeep_TapeKeeps.j2 kj13 l3 bt373.1 (!t383) bt368.1 bt368.2.1)) else (none)) else (none)) else (foretellkeep_TapeKeeps.j2 kj13 l3 bt373.1 true bt368.1 bt368.2.1)))) else (foretellkeep_TapeKeeps.j2 kj13 l3 bt373.1 true bt368.1 bt368.2.1)) else (foretellkeep_TapeKeeps.j2 kj13 l3 bt373.1 true bt368.1 bt368.2.1)) else (foretellkeep_TapeKeeps.j2 kj13 l3 bt373.1 true bt368.1 bt368.2.1)) else (foretellkeep_TapeKeeps.j2 kj13 l3 bt373.1 true bt368.1 bt368.2.1)) else (foretellkeep_TapeKeeps.j2 kj13 l3 bt373.1 true bt368.1 bt368.2.1))))) = some r := H
            have A37 := Aside0.mk A370
            clear A370
            replace H := Option.bind_eq_some_iff.mp H
            obtain ⟨⟨t363, t366, t367⟩, A380, H⟩ := H
            replace H : ((tape_Repair.f kj13 t363 t366).bind fun bt368 => ((tape_Read.f kj13 bt368.1 bt368.2.1).bind fun bt373 => (if t339 = true then (if t345 = 0 then (if t367 = 0 then (if bt368.2.2 = 0 then (if bt373.2.2 = 0 then (if (bt373.1.length : Int) < (t336.length : Int) then (foretellkeep_TapeKeeps.j2 kj13 l3 bt373.1 true bt368.1 bt368.2.1) else (if (bt373.1.length : Int) > (x13_1.length : Int) then (foretellkeep_TapeKeeps.j2 kj13 l3 bt373.1 true bt368.1 bt368.2.1) else (if bt373.2.1 = (bt368.1.length : Int) then (if 0 ≤ (bt373.1.length : Int) then (if (bt373.1.length : Int) ≤ (x13_1.length : Int) then ((foretellkeep_sameLists.f kj13 bt373.1 (x13_1.take ((bt373.1.length : Int) : Int).toNat)).bind fun t383 => (foretellkeep_TapeKeeps.j2 kj13 l3 bt373.1 (!t383) bt368.1 bt368.2.1)) else (none)) else (none)) else (foretellkeep_TapeKeeps.j2 kj13 l3 bt373.1 true bt368.1 bt368.2.1)))) else (foretellkeep_TapeKeeps.j2 kj13 l3 bt373.1 true bt368.1 bt368.2.1)) else (foretellkeep_TapeKeeps.j2 kj13 l3 bt373.1 true bt368.1 bt368.2.1)) else (foretellkeep_TapeKeeps.j2 kj13 l3 bt373.1 true bt368.1 bt368.2.1)) else (foretellkeep_TapeKeeps.j2 kj13 l3 bt373.1 true bt368.1 bt368.2.1)) else (foretellkeep_TapeKeeps.j2 kj13 l3 bt373.1 true bt368.1 bt368.2.1)))) = some r := H
            have A38 := Aside0.mk A380
            clear A380
            replace H := Option.bind_eq_some_iff.mp H
            obtain ⟨⟨t368, t371, t372⟩, A390, H⟩ := H
            replace H : ((tape_Read.f kj13 t368 t371).bind fun bt373 => (if t339 = true then (if t345 = 0 then (if t367 = 0 then (if t372 = 0 then (if bt373.2.2 = 0 then (if (bt373.1.length : Int) < (t336.length : Int) then (foretellkeep_TapeKeeps.j2 kj13 l3 bt373.1 true t368 t371) else (if (bt373.1.length : Int) > (x13_1.length : Int) then (foretellkeep_TapeKeeps.j2 kj13 l3 bt373.1 true t368 t371) else (if bt373.2.1 = (t368.length : Int) then (if 0 ≤ (bt373.1.length : Int) then (if (bt373.1.length : Int) ≤ (x13_1.length : Int) then ((foretellkeep_sameLists.f kj13 bt373.1 (x13_1.take ((bt373.1.length : Int) : Int).toNat)).bind fun t383 => (foretellkeep_TapeKeeps.j2 kj13 l3 bt373.1 (!t383) t368 t371)) else (none)) else (none)) else (foretellkeep_TapeKeeps.j2 kj13 l3 bt373.1 true t368 t371)))) else (foretellkeep_TapeKeeps.j2 kj13 l3 bt373.1 true t368 t371)) else (foretellkeep_TapeKeeps.j2 kj13 l3 bt373.1 true t368 t371)) else (foretellkeep_TapeKeeps.j2 kj13 l3 bt373.1 true t368 t371)) else (foretellkeep_TapeKeeps.j2 kj13 l3 bt373.1 true t368 t371)) else (foretellkeep_TapeKeeps.j2 kj13 l3 bt373.1 true t368 t371))) = some r := H
            have A39 := Aside0.mk A390
            clear A390
            replace H := Option.bind_eq_some_iff.mp H
            obtain ⟨⟨t373, t376, t377⟩, A400, H⟩ := H
            replace H : (if t339 = true then (if t345 = 0 then (if t367 = 0 then (if t372 = 0 then (if t377 = 0 then (if (t373.length : Int) < (t336.length : Int) then (foretellkeep_TapeKeeps.j2 kj13 l3 t373 true t368 t371) else (if (t373.length : Int) > (x13_1.length : Int) then (foretellkeep_TapeKeeps.j2 kj13 l3 t373 true t368 t371) else (if t376 = (t368.length : Int) then (if 0 ≤ (t373.length : Int) then (if (t373.length : Int) ≤ (x13_1.length : Int) then ((foretellkeep_sameLists.f kj13 t373 (x13_1.take ((t373.length : Int) : Int).toNat)).bind fun t383 => (foretellkeep_TapeKeeps.j2 kj13 l3 t373 (!t383) t368 t371)) else (none)) else (none)) else (foretellkeep_TapeKeeps.j2 kj13 l3 t373 true t368 t371)))) else (foretellkeep_TapeKeeps.j2 kj13 l3 t373 true t368 t371)) else (foretellkeep_TapeKeeps.j2 kj13 l3 t373 true t368 t371)) else (foretellkeep_TapeKeeps.j2 kj13 l3 t373 true t368 t371)) else (foretellkeep_TapeKeeps.j2 kj13 l3 t373 true t368 t371)) else (foretellkeep_TapeKeeps.j2 kj13 l3 t373 true t368 t371)) = some r := H
            have A40 := Aside0.mk A400
            clear A400
            have HC41 := Aside0.mk H
            clear H
            try go_wp2
            have n0_ := Aside0.mk (Kd.N_drew HO_10.out)
            have n1_ := Aside0.mk (Kd.N_drew HO_13.out)
            have n2_ := Aside0.mk (Kd.R_drew HO_341000.out)
            have n3_ := Aside0.mk (blk_drew BK340.out)
            have n4_ := Aside0.mk (below_drew1 HB.out)
            clear HO_10
            clear HO_13
            clear HO_341000
            clear BK340
            clear HB
            have HO_10 := n0_
            have HO_13 := n1_
            have HO_341000 := n2_
            have BK340 := n3_
            have HB := n4_
            clear n0_ n1_ n2_ n3_ n4_
            refine start_ (n := 9) (S := fun w' => w'.cell? ⟨gb340, 0, none⟩ = some (u341000) ∧ w'.cell? ⟨gb340, 1, none⟩ = some (.int .i64 x341001_1)) (ds := [7]) #[false, false, false, false, false, false, false, false, false] (by kernel_rfl) rfl rfl ⟨(blk_cell BK340.out 0).trans rfl, (blk_cell BK340.out 1).trans rfl⟩ (fun hHeld => ?_); refine with_tabW foretellkeep_TapeKeeps.tab13 foretellkeep_TapeKeeps.bits13 (fun HT_ HW_ => ?_)
            generalize wc.drew = w42 at HO_10 HO_13 HO_341000 BK340 HB hHeld ⊢
            refine pure_ (i := 1) (N := some 71) (v := ?_) (a' := ?_) #[false, true, false, false, false, false, false, false, false] rfl rfl (any_of HT_.out (by kernel_rfl)) (fun _ _ _ h => h) (Or.inl ⟨by rfl, ?_⟩) ?_ ?_
            rotate_left
            · intro w'
              go_simp
              with_reducible rfl
            rotate_left
            · simp only [Act.put, List.setIfInBounds_toArray, List.set_cons_zero, List.set_cons_succ, i64_w, i32_w]
              rfl
            refine take_ (i := 0) (N := some 70) (v := ?_) (a' := ?_) #[true, true, false, false, false, false, false, false, false] rfl rfl (take_ofW HT_.out HW_.out (by kernel_rfl)) (fun _ _ _ h => h) (Or.inl ⟨by rfl, ?_⟩) hHeld ?_ ?_
            rotate_left
            · rintro w' ⟨s0, s1⟩
              go_simp
              with_reducible rfl
            rotate_left
            · simp only [Act.put, List.setIfInBounds_toArray, List.set_cons_zero, List.set_cons_succ, i64_w, i32_w]
              rfl
            refine one_ (i := 2) (N := some 72) #[true, true, true, false, false, false, false, false, false] rfl rfl (one_of HT_.out (by kernel_rfl)) (by decide) (fun K hK => ?_)
            refine goes_ Try.func11 (by kernel_rfl) rfl #[.int .i64 a2, .int .i64 200] (by rfl) rfl rfl (by (try simp only [List.map_toArray, List.map_cons, List.map_nil]); first | done | rfl | (simp only [List.length_drop, List.length_take]; rfl)) ?_
            with_reducible refine (foretellkeep_picked.calls a2 200 t362 _ A37.out).mono ?_
            rintro e w' ⟨rfl, ⟨nd, rfl⟩⟩
            refine ⟨_, rfl, ?_⟩
            obtain ⟨Ao43, co43, eo43⟩ := Kd.R_slice HO_341000.out
            (first | subst eo43 | (injection eo43 with f1_ f2_ f3_; have f4_ := f1_.symm; have f5_ := f3_.symm; clear f1_ f2_ f3_; subst f4_; subst f5_))
            refine hK.out _ _ ⟨(blk_cell BK340.out 0).trans rfl, (blk_cell BK340.out 1).trans rfl⟩ (fun hHeld => ?_)
            clear hK K
            refine norm_ (a' := ?_) ?_ ?_
            rotate_left
            · show Act.put _ (some 72) _ = _
              simp only [Act.put, List.setIfInBounds_toArray, List.set_cons_zero, List.set_cons_succ, i64_w, i32_w]
              rfl
            refine one_ (i := 3) (N := some 73) #[true, true, true, true, false, false, false, false, false] rfl rfl (one_of HT_.out (by kernel_rfl)) (by decide) (fun K hK => ?_)
            refine goes_ Try.func18 (by kernel_rfl) rfl #[.agg #[.slice Ao43 x341000_1.length co43, .int .i64 x341001_1], .int .i64 t362] (by rfl) rfl rfl (by (try simp only [List.map_toArray, List.map_cons, List.map_nil]); first | done | rfl | (simp only [List.length_drop, List.length_take]; rfl)) ?_
            with_reducible refine (tape_Crash.calls _ _ x341000_1 x341001_1 t362 t363 t366 t367 _ ?side1 ?side2 A38.out).mono ?_
            (case side1 => repeat (first | exact (Kd.R_reads' HO_341000.out).2.2 | (with_reducible refine Kd.C_alloc ?_ _) | (with_reducible refine Kd.C_drewN ?_ _) | (with_reducible refine Kd.C_drew ?_)))
            (case side2 => exact (Kd.R_reads' HO_341000.out).2.1)
            rintro e w44 ⟨v364, rfl, ho0, hb⟩
            refine ⟨_, rfl, ?_⟩
            have n0_ := Aside0.mk (Kd.N_below (by (with_reducible repeat (first | apply Kd.N_alloc | apply Kd.N_drewN | apply Kd.N_drew)); exact HO_10.out) hb)
            have n1_ := Aside0.mk (Kd.N_below (by (with_reducible repeat (first | apply Kd.N_alloc | apply Kd.N_drewN | apply Kd.N_drew)); exact HO_13.out) hb)
            have n2_ := Aside0.mk (Kd.R_below (by (with_reducible repeat (first | apply Kd.R_alloc | apply Kd.R_drewN | apply Kd.R_drew)); exact HO_341000.out) hb)
            have n3_ := Aside0.mk (Kd.V_lower (Kd.V_mono (ok' := fun k_ => some k_ ≠ (v337 : Value).ownBlock ∧ some k_ ≠ (u13 : Value).ownBlock ∧ some k_ ≠ (.slice Ao43 x341000_1.length co43 : Value).ownBlock ∧ k_ ≠ gb340) ho0 (fun k_ hk_ => ⟨(Kd.fresh' (Kd.N_lt (by (with_reducible repeat (first | apply Kd.N_alloc | apply Kd.N_drewN | apply Kd.N_drew)); exact HO_10.out)) k_ hk_), (Kd.fresh' (Kd.N_lt (by (with_reducible repeat (first | apply Kd.N_alloc | apply Kd.N_drewN | apply Kd.N_drew)); exact HO_13.out)) k_ hk_), (Kd.fresh' (Kd.R_lt (by (with_reducible repeat (first | apply Kd.R_alloc | apply Kd.R_drewN | apply Kd.R_drew)); exact HO_341000.out)) k_ hk_), (Kd.freshB (g := gb340) (o := .cells #[.slice Ao43 x341000_1.length co43, .int .i64 x341001_1] 30 (0, 0)) (by (with_reducible repeat (first | refine blk_drewN ?_ _ | refine blk_drew ?_ | refine blk_alloc ?_ _)); exact BK340.out) k_ hk_)⟩)) (below_size (by repeat (first | (with_reducible first | exact HB.out | apply below_alloc | apply pw_below_drewN | apply below_drew1 | refine below_set ?_ GE340.out) | exact HB.out))))
            have n4_ := Aside0.mk (blk_below (g := gb340) (o := .cells #[.slice Ao43 x341000_1.length co43, .int .i64 x341001_1] 30 (0, 0)) (by (with_reducible repeat (first | refine blk_drewN ?_ _ | refine blk_drew ?_ | refine blk_alloc ?_ _)); exact BK340.out) hb)
            have n5_ := Aside0.mk (below_step (by repeat (first | (with_reducible first | exact HB.out | apply below_alloc | apply pw_below_drewN | apply below_drew1 | refine below_set ?_ GE340.out) | exact HB.out)) hb)
            clear HO_10
            clear HO_13
            clear HO_341000
            clear BK340
            clear HB
            have HO_10 := n0_
            have HO_13 := n1_
            have HO_341000 := n2_
            have HO365 := n3_
            have BK340 := n4_
            have HB := n5_
            clear n0_ n1_ n2_ n3_ n4_ n5_
            (try clear hb)
            (try clear hb2)
            (try clear hk)
            (try clear hi)
            (try clear ho0)
            obtain ⟨Ao45, co45, eo45⟩ := Kd.V_slice HO365.out
            (first | subst eo45 | (injection eo45 with f1_ f2_ f3_; have f4_ := f1_.symm; have f5_ := f3_.symm; clear f1_ f2_ f3_; subst f4_; subst f5_))
            refine hK.out _ _ ⟨(blk_cell BK340.out 0).trans rfl, (blk_cell BK340.out 1).trans rfl⟩ (fun hHeld => ?_)
            clear hK K
            refine norm_ (a' := ?_) ?_ ?_
            rotate_left
            · show Act.put _ (some 73) _ = _
              simp only [Act.put, List.setIfInBounds_toArray, List.set_cons_zero, List.set_cons_succ, i64_w, i32_w]
              rfl
            refine pure_ (i := 4) (N := some 69) (v := ?_) (a' := ?_) #[true, true, true, true, true, false, false, false, false] rfl rfl (any_of HT_.out (by kernel_rfl)) (fun _ _ _ h => h) (Or.inl ⟨by rfl, ?_⟩) ?_ ?_
            rotate_left
            · intro w'
              go_simp
              with_reducible rfl
            rotate_left
            · simp only [Act.put, List.setIfInBounds_toArray, List.set_cons_zero, List.set_cons_succ, i64_w, i32_w]
              rfl
            refine pure_ (i := 5) (N := some 74) (v := ?_) (a' := ?_) #[true, true, true, true, true, true, false, false, false] rfl rfl (any_of HT_.out (by kernel_rfl)) (fun _ _ _ h => h) (Or.inl ⟨by rfl, ?_⟩) ?_ ?_
            rotate_left
            · intro w'
              go_simp
              with_reducible rfl
            rotate_left
            · simp only [Act.put, List.setIfInBounds_toArray, List.set_cons_zero, List.set_cons_succ, i64_w, i32_w]
              rfl
            refine pure_ (i := 6) (N := some 75) (v := ?_) (a' := ?_) #[true, true, true, true, true, true, true, false, false] rfl rfl (any_of HT_.out (by kernel_rfl)) (fun _ _ _ h => h) (Or.inl ⟨by rfl, ?_⟩) ?_ ?_
            rotate_left
            · intro w'
              go_simp
              with_reducible rfl
            rotate_left
            · simp only [Act.put, List.setIfInBounds_toArray, List.set_cons_zero, List.set_cons_succ, i64_w, i32_w]
              rfl
            refine last_ (i := 7) (N := none) #[true, true, true, true, true, true, true, true, false] rfl rfl (one_of HT_.out (by kernel_rfl)) (by decide) (fun K hK => ?_)
            have hs46 : w44.cell? ⟨gb340, 0, none⟩ = some (.slice Ao43 x341000_1.length co43) := (blk_cell BK340.out 0).trans rfl
            have hfs46 := blk_frozen BK340.out 0
            have hs47 : w44.cell? ⟨gb340, 1, none⟩ = some (.int .i64 x341001_1) := (blk_cell BK340.out 1).trans rfl
            have hfs47 := blk_frozen BK340.out 1
            refine skip_ (w1 := ?_) (by rfl) rfl ?_ ?_
            rotate_left
            · go_simp
              rfl
            refine hK.out _ _ ?_
            clear hK K
            refine pure_ (i := 8) (N := some 18) (v := ?_) (a' := ?_) #[true, true, true, true, true, true, true, true, true] rfl rfl (any_of HT_.out (by kernel_rfl)) (fun _ _ _ h => h) (Or.inl ⟨by rfl, ?_⟩) ?_ ?_
            rotate_left
            · intro w'
              go_simp
              with_reducible rfl
            rotate_left
            · simp only [Act.put, List.setIfInBounds_toArray, List.set_cons_zero, List.set_cons_succ, i64_w, i32_w]
              rfl
            refine done_ (done_of HT_.out (by kernel_rfl)) ?_
            have hcz48_0 : w44.cell? ⟨gb340, 0, none⟩ = some (.slice Ao43 x341000_1.length co43) := (blk_cell BK340.out 0).trans rfl
            have hcz48_1 : w44.cell? ⟨gb340, 1, none⟩ = some (.int .i64 x341001_1) := (blk_cell BK340.out 1).trans rfl
            have hfz48_0 := blk_frozen BK340.out 0
            have hfz48_1 := blk_frozen BK340.out 1
            go_upto_region 16 with (first | ((with_reducible refine gate_callee (f := 19) rfl ?_); refine goesL_ (some 78) rfl rfl Try.func19 (by kernel_rfl) rfl #[.agg #[.slice Ao45 t363.length co45, .int .i64 t366]] rfl (by (try simp only [List.map_toArray, List.map_cons, List.map_nil]); first | done | rfl | (simp only [List.length_drop, List.length_take]; rfl)) ?_; (with_reducible refine (tape_Repair.calls kj13 _ _ t363 t366 t368 t371 t372 _ ?side1 ?side2 A39.out).mono ?_); (case side1 => refine (Kd.V_reads' (e := 5) (base := w.heap.size) (ok := fun k_ => (some k_ ≠ (v337 : Value).ownBlock ∧ (some k_ ≠ (u13 : Value).ownBlock ∧ (some k_ ≠ (.slice Ao43 x341000_1.length co43 : Value).ownBlock ∧ k_ ≠ gb340)))) (n := t363.length) (c := co45) ?_).2.2; exact (by (with_reducible repeat (first | apply Kd.V_alloc | apply Kd.V_drewN | apply Kd.V_drew)); exact (Kd.V_mono (Kd.V_far (p := ⟨gb340, 1, none⟩) (Kd.V_far (p := ⟨gb340, 0, none⟩) (Kd.V_mono HO365.out (fun k_ hk => (⟨hk, hk.2.2.2⟩ : _ ∧ k_ ≠ gb340))) (fun _ hk => hk.2) (.slice Ao45 t363.length co45)) (fun _ hk => hk.2) (.int .i64 t366)) (fun _ h_ => h_.1)))); (case side2 => exact (Kd.V_reads' HO365.out).2.1); rintro e w49 ⟨v369, rfl, ho0, hb⟩; refine ⟨_, rfl, ?_⟩; have n0_ := Aside0.mk (Kd.N_elder' (by (with_reducible repeat (first | apply Kd.N_alloc | apply Kd.N_drewN | apply Kd.N_drew)); exact (Kd.N_mono (Kd.N_far (p := ⟨gb340, 1, none⟩) (Kd.N_far (p := ⟨gb340, 0, none⟩) (Kd.N_mono HO_10.out (fun k_ hk => (⟨hk, hk.2⟩ : _ ∧ k_ ≠ gb340))) (fun _ hk => hk.2) (.slice Ao45 t363.length co45)) (fun _ hk => hk.2) (.int .i64 t366)) (fun _ h_ => h_.1))) (Kd.R_base ho0) hb); have n1_ := Aside0.mk (Kd.N_elder' (by (with_reducible repeat (first | apply Kd.N_alloc | apply Kd.N_drewN | apply Kd.N_drew)); exact (Kd.N_mono (Kd.N_far (p := ⟨gb340, 1, none⟩) (Kd.N_far (p := ⟨gb340, 0, none⟩) (Kd.N_mono HO_13.out (fun k_ hk => (⟨hk, hk.2⟩ : _ ∧ k_ ≠ gb340))) (fun _ hk => hk.2) (.slice Ao45 t363.length co45)) (fun _ hk => hk.2) (.int .i64 t366)) (fun _ h_ => h_.1))) (Kd.R_base ho0) hb); have n2_ := Aside0.mk (Kd.R_elder' (by (with_reducible repeat (first | apply Kd.R_alloc | apply Kd.R_drewN | apply Kd.R_drew)); exact (Kd.R_mono (Kd.R_far (p := ⟨gb340, 1, none⟩) (Kd.R_far (p := ⟨gb340, 0, none⟩) (Kd.R_types HO_341000.out BK340.out (by decide)) (fun _ hk => hk.2) (.slice Ao45 t363.length co45)) (fun _ hk => hk.2) (.int .i64 t366)) (fun _ h_ => h_.1))) (Kd.R_base ho0) hb); have n3_ := Aside0.mk (Kd.V_elder' (by (with_reducible repeat (first | apply Kd.V_alloc | apply Kd.V_drewN | apply Kd.V_drew)); exact (Kd.V_mono (Kd.V_far (p := ⟨gb340, 1, none⟩) (Kd.V_far (p := ⟨gb340, 0, none⟩) (Kd.V_mono HO365.out (fun k_ hk => (⟨hk, hk.2.2.2⟩ : _ ∧ k_ ≠ gb340))) (fun _ hk => hk.2) (.slice Ao45 t363.length co45)) (fun _ hk => hk.2) (.int .i64 t366)) (fun _ h_ => h_.1))) (Kd.R_base ho0) hb); have n4_ := Aside0.mk (Kd.R_lower (Kd.R_new' ho0 (Kd.R_lt (by (with_reducible repeat (first | apply Kd.R_alloc | apply Kd.R_drewN | apply Kd.R_drew)); exact (Kd.R_mono (Kd.R_far (p := ⟨gb340, 1, none⟩) (Kd.R_far (p := ⟨gb340, 0, none⟩) (Kd.R_types HO_341000.out BK340.out (by decide)) (fun _ hk => hk.2) (.slice Ao45 t363.length co45)) (fun _ hk => hk.2) (.int .i64 t366)) (fun _ h_ => h_.1))))) (below_size (by repeat (first | (with_reducible first | exact HB.out | apply below_alloc | apply pw_below_drewN | apply below_drew1 | refine below_set ?_ GE340.out) | exact HB.out)))); have n5_ := Aside0.mk (blk_below (g := gb340) (o := .cells #[.slice Ao45 t363.length co45, .int .i64 t366] 30 (0, 0)) (by (with_reducible repeat (first | refine blk_drewN ?_ _ | refine blk_drew ?_ | refine blk_alloc ?_ _)); refine blk_put (cs := #[.slice Ao45 t363.length co45, .int .i64 x341001_1]) ?_ 1 _ rfl; (with_reducible repeat (first | refine blk_drewN ?_ _ | refine blk_drew ?_ | refine blk_alloc ?_ _)); refine blk_put (cs := #[.slice Ao43 x341000_1.length co43, .int .i64 x341001_1]) ?_ 0 _ rfl; (with_reducible repeat (first | refine blk_drewN ?_ _ | refine blk_drew ?_ | refine blk_alloc ?_ _)); exact BK340.out) hb); have n6_ := Aside0.mk (below_step (by repeat (first | (with_reducible first | exact HB.out | apply below_alloc | apply pw_below_drewN | apply below_drew1 | refine below_set ?_ GE340.out) | exact HB.out)) hb); clear HO_10; clear HO_13; clear HO_341000; clear HO365; clear BK340; clear HB; have HO_10 := n0_; have HO_13 := n1_; have HO_341000 := n2_; have HO365 := n3_; have HO370 := n4_; have BK340 := n5_; have HB := n6_; clear n0_ n1_ n2_ n3_ n4_ n5_ n6_; (try clear hb); (try clear hb2); (try clear hk); (try clear hi); (try clear ho0); obtain ⟨Ao50, co50, eo50⟩ := Kd.R_slice HO370.out; subst eo50; have hcz51_0 : w49.cell? ⟨gb340, 0, none⟩ = some (.slice Ao45 t363.length co45) := (blk_cell BK340.out 0).trans rfl; have hcz51_1 : w49.cell? ⟨gb340, 1, none⟩ = some (.int .i64 t366) := (blk_cell BK340.out 1).trans rfl; have hfz51_0 := blk_frozen BK340.out 0; have hfz51_1 := blk_frozen BK340.out 1) | ((with_reducible refine gate_callee (f := 15) rfl ?_); refine goesL_ (some 83) rfl rfl Try.func15 (by kernel_rfl) rfl #[.agg #[.slice Ao50 t368.length co50, .int .i64 t371]] rfl (by (try simp only [List.map_toArray, List.map_cons, List.map_nil]); first | done | rfl | (simp only [List.length_drop, List.length_take]; rfl)) ?_; (with_reducible refine (tape_Read.calls kj13 _ _ t368 t371 t373 t376 t377 _ ?side1 ?side2 A40.out).mono ?_); (case side1 => refine (Kd.R_reads' (e := 5) (base := w.heap.size) (ok := fun k_ => (True ∧ some k_ ≠ (.slice Ao43 x341000_1.length co43 : Value).ownBlock)) (n := t368.length) (c := co50) ?_).2.2; exact (by (with_reducible repeat (first | apply Kd.R_alloc | apply Kd.R_drewN | apply Kd.R_drew)); exact (Kd.R_mono (Kd.R_far (p := ⟨gb340, 1, none⟩) (Kd.R_far (p := ⟨gb340, 0, none⟩) (Kd.R_types HO370.out BK340.out (by decide)) (fun _ hk => hk.2) (.slice Ao50 t368.length co50)) (fun _ hk => hk.2) (.int .i64 t371)) (fun _ h_ => h_.1)))); (case side2 => exact (Kd.R_reads' HO370.out).2.1); rintro e w52 ⟨v374, rfl, ho0, hb⟩; refine ⟨_, rfl, ?_⟩; have n0_ := Aside0.mk (Kd.N_elder' (by (with_reducible repeat (first | apply Kd.N_alloc | apply Kd.N_drewN | apply Kd.N_drew)); exact (Kd.N_mono (Kd.N_far (p := ⟨gb340, 1, none⟩) (Kd.N_far (p := ⟨gb340, 0, none⟩) (Kd.N_mono HO_10.out (fun k_ hk => (⟨hk, hk.1.2⟩ : _ ∧ k_ ≠ gb340))) (fun _ hk => hk.2) (.slice Ao50 t368.length co50)) (fun _ hk => hk.2) (.int .i64 t371)) (fun _ h_ => h_.1))) (by first | exact Kd.N_base ho0 | exact Kd.S_base ho0 | exact Kd.R_base ho0) hb); have n1_ := Aside0.mk (Kd.N_elder' (by (with_reducible repeat (first | apply Kd.N_alloc | apply Kd.N_drewN | apply Kd.N_drew)); exact (Kd.N_mono (Kd.N_far (p := ⟨gb340, 1, none⟩) (Kd.N_far (p := ⟨gb340, 0, none⟩) (Kd.N_mono HO_13.out (fun k_ hk => (⟨hk, hk.1.2⟩ : _ ∧ k_ ≠ gb340))) (fun _ hk => hk.2) (.slice Ao50 t368.length co50)) (fun _ hk => hk.2) (.int .i64 t371)) (fun _ h_ => h_.1))) (by first | exact Kd.N_base ho0 | exact Kd.S_base ho0 | exact Kd.R_base ho0) hb); have n2_ := Aside0.mk (Kd.R_below (by (with_reducible repeat (first | apply Kd.R_alloc | apply Kd.R_drewN | apply Kd.R_drew)); exact (Kd.R_mono (Kd.R_far (p := ⟨gb340, 1, none⟩) (Kd.R_far (p := ⟨gb340, 0, none⟩) (Kd.R_types HO_341000.out BK340.out (by decide)) (fun _ hk => hk.2) (.slice Ao50 t368.length co50)) (fun _ hk => hk.2) (.int .i64 t371)) (fun _ h_ => h_.1))) hb); have n3_ := Aside0.mk (Kd.V_elder' (by (with_reducible repeat (first | apply Kd.V_alloc | apply Kd.V_drewN | apply Kd.V_drew)); exact (Kd.V_mono (Kd.V_far (p := ⟨gb340, 1, none⟩) (Kd.V_far (p := ⟨gb340, 0, none⟩) (Kd.V_mono HO365.out (fun k_ hk => (⟨hk, hk.1.2.2.2⟩ : _ ∧ k_ ≠ gb340))) (fun _ hk => hk.2) (.slice Ao50 t368.length co50)) (fun _ hk => hk.2) (.int .i64 t371)) (fun _ h_ => h_.1))) (by first | exact Kd.N_base ho0 | exact Kd.S_base ho0 | exact Kd.R_base ho0) hb); have n4_ := Aside0.mk (Kd.R_below (by (with_reducible repeat (first | apply Kd.R_alloc | apply Kd.R_drewN | apply Kd.R_drew)); exact (Kd.R_mono (Kd.R_far (p := ⟨gb340, 1, none⟩) (Kd.R_far (p := ⟨gb340, 0, none⟩) (Kd.R_types HO370.out BK340.out (by decide)) (fun _ hk => hk.2) (.slice Ao50 t368.length co50)) (fun _ hk => hk.2) (.int .i64 t371)) (fun _ h_ => h_.1))) hb); have n5_ := Aside0.mk (Kd.N_lower (Kd.N_mono (ok' := fun k_ => some k_ ≠ (v337 : Value).ownBlock ∧ some k_ ≠ (u13 : Value).ownBlock ∧ some k_ ≠ (.slice Ao43 x341000_1.length co43 : Value).ownBlock ∧ some k_ ≠ (.slice Ao50 t368.length co50 : Value).ownBlock ∧ k_ ≠ gb340) (Kd.S_N (Kd.S_bound ho0)) (fun k_ hk_ => ⟨(Kd.fresh' (Kd.N_lt (by (with_reducible repeat (first | apply Kd.N_alloc | apply Kd.N_drewN | apply Kd.N_drew)); exact (Kd.N_mono (Kd.N_far (p := ⟨gb340, 1, none⟩) (Kd.N_far (p := ⟨gb340, 0, none⟩) (Kd.N_mono HO_10.out (fun k_ hk => (⟨hk, hk.1.2⟩ : _ ∧ k_ ≠ gb340))) (fun _ hk => hk.2) (.slice Ao50 t368.length co50)) (fun _ hk => hk.2) (.int .i64 t371)) (fun _ h_ => h_.1)))) k_ hk_.2.1), (Kd.fresh' (Kd.N_lt (by (with_reducible repeat (first | apply Kd.N_alloc | apply Kd.N_drewN | apply Kd.N_drew)); exact (Kd.N_mono (Kd.N_far (p := ⟨gb340, 1, none⟩) (Kd.N_far (p := ⟨gb340, 0, none⟩) (Kd.N_mono HO_13.out (fun k_ hk => (⟨hk, hk.1.2⟩ : _ ∧ k_ ≠ gb340))) (fun _ hk => hk.2) (.slice Ao50 t368.length co50)) (fun _ hk => hk.2) (.int .i64 t371)) (fun _ h_ => h_.1)))) k_ hk_.2.1), (Kd.fresh' (Kd.R_lt (by (with_reducible repeat (first | apply Kd.R_alloc | apply Kd.R_drewN | apply Kd.R_drew)); exact (Kd.R_mono (Kd.R_far (p := ⟨gb340, 1, none⟩) (Kd.R_far (p := ⟨gb340, 0, none⟩) (Kd.R_types HO_341000.out BK340.out (by decide)) (fun _ hk => hk.2) (.slice Ao50 t368.length co50)) (fun _ hk => hk.2) (.int .i64 t371)) (fun _ h_ => h_.1)))) k_ hk_.2.1), (Kd.fresh' (Kd.R_lt (by (with_reducible repeat (first | apply Kd.R_alloc | apply Kd.R_drewN | apply Kd.R_drew)); exact (Kd.R_mono (Kd.R_far (p := ⟨gb340, 1, none⟩) (Kd.R_far (p := ⟨gb340, 0, none⟩) (Kd.R_types HO370.out BK340.out (by decide)) (fun _ hk => hk.2) (.slice Ao50 t368.length co50)) (fun _ hk => hk.2) (.int .i64 t371)) (fun _ h_ => h_.1)))) k_ hk_.2.1), (Kd.freshB (g := gb340) (o := .cells #[.slice Ao50 t368.length co50, .int .i64 t371] 30 (0, 0)) (by (with_reducible repeat (first | refine blk_drewN ?_ _ | refine blk_drew ?_ | refine blk_alloc ?_ _)); refine blk_put (cs := #[.slice Ao50 t368.length co50, .int .i64 t366]) ?_ 1 _ rfl; (with_reducible repeat (first | refine blk_drewN ?_ _ | refine blk_drew ?_ | refine blk_alloc ?_ _)); refine blk_put (cs := #[.slice Ao45 t363.length co45, .int .i64 t366]) ?_ 0 _ rfl; (with_reducible repeat (first | refine blk_drewN ?_ _ | refine blk_drew ?_ | refine blk_alloc ?_ _)); exact BK340.out) k_ hk_.2.1)⟩)) (below_size (by repeat (first | (with_reducible first | exact HB.out | apply below_alloc | apply pw_below_drewN | apply below_drew1 | refine below_set ?_ GE340.out) | exact HB.out)))); have n6_ := Aside0.mk (blk_below (g := gb340) (o := .cells #[.slice Ao50 t368.length co50, .int .i64 t371] 30 (0, 0)) (by (with_reducible repeat (first | refine blk_drewN ?_ _ | refine blk_drew ?_ | refine blk_alloc ?_ _)); refine blk_put (cs := #[.slice Ao50 t368.length co50, .int .i64 t366]) ?_ 1 _ rfl; (with_reducible repeat (first | refine blk_drewN ?_ _ | refine blk_drew ?_ | refine blk_alloc ?_ _)); refine blk_put (cs := #[.slice Ao45 t363.length co45, .int .i64 t366]) ?_ 0 _ rfl; (with_reducible repeat (first | refine blk_drewN ?_ _ | refine blk_drew ?_ | refine blk_alloc ?_ _)); exact BK340.out) hb); have n7_ := Aside0.mk (below_step (by repeat (first | (with_reducible first | exact HB.out | apply below_alloc | apply pw_below_drewN | apply below_drew1 | refine below_set ?_ GE340.out) | exact HB.out)) hb); clear HO_10; clear HO_13; clear HO_341000; clear HO365; clear HO370; clear BK340; clear HB; have HO_10 := n0_; have HO_13 := n1_; have HO_341000 := n2_; have HO365 := n3_; have HO370 := n4_; have HO375 := n5_; have BK340 := n6_; have HB := n7_; clear n0_ n1_ n2_ n3_ n4_ n5_ n6_ n7_; (try clear hb); (try clear hb2); (try clear hk); (try clear hi); (try clear ho0)))
            (try simp only [Act.put, List.setIfInBounds_toArray, List.set_cons_zero, List.set_cons_succ])
            go_cut [134] (fun v134 wc => ∃ (kq : Nat) (x134_40 : Bool), v134 = .bool x134_40 ∧ Aside0 (foretellkeep_TapeKeeps.j2 kq l3 t373 x134_40 t368 t371 = some r) ∧ Aside0 (kq ≤ kj13) ∧ Aside0 (Kd.N (Kd.slice 3 (Kd.int .i64)) 27 wc w.heap.size (fun k_ => some k_ ≠ ((.slice Ao50 t368.length co50) : Value).ownBlock ∧ k_ ≠ gb340) v374 t373) ∧ Aside0 (Kd.R (Kd.int .u8) 5 wc w.heap.size (fun _ => True) (.slice Ao50 t368.length co50) t368) ∧ Aside0 (wc.heap[gb340]? = some (.cells #[(.slice Ao50 t368.length co50), .int .i64 t371] 30 (0, 0))) ∧ Aside0 (Below w.heap.size w wc))
            case first =>
              have H := HC41.out
              clear HC41
              by_cases c53 : t339 = true
              · subst c53
                have H1 : (if t345 = 0 then (if t367 = 0 then (if t372 = 0 then (if t377 = 0 then (if (t373.length : Int) < (t336.length : Int) then (foretellkeep_TapeKeeps.j2 kj13 l3 t373 true t368 t371) else (if (t373.length : Int) > (x13_1.length : Int) then (foretellkeep_TapeKeeps.j2 kj13 l3 t373 true t368 t371) else (if t376 = (t368.length : Int) then (if 0 ≤ (t373.length : Int) then (if (t373.length : Int) ≤ (x13_1.length : Int) then ((foretellkeep_sameLists.f kj13 t373 (x13_1.take ((t373.length : Int) : Int).toNat)).bind fun t383 => (foretellkeep_TapeKeeps.j2 kj13 l3 t373 (!t383) t368 t371)) else (none)) else (none)) else (foretellkeep_TapeKeeps.j2 kj13 l3 t373 true t368 t371)))) else (foretellkeep_TapeKeeps.j2 kj13 l3 t373 true t368 t371)) else (foretellkeep_TapeKeeps.j2 kj13 l3 t373 true t368 t371)) else (foretellkeep_TapeKeeps.j2 kj13 l3 t373 true t368 t371)) else (foretellkeep_TapeKeeps.j2 kj13 l3 t373 true t368 t371)) = some r := by rw [if_pos rfl] at H; exact H
                clear H
                have H := H1
                clear H1
                by_cases c54 : t345 = 0
                · rw [if_pos c54] at H
                  have c54b0 : (t345 == 0) = true := beq_iff_eq.mpr c54
                  have c54b1 : (t345 != 0) = false := bne_eq_false_iff_eq.mpr c54
                  clear c54
                  (first | rw [c54b0] | (simp only [i64_w, i32_w]; rw [c54b0]) | skip)
                  by_cases c55 : t367 = 0
                  · rw [if_pos c55] at H
                    have c55b0 : (t367 == 0) = true := beq_iff_eq.mpr c55
                    have c55b1 : (t367 != 0) = false := bne_eq_false_iff_eq.mpr c55
                    clear c55
                    by_cases c56 : t372 = 0
                    · rw [if_pos c56] at H
                      have c56b0 : (t372 == 0) = true := beq_iff_eq.mpr c56
                      have c56b1 : (t372 != 0) = false := bne_eq_false_iff_eq.mpr c56
                      clear c56
                      by_cases c57 : t377 = 0
                      · rw [if_pos c57] at H
                        have c57b0 : (t377 == 0) = true := beq_iff_eq.mpr c57
                        have c57b1 : (t377 != 0) = false := bne_eq_false_iff_eq.mpr c57
                        clear c57
                        by_cases c58 : (t373.length : Int) < (t336.length : Int)
                        · rw [if_pos c58] at H
                          have c58b0 : decide ((t373.length : Int) < (t336.length : Int)) = true := decide_eq_true c58
                          have c58b1 : decide (t373.length < t336.length) = true := decide_eq_true (Int.ofNat_lt.mp c58)
                          clear c58
                          have H' := Aside0.mk H
                          clear H
                          obtain ⟨Ao59, co59, eo59⟩ := Kd.N_slice HO375.out
                          subst eo59
                          obtain ⟨Ao60, co60, eo60⟩ := Kd.N_slice HO_10.out
                          subst eo60
                          go_wp2
                          go_meet
                          case rel => exact ⟨_, (true), (by first | rfl | (simp; done) | (simp [*]; done)), H', ⟨by have := HK1.out; have := HJ13.out; first | omega | exact Nat.le_refl _⟩, ⟨by (with_reducible repeat (first | apply Kd.N_alloc | apply Kd.N_drewN | apply Kd.N_drew)); exact Kd.N_mono HO375.out (fun _ hk => ⟨hk.2.2.2.1, hk.2.2.2.2⟩)⟩, ⟨by (with_reducible repeat (first | apply Kd.R_alloc | apply Kd.R_drewN | apply Kd.R_drew)); exact Kd.R_mono HO370.out (fun _ hk => trivial)⟩, ⟨by (with_reducible repeat (first | refine blk_drewN ?_ _ | refine blk_drew ?_ | refine blk_alloc ?_ _)); exact BK340.out⟩, ⟨by repeat (first | (with_reducible first | exact HB.out | apply below_alloc | apply pw_below_drewN | apply below_drew1 | refine below_set ?_ GE340.out) | exact HB.out)⟩⟩
                        · rw [if_neg c58] at H
                          have c58b0 : decide ((t373.length : Int) < (t336.length : Int)) = false := decide_eq_false c58
                          have c58b1 : decide (t373.length < t336.length) = false := decide_eq_false (fun h => c58 (Int.ofNat_lt.mpr h))
                          clear c58
                          by_cases c61 : (t373.length : Int) > (x13_1.length : Int)
                          · rw [if_pos c61] at H
                            have c61b0 : decide ((x13_1.length : Int) < (t373.length : Int)) = true := decide_eq_true c61
                            have c61b1 : decide (x13_1.length < t373.length) = true := decide_eq_true (Int.ofNat_lt.mp c61)
                            clear c61
                            have H' := Aside0.mk H
                            clear H
                            obtain ⟨Ao62, co62, eo62⟩ := Kd.N_slice HO375.out
                            subst eo62
                            obtain ⟨Ao63, co63, eo63⟩ := Kd.N_slice HO_10.out
                            subst eo63
                            obtain ⟨Ao64, co64, eo64⟩ := Kd.N_slice HO_13.out
                            subst eo64
                            go_wp2
                            go_meet
                            case rel => exact ⟨_, (true), (by first | rfl | (simp; done) | (simp [*]; done)), H', ⟨by have := HK1.out; have := HJ13.out; first | omega | exact Nat.le_refl _⟩, ⟨by (with_reducible repeat (first | apply Kd.N_alloc | apply Kd.N_drewN | apply Kd.N_drew)); exact Kd.N_mono HO375.out (fun _ hk => ⟨hk.2.2.2.1, hk.2.2.2.2⟩)⟩, ⟨by (with_reducible repeat (first | apply Kd.R_alloc | apply Kd.R_drewN | apply Kd.R_drew)); exact Kd.R_mono HO370.out (fun _ hk => trivial)⟩, ⟨by (with_reducible repeat (first | refine blk_drewN ?_ _ | refine blk_drew ?_ | refine blk_alloc ?_ _)); exact BK340.out⟩, ⟨by repeat (first | (with_reducible first | exact HB.out | apply below_alloc | apply pw_below_drewN | apply below_drew1 | refine below_set ?_ GE340.out) | exact HB.out)⟩⟩
                          · rw [if_neg c61] at H
                            have c61b0 : decide ((x13_1.length : Int) < (t373.length : Int)) = false := decide_eq_false c61
                            have c61b1 : decide (x13_1.length < t373.length) = false := decide_eq_false (fun h => c61 (Int.ofNat_lt.mpr h))
                            clear c61
                            by_cases c65 : t376 = (t368.length : Int)
                            · rw [if_pos c65] at H
                              have c65b0 : (t376 == (t368.length : Int)) = true := beq_iff_eq.mpr c65
                              have c65b1 : (t376 != (t368.length : Int)) = false := bne_eq_false_iff_eq.mpr c65
                              clear c65
                              by_cases c66 : 0 ≤ (t373.length : Int)
                              · rw [if_pos c66] at H
                                have c66b0 := eq_true c66
                                have c66b1 : decide (0 ≤ (t373.length : Int)) = true := decide_eq_true c66
                                clear c66
                                by_cases c67 : (t373.length : Int) ≤ (x13_1.length : Int)
                                · rw [if_pos c67] at H
                                  have c67b0 := eq_true c67
                                  have c67b1 : decide ((t373.length : Int) ≤ (x13_1.length : Int)) = true := decide_eq_true c67
                                  clear c67
                                  obtain ⟨y378, hy378⟩ : ∃ y_ : List (List Int), y_ = (x13_1.take ((t373.length : Int) : Int).toNat) := ⟨_, rfl⟩
                                  replace H : ((foretellkeep_sameLists.f kj13 t373 y378).bind fun t383 => (foretellkeep_TapeKeeps.j2 kj13 l3 t373 (!t383) t368 t371)) = some r := by first | (rw [hy378]; with_reducible exact H) | (have H2_ := (Option.bind_some _ _).symm.trans H; rw [hy378]; with_reducible exact H2_) | (have H2_ := (Option.bind_some _ _).symm.trans H; with_reducible exact H2_) | with_reducible exact H | (rw [hy378]; exact H) | exact H
                                  have Ny378 := Aside0.mk hy378
                                  clear hy378
                                  replace H := Option.bind_eq_some_iff.mp H
                                  obtain ⟨t383, A680, H⟩ := H
                                  replace H : (foretellkeep_TapeKeeps.j2 kj13 l3 t373 (!t383) t368 t371) = some r := H
                                  have A68 := Aside0.mk A680
                                  clear A680
                                  have H' := Aside0.mk H
                                  clear H
                                  obtain ⟨Ao69, co69, eo69⟩ := Kd.N_slice HO375.out
                                  subst eo69
                                  obtain ⟨Ao70, co70, eo70⟩ := Kd.N_slice HO_10.out
                                  subst eo70
                                  obtain ⟨Ao71, co71, eo71⟩ := Kd.N_slice HO_13.out
                                  subst eo71
                                  have hcz72_0 : w52.cell? ⟨gb340, 0, none⟩ = some (.slice Ao50 t368.length co50) := (blk_cell BK340.out 0).trans rfl
                                  have hcz72_1 : w52.cell? ⟨gb340, 1, none⟩ = some (.int .i64 t371) := (blk_cell BK340.out 1).trans rfl
                                  have hfz72_0 := blk_frozen BK340.out 0
                                  have hfz72_1 := blk_frozen BK340.out 1
                                  have q73 : ((t373.length : Int) : Int) ≤ ((x13_1.length : Int) : Int) := of_decide_eq_true (by first | (with_reducible assumption) | assumption)
                                  obtain ⟨i073, hi073, _, hsz73, _⟩ := info_parts info27
                                  have hroom73 : x13_1.length ≤ co71 := (Kd.N_reads' HO_13.out).2.1
                                  have hC73 : Kd.F (Kd.slice 3 (Kd.int .i64)) _ _ Ao71 x13_1.length x13_1 := (Kd.V_at (base := w.heap.size) (Kd.N_V HO_13.out)).2.2
                                  have hcut73 := cut_to (P := Try.prog) 35 27 .i64 Try.underlying35 hi073 Ao71 x13_1.length co71 (t373.length : Int) (of_decide_eq_true (by first | (with_reducible assumption) | assumption)) q73 hroom73
                                  have hr73 := Kd.F_take (m := ((t373.length : Int) : Int).toNat) hC73 (by omega)
                                  have hy73 : y378.length = ((t373.length : Int) : Int).toNat := (by rw [Ny378.out, List.length_take]; omega)
                                  rw [← Ny378.out] at hr73
                                  rw [← hy73] at hcut73
                                  have HO382 := Aside0.mk (show Kd.V (Kd.slice 3 (Kd.int .i64)) 27 _ w.heap.size _ (.slice Ao71 y378.length co71) y378 from Kd.V_mk (by omega) hr73)
                                  have HC382 := Aside0.mk (show y378.length ≤ co71 from by omega)
                                  clear hr73 hC73 hroom73 hi073 hsz73
                                  have KY73 := Aside0.mk hy73
                                  clear hy73
                                  replace q73 := eq_true q73
                                  go_wp2_with (first | (go_at_call 16; (with_reducible refine (foretellkeep_sameLists.calls kj13 _ _ t373 _ _ y378 t383 _ ?side1 ?side2 ?side3 ?side4 A68.out).mono ?_); (case side1 => repeat (first | exact (Kd.N_reads' HO375.out).2.2 | (with_reducible refine Kd.C_alloc ?_ _) | (with_reducible refine Kd.C_drewN ?_ _) | (with_reducible refine Kd.C_drew ?_))); (case side2 => exact (Kd.N_reads' HO375.out).2.1); (case side3 => repeat (first | exact (Kd.V_reads' HO382.out).2.2 | (with_reducible refine Kd.C_alloc ?_ _) | (with_reducible refine Kd.C_drewN ?_ _) | (with_reducible refine Kd.C_drew ?_))); (case side4 => exact (Kd.V_reads' HO382.out).2.1); rintro e w' ⟨rfl, ⟨nd, rfl⟩⟩))
                                  go_meet
                                  case rel => exact ⟨_, (!t383), (by first | rfl | (simp; done) | (simp [*]; done)), H', ⟨by have := HK1.out; have := HJ13.out; first | omega | exact Nat.le_refl _⟩, ⟨by (with_reducible repeat (first | apply Kd.N_alloc | apply Kd.N_drewN | apply Kd.N_drew)); exact Kd.N_mono HO375.out (fun _ hk => ⟨hk.2.2.2.1, hk.2.2.2.2⟩)⟩, ⟨by (with_reducible repeat (first | apply Kd.R_alloc | apply Kd.R_drewN | apply Kd.R_drew)); exact Kd.R_mono HO370.out (fun _ hk => trivial)⟩, ⟨by (with_reducible repeat (first | refine blk_drewN ?_ _ | refine blk_drew ?_ | refine blk_alloc ?_ _)); exact BK340.out⟩, ⟨by repeat (first | (with_reducible first | exact HB.out | apply below_alloc | apply pw_below_drewN | apply below_drew1 | refine below_set ?_ GE340.out) | exact HB.out)⟩⟩
                                · rw [if_neg c67] at H
                                  exact absurd H (by simp)
                              · rw [if_neg c66] at H
                                exact absurd H (by simp)
                            · rw [if_neg c65] at H
                              have c65b0 : (t376 == (t368.length : Int)) = false := beq_eq_false_iff_ne.mpr c65
                              have c65b1 : (t376 != (t368.length : Int)) = true := bne_iff_ne.mpr c65
                              have H' := Aside0.mk H
                              clear H
                              obtain ⟨Ao74, co74, eo74⟩ := Kd.N_slice HO375.out
                              subst eo74
                              obtain ⟨Ao75, co75, eo75⟩ := Kd.N_slice HO_10.out
                              subst eo75
                              obtain ⟨Ao76, co76, eo76⟩ := Kd.N_slice HO_13.out
                              subst eo76
                              have hcz77_0 : w52.cell? ⟨gb340, 0, none⟩ = some (.slice Ao50 t368.length co50) := (blk_cell BK340.out 0).trans rfl
                              have hcz77_1 : w52.cell? ⟨gb340, 1, none⟩ = some (.int .i64 t371) := (blk_cell BK340.out 1).trans rfl
                              have hfz77_0 := blk_frozen BK340.out 0
                              have hfz77_1 := blk_frozen BK340.out 1
                              go_wp2
                              go_meet
                              case rel => exact ⟨_, (true), (by first | rfl | (simp; done) | (simp [*]; done)), H', ⟨by have := HK1.out; have := HJ13.out; first | omega | exact Nat.le_refl _⟩, ⟨by (with_reducible repeat (first | apply Kd.N_alloc | apply Kd.N_drewN | apply Kd.N_drew)); exact Kd.N_mono HO375.out (fun _ hk => ⟨hk.2.2.2.1, hk.2.2.2.2⟩)⟩, ⟨by (with_reducible repeat (first | apply Kd.R_alloc | apply Kd.R_drewN | apply Kd.R_drew)); exact Kd.R_mono HO370.out (fun _ hk => trivial)⟩, ⟨by (with_reducible repeat (first | refine blk_drewN ?_ _ | refine blk_drew ?_ | refine blk_alloc ?_ _)); exact BK340.out⟩, ⟨by repeat (first | (with_reducible first | exact HB.out | apply below_alloc | apply pw_below_drewN | apply below_drew1 | refine below_set ?_ GE340.out) | exact HB.out)⟩⟩
                      · rw [if_neg c57] at H
                        have c57b0 : (t377 == 0) = false := beq_eq_false_iff_ne.mpr c57
                        have c57b1 : (t377 != 0) = true := bne_iff_ne.mpr c57
                        have H' := Aside0.mk H
                        clear H
                        go_wp2
                        go_meet
                        case rel => exact ⟨_, (true), (by first | rfl | (simp; done) | (simp [*]; done)), H', ⟨by have := HK1.out; have := HJ13.out; first | omega | exact Nat.le_refl _⟩, ⟨by (with_reducible repeat (first | apply Kd.N_alloc | apply Kd.N_drewN | apply Kd.N_drew)); exact Kd.N_mono HO375.out (fun _ hk => ⟨hk.2.2.2.1, hk.2.2.2.2⟩)⟩, ⟨by (with_reducible repeat (first | apply Kd.R_alloc | apply Kd.R_drewN | apply Kd.R_drew)); exact Kd.R_mono HO370.out (fun _ hk => trivial)⟩, ⟨by (with_reducible repeat (first | refine blk_drewN ?_ _ | refine blk_drew ?_ | refine blk_alloc ?_ _)); exact BK340.out⟩, ⟨by repeat (first | (with_reducible first | exact HB.out | apply below_alloc | apply pw_below_drewN | apply below_drew1 | refine below_set ?_ GE340.out) | exact HB.out)⟩⟩
                    · rw [if_neg c56] at H
                      have c56b0 : (t372 == 0) = false := beq_eq_false_iff_ne.mpr c56
                      have c56b1 : (t372 != 0) = true := bne_iff_ne.mpr c56
                      have H' := Aside0.mk H
                      clear H
                      go_wp2
                      go_meet
                      case rel => exact ⟨_, (true), (by first | rfl | (simp; done) | (simp [*]; done)), H', ⟨by have := HK1.out; have := HJ13.out; first | omega | exact Nat.le_refl _⟩, ⟨by (with_reducible repeat (first | apply Kd.N_alloc | apply Kd.N_drewN | apply Kd.N_drew)); exact Kd.N_mono HO375.out (fun _ hk => ⟨hk.2.2.2.1, hk.2.2.2.2⟩)⟩, ⟨by (with_reducible repeat (first | apply Kd.R_alloc | apply Kd.R_drewN | apply Kd.R_drew)); exact Kd.R_mono HO370.out (fun _ hk => trivial)⟩, ⟨by (with_reducible repeat (first | refine blk_drewN ?_ _ | refine blk_drew ?_ | refine blk_alloc ?_ _)); exact BK340.out⟩, ⟨by repeat (first | (with_reducible first | exact HB.out | apply below_alloc | apply pw_below_drewN | apply below_drew1 | refine below_set ?_ GE340.out) | exact HB.out)⟩⟩
                  · rw [if_neg c55] at H
                    have c55b0 : (t367 == 0) = false := beq_eq_false_iff_ne.mpr c55
                    have c55b1 : (t367 != 0) = true := bne_iff_ne.mpr c55
                    have H' := Aside0.mk H
                    clear H
                    go_wp2
                    go_meet
                    case rel => exact ⟨_, (true), (by first | rfl | (simp; done) | (simp [*]; done)), H', ⟨by have := HK1.out; have := HJ13.out; first | omega | exact Nat.le_refl _⟩, ⟨by (with_reducible repeat (first | apply Kd.N_alloc | apply Kd.N_drewN | apply Kd.N_drew)); exact Kd.N_mono HO375.out (fun _ hk => ⟨hk.2.2.2.1, hk.2.2.2.2⟩)⟩, ⟨by (with_reducible repeat (first | apply Kd.R_alloc | apply Kd.R_drewN | apply Kd.R_drew)); exact Kd.R_mono HO370.out (fun _ hk => trivial)⟩, ⟨by (with_reducible repeat (first | refine blk_drewN ?_ _ | refine blk_drew ?_ | refine blk_alloc ?_ _)); exact BK340.out⟩, ⟨by repeat (first | (with_reducible first | exact HB.out | apply below_alloc | apply pw_below_drewN | apply below_drew1 | refine below_set ?_ GE340.out) | exact HB.out)⟩⟩
                · rw [if_neg c54] at H
                  have c54b0 : (t345 == 0) = false := beq_eq_false_iff_ne.mpr c54
                  have c54b1 : (t345 != 0) = true := bne_iff_ne.mpr c54
                  (first | rw [c54b0] | (simp only [i64_w, i32_w]; rw [c54b0]) | skip)
                  have H' := Aside0.mk H
                  clear H
                  go_wp2
                  go_meet
                  case rel => exact ⟨_, (true), (by first | rfl | (simp; done) | (simp [*]; done)), H', ⟨by have := HK1.out; have := HJ13.out; first | omega | exact Nat.le_refl _⟩, ⟨by (with_reducible repeat (first | apply Kd.N_alloc | apply Kd.N_drewN | apply Kd.N_drew)); exact Kd.N_mono HO375.out (fun _ hk => ⟨hk.2.2.2.1, hk.2.2.2.2⟩)⟩, ⟨by (with_reducible repeat (first | apply Kd.R_alloc | apply Kd.R_drewN | apply Kd.R_drew)); exact Kd.R_mono HO370.out (fun _ hk => trivial)⟩, ⟨by (with_reducible repeat (first | refine blk_drewN ?_ _ | refine blk_drew ?_ | refine blk_alloc ?_ _)); exact BK340.out⟩, ⟨by repeat (first | (with_reducible first | exact HB.out | apply below_alloc | apply pw_below_drewN | apply below_drew1 | refine below_set ?_ GE340.out) | exact HB.out)⟩⟩
              · replace c53 := Bool.eq_false_iff.mpr c53
                subst c53
                have H1 : (foretellkeep_TapeKeeps.j2 kj13 l3 t373 true t368 t371) = some r := by rw [if_neg (show ¬ (false = true) by decide)] at H; exact H
                clear H
                have H := H1
                clear H1
                have H' := Aside0.mk H
                clear H
                go_wp2
                go_meet
                case rel => exact ⟨_, (true), (by first | rfl | (simp; done) | (simp [*]; done)), H', ⟨by have := HK1.out; have := HJ13.out; first | omega | exact Nat.le_refl _⟩, ⟨by (with_reducible repeat (first | apply Kd.N_alloc | apply Kd.N_drewN | apply Kd.N_drew)); exact Kd.N_mono HO375.out (fun _ hk => ⟨hk.2.2.2.1, hk.2.2.2.2⟩)⟩, ⟨by (with_reducible repeat (first | apply Kd.R_alloc | apply Kd.R_drewN | apply Kd.R_drew)); exact Kd.R_mono HO370.out (fun _ hk => trivial)⟩, ⟨by (with_reducible repeat (first | refine blk_drewN ?_ _ | refine blk_drew ?_ | refine blk_alloc ?_ _)); exact BK340.out⟩, ⟨by repeat (first | (with_reducible first | exact HB.out | apply below_alloc | apply pw_below_drewN | apply below_drew1 | refine below_set ?_ GE340.out) | exact HB.out)⟩⟩
            case rest =>
              clear HC41
              try clear c1
              try clear c2
              try clear p2
              try clear c3
              try clear p3
              try clear q3
              try clear hx3
              try clear c5
              try clear c6
              try clear p6
              try clear c7
              try clear q7
              try clear c11
              try clear c12
              try clear c13
              try clear c14
              try clear c15
              try clear c15b0
              try clear c16
              try clear c17
              try clear c17b0
              try clear c18
              try clear c18b0
              try clear c19
              try clear c21
              try clear c21b0
              try clear c21b1
              try clear c22
              try clear c23
              try clear c31
              try clear c34
              try clear p34
              try clear q34
              try clear hx34
              try clear c53
              try clear c54
              try clear c54b0
              try clear c54b1
              try clear c55
              try clear c55b0
              try clear c55b1
              try clear c56
              try clear c56b0
              try clear c56b1
              try clear c57
              try clear c57b0
              try clear c57b1
              try clear c58
              try clear c58b0
              try clear c58b1
              try clear c61
              try clear c61b0
              try clear c61b1
              try clear p64
              try clear c65
              try clear c65b0
              try clear c65b1
              try clear c66
              try clear c66b0
              try clear c66b1
              try clear c67
              try clear c67b0
              try clear c67b1
              try clear q73
              try clear hcz10_0
              try clear hcz10_1
              try clear hcz13_0
              try clear hcz13_1
              try clear hcz25_0
              try clear hcz25_1
              try clear hcz32_0
              try clear hcz32_1
              try clear hcz33_0
              try clear hcz33_1
              try clear hcz48_0
              try clear hcz48_1
              try clear hcz51_0
              try clear hcz51_1
              try clear hcz72_0
              try clear hcz72_1
              try clear hcz77_0
              try clear hcz77_1
              try clear hfz10_0
              try clear hfz10_1
              try clear hfz13_0
              try clear hfz13_1
              try clear hfz25_0
              try clear hfz25_1
              try clear hfz32_0
              try clear hfz32_1
              try clear hfz33_0
              try clear hfz33_1
              try clear hfz48_0
              try clear hfz48_1
              try clear hfz51_0
              try clear hfz51_1
              try clear hfz72_0
              try clear hfz72_1
              try clear hfz77_0
              try clear hfz77_1
              try clear hx346_0
              try clear p2
              try clear p346
              try clear q346
              try clear q73
              obtain ⟨kq, x134_40, rfl, HA, HJ40, HO_20, HO_341000, BK340, HB⟩ := hcut
              cases kq with
              | zero => exact absurd HA.out (by simp [foretellkeep_TapeKeeps.j2])
              | succ kj40 =>
                have H := HA.out
                clear HA
                simp only [foretellkeep_TapeKeeps.j2] at H
                by_cases c78 : x134_40 = true
                · subst c78
                  have H1 : (some false) = some r := by rw [if_pos rfl] at H; exact H
                  clear H
                  have H := H1
                  clear H1
                  exact absurd ((Option.some.inj H).trans hr_.out) (by decide)
                · replace c78 := Bool.eq_false_iff.mpr c78
                  subst c78
                  have H1 : ((foretellkeep_record.f kj40 l3).bind fun t384 => ((tape_Write.f kj40 t368 t371 t384).bind fun bt387 => ((tape_Read.f kj40 bt387.1 bt387.2.1).bind fun bt392 => (if bt387.2.2 = 0 then (if bt392.2.2 = 0 then (if (bt392.1.length : Int) = (wrap64 ((t373.length : Int) + 1)) then (if 0 ≤ (t373.length : Int) then (if (t373.length : Int) ≤ (bt392.1.length : Int) then ((foretellkeep_sameLists.f kj40 (bt392.1.take ((t373.length : Int) : Int).toNat) t373).bind fun t402 => (if t402 = true then (if (t373.length : Int) < (bt392.1.length : Int) then ((foretellkeep_sameInts.f kj40 (rd_L3 bt392.1 (t373.length : Int)) t384).bind fun t404 => (some t404)) else (none)) else (some false))) else (none)) else (none)) else (some false)) else (some false)) else (some false))))) = some r := by rw [if_neg (show ¬ (false = true) by decide)] at H; exact H
                  clear H
                  have H := H1
                  clear H1
                  replace H := Option.bind_eq_some_iff.mp H
                  obtain ⟨t384, A790, H⟩ := H
                  replace H : ((tape_Write.f kj40 t368 t371 t384).bind fun bt387 => ((tape_Read.f kj40 bt387.1 bt387.2.1).bind fun bt392 => (if bt387.2.2 = 0 then (if bt392.2.2 = 0 then (if (bt392.1.length : Int) = (wrap64 ((t373.length : Int) + 1)) then (if 0 ≤ (t373.length : Int) then (if (t373.length : Int) ≤ (bt392.1.length : Int) then ((foretellkeep_sameLists.f kj40 (bt392.1.take ((t373.length : Int) : Int).toNat) t373).bind fun t402 => (if t402 = true then (if (t373.length : Int) < (bt392.1.length : Int) then ((foretellkeep_sameInts.f kj40 (rd_L3 bt392.1 (t373.length : Int)) t384).bind fun t404 => (some t404)) else (none)) else (some false))) else (none)) else (none)) else (some false)) else (some false)) else (some false)))) = some r := H
                  have A79 := Aside0.mk A790
                  clear A790
                  replace H := Option.bind_eq_some_iff.mp H
                  obtain ⟨⟨t387, t390, t391⟩, A800, H⟩ := H
                  replace H : ((tape_Read.f kj40 t387 t390).bind fun bt392 => (if t391 = 0 then (if bt392.2.2 = 0 then (if (bt392.1.length : Int) = (wrap64 ((t373.length : Int) + 1)) then (if 0 ≤ (t373.length : Int) then (if (t373.length : Int) ≤ (bt392.1.length : Int) then ((foretellkeep_sameLists.f kj40 (bt392.1.take ((t373.length : Int) : Int).toNat) t373).bind fun t402 => (if t402 = true then (if (t373.length : Int) < (bt392.1.length : Int) then ((foretellkeep_sameInts.f kj40 (rd_L3 bt392.1 (t373.length : Int)) t384).bind fun t404 => (some t404)) else (none)) else (some false))) else (none)) else (none)) else (some false)) else (some false)) else (some false))) = some r := H
                  have A80 := Aside0.mk A800
                  clear A800
                  replace H := Option.bind_eq_some_iff.mp H
                  obtain ⟨⟨t392, t395, t396⟩, A810, H⟩ := H
                  replace H : (if t391 = 0 then (if t396 = 0 then (if (t392.length : Int) = (wrap64 ((t373.length : Int) + 1)) then (if 0 ≤ (t373.length : Int) then (if (t373.length : Int) ≤ (t392.length : Int) then ((foretellkeep_sameLists.f kj40 (t392.take ((t373.length : Int) : Int).toNat) t373).bind fun t402 => (if t402 = true then (if (t373.length : Int) < (t392.length : Int) then ((foretellkeep_sameInts.f kj40 (rd_L3 t392 (t373.length : Int)) t384).bind fun t404 => (some t404)) else (none)) else (some false))) else (none)) else (none)) else (some false)) else (some false)) else (some false)) = some r := H
                  have A81 := Aside0.mk A810
                  clear A810
                  by_cases c82 : t391 = 0
                  · rw [if_pos c82] at H
                    have c82b0 : (t391 == 0) = true := beq_iff_eq.mpr c82
                    have c82b1 : (t391 != 0) = false := bne_eq_false_iff_eq.mpr c82
                    clear c82
                    by_cases c83 : t396 = 0
                    · rw [if_pos c83] at H
                      have c83b0 : (t396 == 0) = true := beq_iff_eq.mpr c83
                      have c83b1 : (t396 != 0) = false := bne_eq_false_iff_eq.mpr c83
                      clear c83
                      by_cases c84 : (t392.length : Int) = (wrap64 ((t373.length : Int) + 1))
                      · rw [if_pos c84] at H
                        have c84b0 : ((t392.length : Int) == (wrap64 ((t373.length : Int) + 1))) = true := beq_iff_eq.mpr c84
                        have c84b1 : ((t392.length : Int) != (wrap64 ((t373.length : Int) + 1))) = false := bne_eq_false_iff_eq.mpr c84
                        clear c84
                        by_cases c85 : 0 ≤ (t373.length : Int)
                        · rw [if_pos c85] at H
                          have c85b0 := eq_true c85
                          have c85b1 : decide (0 ≤ (t373.length : Int)) = true := decide_eq_true c85
                          clear c85
                          by_cases c86 : (t373.length : Int) ≤ (t392.length : Int)
                          · rw [if_pos c86] at H
                            have c86b0 := eq_true c86
                            have c86b1 : decide ((t373.length : Int) ≤ (t392.length : Int)) = true := decide_eq_true c86
                            clear c86
                            obtain ⟨y397, hy397⟩ : ∃ y_ : List (List Int), y_ = (t392.take ((t373.length : Int) : Int).toNat) := ⟨_, rfl⟩
                            replace H : ((foretellkeep_sameLists.f kj40 y397 t373).bind fun t402 => (if t402 = true then (if (t373.length : Int) < (t392.length : Int) then ((foretellkeep_sameInts.f kj40 (rd_L3 t392 (t373.length : Int)) t384).bind fun t404 => (some t404)) else (none)) else (some false))) = some r := by first | (rw [hy397]; with_reducible exact H) | (have H2_ := (Option.bind_some _ _).symm.trans H; rw [hy397]; with_reducible exact H2_) | (have H2_ := (Option.bind_some _ _).symm.trans H; with_reducible exact H2_) | with_reducible exact H | (rw [hy397]; exact H) | exact H
                            have Ny397 := Aside0.mk hy397
                            clear hy397
                            replace H := Option.bind_eq_some_iff.mp H
                            obtain ⟨t402, A870, H⟩ := H
                            replace H : (if t402 = true then (if (t373.length : Int) < (t392.length : Int) then ((foretellkeep_sameInts.f kj40 (rd_L3 t392 (t373.length : Int)) t384).bind fun t404 => (some t404)) else (none)) else (some false)) = some r := H
                            have A87 := Aside0.mk A870
                            clear A870
                            by_cases c88 : t402 = true
                            · subst c88
                              have H1 : (if (t373.length : Int) < (t392.length : Int) then ((foretellkeep_sameInts.f kj40 (rd_L3 t392 (t373.length : Int)) t384).bind fun t404 => (some t404)) else (none)) = some r := by rw [if_pos rfl] at H; exact H
                              clear H
                              have H := H1
                              clear H1
                              by_cases c89 : (t373.length : Int) < (t392.length : Int)
                              · rw [if_pos c89] at H
                                have c89b0 : decide ((t373.length : Int) < (t392.length : Int)) = true := decide_eq_true c89
                                have c89b1 : decide (t373.length < t392.length) = true := decide_eq_true (Int.ofNat_lt.mp c89)
                                clear c89
                                replace H := Option.bind_eq_some_iff.mp H
                                obtain ⟨t404, A900, H⟩ := H
                                replace H : (some t404) = some r := H
                                have A90 := Aside0.mk A900
                                clear A900
                                obtain rfl := Option.some.inj H
                                go_wp2_with (first | ((with_reducible refine gate_callee (f := 12) rfl ?_); refine goesL_ (some 136) rfl rfl Try.func12 (by kernel_rfl) rfl #[.slice A3 l3.length c3] rfl (by (try simp only [List.map_toArray, List.map_cons, List.map_nil]); first | done | rfl | (simp only [List.length_drop, List.length_take]; rfl)) ?_; (with_reducible refine (foretellkeep_record.calls kj40 _ _ l3 t384 _ ?side1 ?side2 A79.out).mono ?_); (case side1 => repeat (first | exact (Kd.C_below HR3.out HB.out) | (with_reducible refine Kd.C_alloc ?_ _) | (with_reducible refine Kd.C_drewN ?_ _) | (with_reducible refine Kd.C_drew ?_))); (case side2 => exact HC3.out); rintro e w91 ⟨v385, rfl, ho0, hb⟩; refine ⟨_, rfl, ?_⟩; have n0_ := Aside0.mk (Kd.N_elder' (by (with_reducible repeat (first | apply Kd.N_alloc | apply Kd.N_drewN | apply Kd.N_drew)); exact HO_20.out) (Kd.R_base ho0) hb); have n1_ := Aside0.mk (Kd.R_below (by (with_reducible repeat (first | apply Kd.R_alloc | apply Kd.R_drewN | apply Kd.R_drew)); exact HO_341000.out) hb); have n2_ := Aside0.mk (Kd.R_lower ho0 (below_size (by repeat (first | (with_reducible first | exact HB.out | apply below_alloc | apply pw_below_drewN | apply below_drew1 | refine below_set ?_ GE340.out) | exact HB.out)))); have n3_ := Aside0.mk (blk_below (g := gb340) (o := .cells #[.slice Ao50 t368.length co50, .int .i64 t371] 30 (0, 0)) (by (with_reducible repeat (first | refine blk_drewN ?_ _ | refine blk_drew ?_ | refine blk_alloc ?_ _)); exact BK340.out) hb); have n4_ := Aside0.mk (below_step (by repeat (first | (with_reducible first | exact HB.out | apply below_alloc | apply pw_below_drewN | apply below_drew1 | refine below_set ?_ GE340.out) | exact HB.out)) hb); clear HO_20; clear HO_341000; clear BK340; clear HB; have HO_20 := n0_; have HO_341000 := n1_; have HO386 := n2_; have BK340 := n3_; have HB := n4_; clear n0_ n1_ n2_ n3_ n4_; (try clear hb); (try clear hb2); (try clear hk); (try clear hi); (try clear ho0); have hcz92_0 : w91.cell? ⟨gb340, 0, none⟩ = some (.slice Ao50 t368.length co50) := (blk_cell BK340.out 0).trans rfl; have hcz92_1 : w91.cell? ⟨gb340, 1, none⟩ = some (.int .i64 t371) := (blk_cell BK340.out 1).trans rfl; have hfz92_0 := blk_frozen BK340.out 0; have hfz92_1 := blk_frozen BK340.out 1; obtain ⟨Ao93, co93, eo93⟩ := Kd.R_slice HO386.out; subst eo93) | ((with_reducible refine gate_callee (f := 13) rfl ?_); refine goesL_ (some 140) rfl rfl Try.func13 (by kernel_rfl) rfl #[.agg #[.slice Ao50 t368.length co50, .int .i64 t371], .slice Ao93 t384.length co93] rfl (by (try simp only [List.map_toArray, List.map_cons, List.map_nil]); first | done | rfl | (simp only [List.length_drop, List.length_take]; rfl)) ?_; (with_reducible refine (tape_Write.calls kj40 _ _ t368 t371 _ _ t384 t387 t390 t391 _ ?side1 ?side2 ?side3 ?side4 A80.out).mono ?_); (case side1 => repeat (first | exact (Kd.R_reads' HO_341000.out).2.2 | (with_reducible refine Kd.C_alloc ?_ _) | (with_reducible refine Kd.C_drewN ?_ _) | (with_reducible refine Kd.C_drew ?_))); (case side2 => exact (Kd.R_reads' HO_341000.out).2.1); (case side3 => repeat (first | exact (Kd.R_reads' HO386.out).2.2 | (with_reducible refine Kd.C_alloc ?_ _) | (with_reducible refine Kd.C_drewN ?_ _) | (with_reducible refine Kd.C_drew ?_))); (case side4 => exact (Kd.R_reads' HO386.out).2.1); rintro e w94 ⟨v388, rfl, ho0, hb⟩; refine ⟨_, rfl, ?_⟩; have n0_ := Aside0.mk (Kd.N_elder' (by (with_reducible repeat (first | apply Kd.N_alloc | apply Kd.N_drewN | apply Kd.N_drew)); exact HO_20.out) (Kd.R_base ho0) hb); have n1_ := Aside0.mk (Kd.R_elder' (by (with_reducible repeat (first | apply Kd.R_alloc | apply Kd.R_drewN | apply Kd.R_drew)); exact HO_341000.out) (Kd.R_base ho0) hb); have n2_ := Aside0.mk (Kd.R_below (by (with_reducible repeat (first | apply Kd.R_alloc | apply Kd.R_drewN | apply Kd.R_drew)); exact HO386.out) hb); have n3_ := Aside0.mk (Kd.R_lower (Kd.R_new' ho0 (Kd.R_lt (by (with_reducible repeat (first | apply Kd.R_alloc | apply Kd.R_drewN | apply Kd.R_drew)); exact HO_341000.out))) (below_size (by repeat (first | (with_reducible first | exact HB.out | apply below_alloc | apply pw_below_drewN | apply below_drew1 | refine below_set ?_ GE340.out) | exact HB.out)))); have n4_ := Aside0.mk (blk_below (g := gb340) (o := .cells #[.slice Ao50 t368.length co50, .int .i64 t371] 30 (0, 0)) (by (with_reducible repeat (first | refine blk_drewN ?_ _ | refine blk_drew ?_ | refine blk_alloc ?_ _)); exact BK340.out) hb); have n5_ := Aside0.mk (below_step (by repeat (first | (with_reducible first | exact HB.out | apply below_alloc | apply pw_below_drewN | apply below_drew1 | refine below_set ?_ GE340.out) | exact HB.out)) hb); clear HO_20; clear HO_341000; clear HO386; clear BK340; clear HB; have HO_20 := n0_; have HO_341000 := n1_; have HO386 := n2_; have HO389 := n3_; have BK340 := n4_; have HB := n5_; clear n0_ n1_ n2_ n3_ n4_ n5_; (try clear hb); (try clear hb2); (try clear hk); (try clear hi); (try clear ho0); obtain ⟨Ao95, co95, eo95⟩ := Kd.R_slice HO389.out; subst eo95; have hcz96_0 : w94.cell? ⟨gb340, 0, none⟩ = some (.slice Ao50 t368.length co50) := (blk_cell BK340.out 0).trans rfl; have hcz96_1 : w94.cell? ⟨gb340, 1, none⟩ = some (.int .i64 t371) := (blk_cell BK340.out 1).trans rfl; have hfz96_0 := blk_frozen BK340.out 0; have hfz96_1 := blk_frozen BK340.out 1) | ((with_reducible refine gate_callee (f := 15) rfl ?_); refine goesL_ (some 145) rfl rfl Try.func15 (by kernel_rfl) rfl #[.agg #[.slice Ao95 t387.length co95, .int .i64 t390]] rfl (by (try simp only [List.map_toArray, List.map_cons, List.map_nil]); first | done | rfl | (simp only [List.length_drop, List.length_take]; rfl)) ?_; (with_reducible refine (tape_Read.calls kj40 _ _ t387 t390 t392 t395 t396 _ ?side1 ?side2 A81.out).mono ?_); (case side1 => refine (Kd.R_reads' (e := 5) (base := w.heap.size) (ok := fun k_ => (True ∧ some k_ ≠ (.slice Ao50 t368.length co50 : Value).ownBlock)) (n := t387.length) (c := co95) ?_).2.2; exact (by (with_reducible repeat (first | apply Kd.R_alloc | apply Kd.R_drewN | apply Kd.R_drew)); exact (Kd.R_mono (Kd.R_far (p := ⟨gb340, 1, none⟩) (Kd.R_far (p := ⟨gb340, 0, none⟩) (Kd.R_types HO389.out BK340.out (by decide)) (fun _ hk => hk.2) (.slice Ao95 t387.length co95)) (fun _ hk => hk.2) (.int .i64 t390)) (fun _ h_ => h_.1)))); (case side2 => exact (Kd.R_reads' HO389.out).2.1); rintro e w97 ⟨v393, rfl, ho0, hb⟩; refine ⟨_, rfl, ?_⟩; have n0_ := Aside0.mk (Kd.N_elder' (by (with_reducible repeat (first | apply Kd.N_alloc | apply Kd.N_drewN | apply Kd.N_drew)); exact (Kd.N_mono (Kd.N_far (p := ⟨gb340, 1, none⟩) (Kd.N_far (p := ⟨gb340, 0, none⟩) (Kd.N_mono HO_20.out (fun k_ hk => (⟨hk, hk.1.1.2⟩ : _ ∧ k_ ≠ gb340))) (fun _ hk => hk.2) (.slice Ao95 t387.length co95)) (fun _ hk => hk.2) (.int .i64 t390)) (fun _ h_ => h_.1))) (by first | exact Kd.N_base ho0 | exact Kd.S_base ho0 | exact Kd.R_base ho0) hb); have n1_ := Aside0.mk (Kd.R_below (by (with_reducible repeat (first | apply Kd.R_alloc | apply Kd.R_drewN | apply Kd.R_drew)); exact (Kd.R_mono (Kd.R_far (p := ⟨gb340, 1, none⟩) (Kd.R_far (p := ⟨gb340, 0, none⟩) (Kd.R_types HO_341000.out BK340.out (by decide)) (fun _ hk => hk.2) (.slice Ao95 t387.length co95)) (fun _ hk => hk.2) (.int .i64 t390)) (fun _ h_ => h_.1))) hb); have n2_ := Aside0.mk (Kd.R_below (by (with_reducible repeat (first | apply Kd.R_alloc | apply Kd.R_drewN | apply Kd.R_drew)); exact (Kd.R_mono (Kd.R_far (p := ⟨gb340, 1, none⟩) (Kd.R_far (p := ⟨gb340, 0, none⟩) (Kd.R_types HO386.out BK340.out (by decide)) (fun _ hk => hk.2) (.slice Ao95 t387.length co95)) (fun _ hk => hk.2) (.int .i64 t390)) (fun _ h_ => h_.1))) hb); have n3_ := Aside0.mk (Kd.R_below (by (with_reducible repeat (first | apply Kd.R_alloc | apply Kd.R_drewN | apply Kd.R_drew)); exact (Kd.R_mono (Kd.R_far (p := ⟨gb340, 1, none⟩) (Kd.R_far (p := ⟨gb340, 0, none⟩) (Kd.R_types HO389.out BK340.out (by decide)) (fun _ hk => hk.2) (.slice Ao95 t387.length co95)) (fun _ hk => hk.2) (.int .i64 t390)) (fun _ h_ => h_.1))) hb); have n4_ := Aside0.mk (Kd.N_lower (Kd.N_mono (ok' := fun k_ => some k_ ≠ (v374 : Value).ownBlock ∧ some k_ ≠ (.slice Ao50 t368.length co50 : Value).ownBlock ∧ some k_ ≠ (.slice Ao93 t384.length co93 : Value).ownBlock ∧ some k_ ≠ (.slice Ao95 t387.length co95 : Value).ownBlock ∧ k_ ≠ gb340) (Kd.S_N (Kd.S_bound ho0)) (fun k_ hk_ => ⟨(Kd.fresh' (Kd.N_lt (by (with_reducible repeat (first | apply Kd.N_alloc | apply Kd.N_drewN | apply Kd.N_drew)); exact (Kd.N_mono (Kd.N_far (p := ⟨gb340, 1, none⟩) (Kd.N_far (p := ⟨gb340, 0, none⟩) (Kd.N_mono HO_20.out (fun k_ hk => (⟨hk, hk.1.1.2⟩ : _ ∧ k_ ≠ gb340))) (fun _ hk => hk.2) (.slice Ao95 t387.length co95)) (fun _ hk => hk.2) (.int .i64 t390)) (fun _ h_ => h_.1)))) k_ hk_.2.1), (Kd.fresh' (Kd.R_lt (by (with_reducible repeat (first | apply Kd.R_alloc | apply Kd.R_drewN | apply Kd.R_drew)); exact (Kd.R_mono (Kd.R_far (p := ⟨gb340, 1, none⟩) (Kd.R_far (p := ⟨gb340, 0, none⟩) (Kd.R_types HO_341000.out BK340.out (by decide)) (fun _ hk => hk.2) (.slice Ao95 t387.length co95)) (fun _ hk => hk.2) (.int .i64 t390)) (fun _ h_ => h_.1)))) k_ hk_.2.1), (Kd.fresh' (Kd.R_lt (by (with_reducible repeat (first | apply Kd.R_alloc | apply Kd.R_drewN | apply Kd.R_drew)); exact (Kd.R_mono (Kd.R_far (p := ⟨gb340, 1, none⟩) (Kd.R_far (p := ⟨gb340, 0, none⟩) (Kd.R_types HO386.out BK340.out (by decide)) (fun _ hk => hk.2) (.slice Ao95 t387.length co95)) (fun _ hk => hk.2) (.int .i64 t390)) (fun _ h_ => h_.1)))) k_ hk_.2.1), (Kd.fresh' (Kd.R_lt (by (with_reducible repeat (first | apply Kd.R_alloc | apply Kd.R_drewN | apply Kd.R_drew)); exact (Kd.R_mono (Kd.R_far (p := ⟨gb340, 1, none⟩) (Kd.R_far (p := ⟨gb340, 0, none⟩) (Kd.R_types HO389.out BK340.out (by decide)) (fun _ hk => hk.2) (.slice Ao95 t387.length co95)) (fun _ hk => hk.2) (.int .i64 t390)) (fun _ h_ => h_.1)))) k_ hk_.2.1), (Kd.freshB (g := gb340) (o := .cells #[.slice Ao95 t387.length co95, .int .i64 t390] 30 (0, 0)) (by (with_reducible repeat (first | refine blk_drewN ?_ _ | refine blk_drew ?_ | refine blk_alloc ?_ _)); refine blk_put (cs := #[.slice Ao95 t387.length co95, .int .i64 t371]) ?_ 1 _ rfl; (with_reducible repeat (first | refine blk_drewN ?_ _ | refine blk_drew ?_ | refine blk_alloc ?_ _)); refine blk_put (cs := #[.slice Ao50 t368.length co50, .int .i64 t371]) ?_ 0 _ rfl; (with_reducible repeat (first | refine blk_drewN ?_ _ | refine blk_drew ?_ | refine blk_alloc ?_ _)); exact BK340.out) k_ hk_.2.1)⟩)) (below_size (by repeat (first | (with_reducible first | exact HB.out | apply below_alloc | apply pw_below_drewN | apply below_drew1 | refine below_set ?_ GE340.out) | exact HB.out)))); have n5_ := Aside0.mk (blk_below (g := gb340) (o := .cells #[.slice Ao95 t387.length co95, .int .i64 t390] 30 (0, 0)) (by (with_reducible repeat (first | refine blk_drewN ?_ _ | refine blk_drew ?_ | refine blk_alloc ?_ _)); refine blk_put (cs := #[.slice Ao95 t387.length co95, .int .i64 t371]) ?_ 1 _ rfl; (with_reducible repeat (first | refine blk_drewN ?_ _ | refine blk_drew ?_ | refine blk_alloc ?_ _)); refine blk_put (cs := #[.slice Ao50 t368.length co50, .int .i64 t371]) ?_ 0 _ rfl; (with_reducible repeat (first | refine blk_drewN ?_ _ | refine blk_drew ?_ | refine blk_alloc ?_ _)); exact BK340.out) hb); have n6_ := Aside0.mk (below_step (by repeat (first | (with_reducible first | exact HB.out | apply below_alloc | apply pw_below_drewN | apply below_drew1 | refine below_set ?_ GE340.out) | exact HB.out)) hb); clear HO_20; clear HO_341000; clear HO386; clear HO389; clear BK340; clear HB; have HO_20 := n0_; have HO_341000 := n1_; have HO386 := n2_; have HO389 := n3_; have HO394 := n4_; have BK340 := n5_; have HB := n6_; clear n0_ n1_ n2_ n3_ n4_ n5_ n6_; (try clear hb); (try clear hb2); (try clear hk); (try clear hi); (try clear ho0); obtain ⟨Ao98, co98, eo98⟩ := Kd.N_slice HO394.out; subst eo98; obtain ⟨Ao99, co99, eo99⟩ := Kd.N_slice HO_20.out; subst eo99; have q100 : ((t373.length : Int) : Int) ≤ ((t392.length : Int) : Int) := of_decide_eq_true (by first | (with_reducible assumption) | assumption); obtain ⟨i0100, hi0100, _, hsz100, _⟩ := info_parts info27; have hroom100 : t392.length ≤ co98 := (Kd.N_reads' HO394.out).2.1; have hC100 : Kd.F (Kd.slice 3 (Kd.int .i64)) _ _ Ao98 t392.length t392 := (Kd.V_at (base := w.heap.size) (Kd.N_V HO394.out)).2.2; have hcut100 := cut_to (P := Try.prog) 35 27 .i64 Try.underlying35 hi0100 Ao98 t392.length co98 (t373.length : Int) (of_decide_eq_true (by first | (with_reducible assumption) | assumption)) q100 hroom100; have hr100 := Kd.F_take (m := ((t373.length : Int) : Int).toNat) hC100 (by omega); have hy100 : y397.length = ((t373.length : Int) : Int).toNat := (by rw [Ny397.out, List.length_take]; omega); rw [← Ny397.out] at hr100; rw [← hy100] at hcut100; have HO401 := Aside0.mk (show Kd.V (Kd.slice 3 (Kd.int .i64)) 27 _ w.heap.size _ (.slice Ao98 y397.length co98) y397 from Kd.V_mk (by omega) hr100); have HC401 := Aside0.mk (show y397.length ≤ co98 from by omega); clear hr100 hC100 hroom100 hi0100 hsz100; have KY100 := Aside0.mk hy100; clear hy100; replace q100 := eq_true q100) | (go_at_call 16; (with_reducible refine (foretellkeep_sameLists.calls kj40 _ _ y397 _ _ t373 true _ ?side1 ?side2 ?side3 ?side4 A87.out).mono ?_); (case side1 => repeat (first | exact (Kd.V_reads' HO401.out).2.2 | (with_reducible refine Kd.C_alloc ?_ _) | (with_reducible refine Kd.C_drewN ?_ _) | (with_reducible refine Kd.C_drew ?_))); (case side2 => exact (Kd.V_reads' HO401.out).2.1); (case side3 => repeat (first | exact (Kd.N_reads' HO_20.out).2.2 | (with_reducible refine Kd.C_alloc ?_ _) | (with_reducible refine Kd.C_drewN ?_ _) | (with_reducible refine Kd.C_drew ?_))); (case side4 => exact (Kd.N_reads' HO_20.out).2.1); rintro e w' ⟨rfl, ⟨nd, rfl⟩⟩; have p403 : 0 ≤ ((t373.length : Int) : Int) := of_decide_eq_true (by first | (with_reducible assumption) | assumption); have q403 : (t373.length : Int) < (t392.length : Int) := of_decide_eq_true (by first | (with_reducible assumption) | assumption); obtain ⟨ad403, A403_0, c403_0, e403, hx403_0, hl403_0, hi403_0⟩ := at_L3 (Kd.N_reads' HO394.out).2.2 (t373.length : Int) p403 q403; cases e403; obtain ⟨ce403, hce403, hMe403, hcc403⟩ := Kd.N_get HO394.out [] (t373.length : Int) p403 (by first | exact q403 | exact of_decide_eq_true (by first | (with_reducible assumption) | assumption) | (have e_ := (Kd.N_reads' HO394.out).1; omega)); obtain ⟨ua403_0, uc403_0, rfl, ul403_0, ge403_0⟩ := Kd.FK_slice_open hMe403; have hv403_0 := hcc403 0 _ rfl; rw [Nat.add_zero, show ((Kd.slice 3 (Kd.int .i64))).sz = 1 from rfl, Nat.mul_one] at hv403_0; replace hv403_0 := Option.some.inj (hv403_0.symm.trans hx403_0); injection hv403_0 with hva_ hvn_ hvc_; rw [hva_] at ge403_0; rw [hvc_] at ul403_0; have HL403_0 := Aside0.mk (show Kd.V (Kd.int .i64) 3 _ w.heap.size _ _ (rd_L3 t392 (t373.length : Int)) from Kd.V_mk ul403_0 ge403_0); clear hva_ hvn_ hvc_ ge403_0 ul403_0; clear hcc403 hce403; have HR403_0 := Aside0.mk hi403_0; have HC403_0 := Aside0.mk hl403_0; clear hi403_0 hl403_0; (try simp only [Go.IntWalk.toNatUp] at hx403_0); replace p403 := eq_true p403; replace q403 := eq_true q403) | (go_at_call 20; (with_reducible refine (foretellkeep_sameInts.calls kj40 _ _ (rd_L3 t392 (t373.length : Int)) _ _ t384 t404 _ ?side1 ?side2 ?side3 ?side4 A90.out).mono ?_); (case side1 => repeat (first | exact (by repeat (first | (with_reducible exact HR403_0.out) | (with_reducible refine Kd.C_alloc ?_ _) | (with_reducible refine Kd.C_drewN ?_ _) | (with_reducible refine Kd.C_drew ?_) | exact HR403_0.out)) | (with_reducible refine Kd.C_alloc ?_ _) | (with_reducible refine Kd.C_drewN ?_ _) | (with_reducible refine Kd.C_drew ?_))); (case side2 => exact HC403_0.out); (case side3 => repeat (first | exact (Kd.R_reads' HO386.out).2.2 | (with_reducible refine Kd.C_alloc ?_ _) | (with_reducible refine Kd.C_drewN ?_ _) | (with_reducible refine Kd.C_drew ?_))); (case side4 => exact (Kd.R_reads' HO386.out).2.1); rintro e w' ⟨rfl, ⟨nd, rfl⟩⟩))
                                go_ret
                                exact ⟨by first | rfl | (simp [errW_none, errW_some] <;> rfl) | (simp [*, errW_none, errW_some] <;> rfl), by repeat (first | (with_reducible first | exact HB.out | apply below_alloc | apply pw_below_drewN | apply below_drew1 | refine below_set ?_ GE340.out) | exact HB.out)⟩
                              · rw [if_neg c89] at H
                                exact absurd H (by simp)
                            · replace c88 := Bool.eq_false_iff.mpr c88
                              subst c88
                              have H1 : (some false) = some r := by rw [if_neg (show ¬ (false = true) by decide)] at H; exact H
                              clear H
                              have H := H1
                              clear H1
                              exact absurd ((Option.some.inj H).trans hr_.out) (by decide)
                          · rw [if_neg c86] at H
                            exact absurd H (by simp)
                        · rw [if_neg c85] at H
                          exact absurd H (by simp)
                      · rw [if_neg c84] at H
                        exact absurd ((Option.some.inj H).trans hr_.out) (by decide)
                    · rw [if_neg c83] at H
                      exact absurd ((Option.some.inj H).trans hr_.out) (by decide)
                  · rw [if_neg c82] at H
                    exact absurd ((Option.some.inj H).trans hr_.out) (by decide)

end Go.Proofs.Ytaologjglealoaa.P
