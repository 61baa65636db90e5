-- a walk, laid out by a program of this repo over the seat's translation
import Derived.Test.YtaologjglealoaaF0
import Derived.Test.YtaologjglealoaaFForetellkeepSome
import Derived.Test.YtaologjglealoaaFForetellkeepPicked
import Derived.Test.YtaologjglealoaaFForetellkeepTaped
import Derived.Test.YtaologjglealoaaFTapeRead
import Derived.Test.YtaologjglealoaaFForetellkeepSameLists
import Derived.Test.YtaologjglealoaaFTapeSync
import Derived.Test.YtaologjglealoaaFTapeCrash
import Derived.Test.YtaologjglealoaaFTapeRepair
namespace Go.Proofs.Ytaologjglealoaa.P
open Go.RowKit Go.Proofs.YtaologjglealoaaW.PrintWords Go.Proofs.YtaologjglealoaaW.PrintLast Go.Proofs.YtaologjglealoaaW.PrintMore Go.Proofs.Ytaologjglealoaa.G
attribute [local go_sem] max2_int min2_int max_two min_two max_three min_three max_four min_four   -- for this text's walks alone
set_option linter.unusedVariables false
set_option linter.unusedSimpArgs false

/-! ### foretellkeep_TapeAgain: function 8 -/
def foretellkeep_TapeAgain.j0 : Nat → Int → List (List Int) → Bool → Int → Int → List (List Int) → Int → Int → List Int → Int → List Int → Int → Option (Bool)
 | 0, _, _, _, _, _, _, _, _, _, _, _, _ => none
 | k + 1, x2, x8, x9, x11, x13, x14, x15, x16, x426000, x426001, x432000, x432001 => (tape_Sync.f x426000 x426001).bind fun bt437 => ((foretellkeep_picked.f x2 50).bind fun t443 => ((tape_Crash.f bt437.1 bt437.2.1 t443).bind fun bt444 => (if x9 = true then (if x11 = 0 then (if x13 = 0 then (if x16 = 0 then (if bt437.2.2 = 0 then (if bt444.2.2 = 0 then (if x15 = (x426000.length : Int) then (if (x14.length : Int) ≥ (x8.length : Int) then (if 0 ≤ (x8.length : Int) then (if (x8.length : Int) ≤ (x14.length : Int) then ((foretellkeep_sameLists.f k (x14.take ((x8.length : Int) : Int).toNat) x8).bind fun t454 => (if t454 = true then (if (strOfNums x426000).toList = (strOfNums x432000).toList then (if (strOfNums bt444.1).toList = (strOfNums x426000).toList then (if (x8.length : Int) = 0 then (some true) else (some (decide (x15 ≥ 8)))) else (some false)) else (some false)) else (some false))) else (none)) else (none)) else (some false)) else (some false)) else (some false)) else (some false)) else (some false)) else (some false)) else (some false)) else (some false))))
def foretellkeep_TapeAgain.f (k : Nat) (l0 : List (List Int)) (l1 : List Int) (a2 : Int) : Option (Bool) := (foretellkeep_taped.f k l0).bind fun bt405 => ((foretellkeep_some.f l1 40).bind fun t414 => (if bt405.1.length + t414.length < 140737488355328 then ((tape_Repair.f k (bt405.1 ++ t414) bt405.2.1).bind fun bt420 => ((tape_Repair.f k bt420.1 bt420.2.1).bind fun bt426 => ((tape_Read.f k bt420.1 bt420.2.1).bind fun bt432 => (foretellkeep_TapeAgain.j0 k a2 bt405.2.2.1 bt405.2.2.2 bt420.2.2 bt426.2.2 bt432.1 bt432.2.1 bt432.2.2 bt420.1 bt420.2.1 bt426.1 bt426.2.1)))) else (none)))
theorem foretellkeep_TapeAgain.mono_l : ∀ k, (∀ y0 y1 y2 y3 y4 y5 y6 y7 y8 y9 y10 y11, LeO (foretellkeep_TapeAgain.j0 k y0 y1 y2 y3 y4 y5 y6 y7 y8 y9 y10 y11) (foretellkeep_TapeAgain.j0 (k + 1) y0 y1 y2 y3 y4 y5 y6 y7 y8 y9 y10 y11))
 | 0 => fun _ _ _ _ _ _ _ _ _ _ _ _ r h => by simp [foretellkeep_TapeAgain.j0] at h
 | k + 1 => by
  have ih0 := foretellkeep_TapeAgain.mono_l k
  ·
   intro y0 y1 y2 y3 y4 y5 y6 y7 y8 y9 y10 y11
   unfold foretellkeep_TapeAgain.j0
   repeat' first
   | (with_reducible exact ih0 _ _ _ _ _ _ _ _ _ _ _ _)
   | (with_reducible exact foretellkeep_sameLists.mono _ _ _)
   | (with_reducible exact foretellkeep_taped.mono _ _)
   | (with_reducible exact tape_Read.mono _ _ _)
   | (with_reducible exact tape_Repair.mono _ _ _)
   | (with_reducible exact LeO.refl _)
   | (with_reducible exact LeO.none _)
   | (with_reducible refine LeO.ite ?_ ?_)
   | (with_reducible refine LeO.bind ?_ (fun _ => ?_))
   | exact ih0 _ _ _ _ _ _ _ _ _ _ _ _
   | exact foretellkeep_sameLists.mono _ _ _
   | exact foretellkeep_taped.mono _ _
   | exact tape_Read.mono _ _ _
   | exact tape_Repair.mono _ _ _
   | exact LeO.none _
   | refine LeO.ite ?_ ?_
   | refine LeO.bind ?_ (fun _ => ?_)
theorem foretellkeep_TapeAgain.mono : ∀ a0 a1 a2 k, LeO (foretellkeep_TapeAgain.f k a0 a1 a2) (foretellkeep_TapeAgain.f (k + 1) a0 a1 a2) := by
 intro a0 a1 a2 k
 have ih0 := foretellkeep_TapeAgain.mono_l k
 unfold foretellkeep_TapeAgain.f
 repeat' first
   | (with_reducible exact ih0 _ _ _ _ _ _ _ _ _ _ _ _)
   | (with_reducible exact foretellkeep_sameLists.mono _ _ _)
   | (with_reducible exact foretellkeep_taped.mono _ _)
   | (with_reducible exact tape_Read.mono _ _ _)
   | (with_reducible exact tape_Repair.mono _ _ _)
   | (with_reducible exact LeO.refl _)
   | (with_reducible exact LeO.none _)
   | (with_reducible refine LeO.ite ?_ ?_)
   | (with_reducible refine LeO.bind ?_ (fun _ => ?_))
   | exact ih0 _ _ _ _ _ _ _ _ _ _ _ _
   | exact foretellkeep_sameLists.mono _ _ _
   | exact foretellkeep_taped.mono _ _
   | exact tape_Read.mono _ _ _
   | exact tape_Repair.mono _ _ _
   | exact LeO.none _
   | refine LeO.ite ?_ ?_
   | refine LeO.bind ?_ (fun _ => ?_)
def foretellkeep_TapeAgain.T7 : Bool × List (List Nat × List Nat) := (true, [([], []), ([], []), ([1], [1]), ([0, 2, 2], [0, 2]), ([3], [3]), ([4], [4]), ([4], [4]), ([], []), ([7, 5, 3, 0, 1, 2, 3, 4, 5, 7], [5, 7]), ([6, 8, 0, 1, 2, 3, 4, 5, 6, 7, 8], [6])])
def foretellkeep_TapeAgain.B7 : List Nat := [0, 0, 2, 7, 15, 31, 31, 0, 191, 511]
theorem foretellkeep_TapeAgain.tab7 : rtab .any (opsOf Try.f8 7) = foretellkeep_TapeAgain.T7 := by kernel_rfl
theorem foretellkeep_TapeAgain.bits7 : waitsOk foretellkeep_TapeAgain.T7.2 foretellkeep_TapeAgain.B7 = true := by kernel_rfl
set_option maxHeartbeats 8000000 in
set_option maxRecDepth 100000 in
theorem foretellkeep_TapeAgain.calls (k : Nat) (A0 : Option Addr) (c0 : Nat) (l0 : List (List Int)) (A1 : Option Addr) (c1 : Nat) (l1 : List Int) (a2 : Int) (r : Bool) (w : World) (hr0 : Kd.C (Kd.slice 3 (Kd.int .i64)) w A0 l0.length l0) (hc0 : l0.length ≤ c0) (hr1 : Kd.C (Kd.int .u8) w A1 l1.length l1) (hc1 : l1.length ≤ c1) (hr_ : Aside0 (r = true)) (h : foretellkeep_TapeAgain.f k l0 l1 a2 = some r) :
  Calls Try.prog 8 #[.slice A0 l0.length c0, .slice A1 l1.length c1, .int .i64 a2] w fun e w' => e = .returned (.bool r) ∧ Below w.heap.size w w' := by
 have hu30 := Try.underlying30
 have HR0 := Aside0.mk hr0
 have HC0 := Aside0.mk hc0
 clear hr0 hc0
 have HR1 := Aside0.mk hr1
 have HC1 := Aside0.mk hc1
 clear hr1 hc1
 have HB := Aside0.mk (Below.refl w.heap.size w)
 have H : ((foretellkeep_taped.f k l0).bind fun bt405 => ((foretellkeep_some.f l1 40).bind fun t414 => (if bt405.1.length + t414.length < 140737488355328 then ((tape_Repair.f k (bt405.1 ++ t414) bt405.2.1).bind fun bt420 => ((tape_Repair.f k bt420.1 bt420.2.1).bind fun bt426 => ((tape_Read.f k bt420.1 bt420.2.1).bind fun bt432 => (foretellkeep_TapeAgain.j0 k a2 bt405.2.2.1 bt405.2.2.2 bt420.2.2 bt426.2.2 bt432.1 bt432.2.1 bt432.2.2 bt420.1 bt420.2.1 bt426.1 bt426.2.1)))) else (none)))) = some r := h
 clear h
 replace H := Option.bind_eq_some_iff.mp H
 obtain ⟨⟨t405, t408, t409, t412⟩, A40, H⟩ := H
 replace H : ((foretellkeep_some.f l1 40).bind fun t414 => (if t405.length + t414.length < 140737488355328 then ((tape_Repair.f k (t405 ++ t414) t408).bind fun bt420 => ((tape_Repair.f k bt420.1 bt420.2.1).bind fun bt426 => ((tape_Read.f k bt420.1 bt420.2.1).bind fun bt432 => (foretellkeep_TapeAgain.j0 k a2 t409 t412 bt420.2.2 bt426.2.2 bt432.1 bt432.2.1 bt432.2.2 bt420.1 bt420.2.1 bt426.1 bt426.2.1)))) else (none))) = some r := H
 have A4 := Aside0.mk A40
 clear A40
 replace H := Option.bind_eq_some_iff.mp H
 obtain ⟨t414, A50, H⟩ := H
 replace H : (if t405.length + t414.length < 140737488355328 then ((tape_Repair.f k (t405 ++ t414) t408).bind fun bt420 => ((tape_Repair.f k bt420.1 bt420.2.1).bind fun bt426 => ((tape_Read.f k bt420.1 bt420.2.1).bind fun bt432 => (foretellkeep_TapeAgain.j0 k a2 t409 t412 bt420.2.2 bt426.2.2 bt432.1 bt432.2.1 bt432.2.2 bt420.1 bt420.2.1 bt426.1 bt426.2.1)))) else (none)) = some r := H
 have A5 := Aside0.mk A50
 clear A50
 by_cases c6 : t405.length + t414.length < 140737488355328
 ·
  rw [if_pos c6] at H
  have LMc6 := Aside0.mk c6
  clear c6
  obtain ⟨y417, hy417⟩ : ∃ y_ : List Int, y_ = (t405 ++ t414) := ⟨_, rfl⟩
  replace H : ((tape_Repair.f k y417 t408).bind fun bt420 => ((tape_Repair.f k bt420.1 bt420.2.1).bind fun bt426 => ((tape_Read.f k bt420.1 bt420.2.1).bind fun bt432 => (foretellkeep_TapeAgain.j0 k a2 t409 t412 bt420.2.2 bt426.2.2 bt432.1 bt432.2.1 bt432.2.2 bt420.1 bt420.2.1 bt426.1 bt426.2.1)))) = some r := by first | (rw [hy417]; with_reducible exact H) | (have H2_ := (Option.bind_some _ _).symm.trans H; rw [hy417]; with_reducible exact H2_) | (have H2_ := (Option.bind_some _ _).symm.trans H; with_reducible exact H2_) | with_reducible exact H | (rw [hy417]; exact H) | exact H
  have Ny417 := Aside0.mk hy417
  clear hy417
  replace H := Option.bind_eq_some_iff.mp H
  obtain ⟨⟨t420, t423, t424⟩, A70, H⟩ := H
  replace H : ((tape_Repair.f k t420 t423).bind fun bt426 => ((tape_Read.f k t420 t423).bind fun bt432 => (foretellkeep_TapeAgain.j0 k a2 t409 t412 t424 bt426.2.2 bt432.1 bt432.2.1 bt432.2.2 t420 t423 bt426.1 bt426.2.1))) = some r := H
  have A7 := Aside0.mk A70
  clear A70
  replace H := Option.bind_eq_some_iff.mp H
  obtain ⟨⟨t426, t429, t430⟩, A80, H⟩ := H
  replace H : ((tape_Read.f k t420 t423).bind fun bt432 => (foretellkeep_TapeAgain.j0 k a2 t409 t412 t424 t430 bt432.1 bt432.2.1 bt432.2.2 t420 t423 t426 t429)) = some r := H
  have A8 := Aside0.mk A80
  clear A80
  have HC9 := Aside0.mk H
  clear H
  go_enter Try.func8, Try.ntmps8
  try go_wp2_with (first | ((with_reducible refine gate_callee (f := 14) rfl ?_); refine goesL_ (some 23) rfl rfl Try.func14 (by kernel_rfl) rfl #[.slice A0 l0.length c0] rfl (by (try simp only [List.map_toArray, List.map_cons, List.map_nil]); first | done | rfl | (simp only [List.length_drop, List.length_take]; rfl)) ?_; (with_reducible refine (foretellkeep_taped.calls k _ _ l0 t405 t408 t409 t412 _ ?side1 ?side2 A4.out).mono ?_); (case side1 => repeat (first | exact HR0.out | (with_reducible refine Kd.C_alloc ?_ _) | (with_reducible refine Kd.C_drewN ?_ _) | (with_reducible refine Kd.C_drew ?_))); (case side2 => exact HC0.out); rintro e w10 ⟨v406, v410, rfl, ho0, ho1, hb⟩; refine ⟨_, rfl, ?_⟩; have n0_ := Aside0.mk (Kd.R_lower ho0 (below_size (by repeat (first | (with_reducible first | exact HB.out | apply below_alloc | apply pw_below_drewN | apply below_drew1) | exact HB.out)))); have n1_ := Aside0.mk (Kd.S_lower ho1 (below_size (by repeat (first | (with_reducible first | exact HB.out | apply below_alloc | apply pw_below_drewN | apply below_drew1) | exact HB.out)))); have n2_ := Aside0.mk (below_step (by repeat (first | (with_reducible first | exact HB.out | apply below_alloc | apply pw_below_drewN | apply below_drew1) | exact HB.out)) hb); clear HB; have HO407 := n0_; have HO411 := n1_; have HB := n2_; clear n0_ n1_ n2_; (try clear hb); (try clear hb2); (try clear hk); (try clear hi); (try clear ho0); (try clear ho1)) | ((with_reducible refine gate_dst (N := 7) rfl ?_); (try (refine gate_guard (by rfl) ?_; dsimp only)); refine box_event ?hg (N := 7) ?hd (cs := #[.slice none 0 0, .int .i64 0]) (t := 30) ?hr ?_; (case hd => rfl); (case hg => rfl); (case hr => first | (go_simp; done) | (go_simp; rfl)); intro gb413 hg w11 hbox hb; have n0_ := Aside0.mk (Kd.R_below (by (with_reducible repeat (first | apply Kd.R_alloc | apply Kd.R_drewN | apply Kd.R_drew)); exact HO407.out) hb); have n1_ := Aside0.mk (Kd.S_below (by (with_reducible repeat (first | apply Kd.S_alloc | apply Kd.S_drewN | apply Kd.S_drew)); exact HO411.out) hb); have n2_ := Aside0.mk (below_step (by repeat (first | (with_reducible first | exact HB.out | apply below_alloc | apply pw_below_drewN | apply below_drew1) | exact HB.out)) hb); have n3_ := Aside0.mk (hbox); have n4_ := Aside0.mk ((by rw [hg]; exact (below_size (by repeat (first | (with_reducible first | exact HB.out | apply below_alloc | apply pw_below_drewN | apply below_drew1) | exact HB.out))) : w.heap.size ≤ gb413)); have n5_ := Aside0.mk ((by rw [hg]; exact (below_size (by repeat (first | (with_reducible first | exact HB.out | apply below_alloc | apply pw_below_drewN | apply below_drew1) | exact HB.out))) : w.heap.size ≤ gb413)); clear HO407; clear HO411; clear HB; have HO407 := n0_; have HO411 := n1_; have HB := n2_; have BK413 := n3_; have GW413 := n4_; have GE413 := n5_; clear n0_ n1_ n2_ n3_ n4_ n5_; clear hb hbox hg; obtain ⟨Ao12, co12, eo12⟩ := Kd.R_slice HO407.out; subst eo12; have hcz13_0 : w11.cell? ⟨gb413, 0, none⟩ = some (.slice none 0 0) := (blk_cell BK413.out 0).trans rfl; have hcz13_1 : w11.cell? ⟨gb413, 1, none⟩ = some (.int .i64 0) := (blk_cell BK413.out 1).trans rfl; have hfz13_0 := blk_frozen BK413.out 0; have hfz13_1 := blk_frozen BK413.out 1))
  have n0_ : Aside0 (Kd.R (Kd.int .u8) 5 ((w11.setCell ⟨gb413, 0, none⟩ (.slice Ao12 t405.length co12)).setCell ⟨gb413, 1, none⟩ (.int .i64 t408)) w.heap.size (fun _ => True) (.slice Ao12 t405.length co12) t405) := ⟨by (with_reducible repeat (first | apply Kd.R_alloc | apply Kd.R_drewN | apply Kd.R_drew)); exact Kd.R_mono (Kd.R_far (p := ⟨gb413, 1, none⟩) (Kd.R_far (p := ⟨gb413, 0, none⟩) (Kd.R_types HO407.out BK413.out (by decide)) (fun _ hk => hk.2) (.slice Ao12 t405.length co12)) (fun _ hk => hk.2) (.int .i64 t408)) (fun _ hk => trivial)⟩
  have n1_ : Aside0 (Kd.S (Kd.slice 3 (Kd.int .i64)) 27 ((w11.setCell ⟨gb413, 0, none⟩ (.slice Ao12 t405.length co12)).setCell ⟨gb413, 1, none⟩ (.int .i64 t408)) w.heap.size (fun _ => True) v410 t409) := ⟨by (with_reducible repeat (first | apply Kd.S_alloc | apply Kd.S_drewN | apply Kd.S_drew)); exact Kd.S_mono (Kd.S_far (p := ⟨gb413, 1, none⟩) (Kd.S_far (p := ⟨gb413, 0, none⟩) (Kd.S_types HO411.out BK413.out (by decide)) (fun _ hk => hk.2) (.slice Ao12 t405.length co12)) (fun _ hk => hk.2) (.int .i64 t408)) (fun _ hk => trivial)⟩
  have n2_ : Aside0 (((w11.setCell ⟨gb413, 0, none⟩ (.slice Ao12 t405.length co12)).setCell ⟨gb413, 1, none⟩ (.int .i64 t408)).heap[gb413]? = some (.cells #[.slice Ao12 t405.length co12, .int .i64 t408] 30 (0, 0))) := ⟨by (with_reducible repeat (first | refine blk_drewN ?_ _ | refine blk_drew ?_ | refine blk_alloc ?_ _)); refine blk_put (cs := #[.slice Ao12 t405.length co12, .int .i64 0]) ?_ 1 _ rfl; (with_reducible repeat (first | refine blk_drewN ?_ _ | refine blk_drew ?_ | refine blk_alloc ?_ _)); refine blk_put (cs := #[.slice none 0 0, .int .i64 0]) ?_ 0 _ rfl; (with_reducible repeat (first | refine blk_drewN ?_ _ | refine blk_drew ?_ | refine blk_alloc ?_ _)); exact BK413.out⟩
  have n3_ : Aside0 (Below w.heap.size w ((w11.setCell ⟨gb413, 0, none⟩ (.slice Ao12 t405.length co12)).setCell ⟨gb413, 1, none⟩ (.int .i64 t408))) := ⟨by repeat (first | (with_reducible first | exact HB.out | apply below_alloc | apply pw_below_drewN | apply below_drew1 | refine below_set ?_ GE413.out) | exact HB.out)⟩
  (try clear HO407)
  (try clear HO411)
  (try clear BK413)
  (try clear HB)
  generalize ((w11.setCell ⟨gb413, 0, none⟩ (.slice Ao12 t405.length co12)).setCell ⟨gb413, 1, none⟩ (.int .i64 t408)) = w14 at n0_ n1_ n2_ n3_ ⊢
  have HO407 := n0_
  have HO411 := n1_
  have BK413 := n2_
  have HB := n3_
  clear n0_ n1_ n2_ n3_
  have n0_ := Aside0.mk (Kd.R_drew HO407.out)
  have n1_ := Aside0.mk (Kd.S_drew HO411.out)
  have n2_ := Aside0.mk (blk_drew BK413.out)
  have n3_ := Aside0.mk (below_drew1 HB.out)
  clear HO407
  clear HO411
  clear BK413
  clear HB
  have HO407 := n0_
  have HO411 := n1_
  have BK413 := n2_
  have HB := n3_
  clear n0_ n1_ n2_ n3_
  refine start_ (n := 7) (S := fun w' => w'.cell? ⟨gb413, 0, none⟩ = some (.slice Ao12 t405.length co12) ∧ w'.cell? ⟨gb413, 1, none⟩ = some (.int .i64 t408)) (ds := [6]) #[false, false, false, false, false, false, false] (by kernel_rfl) rfl rfl ⟨(blk_cell BK413.out 0).trans rfl, (blk_cell BK413.out 1).trans rfl⟩ (fun hHeld => ?_)
  generalize w14.drew = w15 at HO407 HO411 BK413 HB hHeld ⊢
  refine pure_ (i := 0) (N := some 27) (v := ?_) (a' := ?_) #[true, false, false, false, false, false, false] rfl rfl (by kernel_rfl) (fun _ _ _ h => h) (Or.inl ⟨by rfl, ?_⟩) ?_ ?_
  rotate_left
  ·
   intro w'
   go_simp
   with_reducible rfl
  rotate_left
  ·
   simp only [Act.put, List.setIfInBounds_toArray, List.set_cons_zero, List.set_cons_succ, i64_w, i32_w]
   rfl
  refine pure_ (i := 2) (N := some 29) (v := ?_) (a' := ?_) #[true, false, true, false, false, false, false] rfl rfl (by kernel_rfl) (fun _ _ _ h => h) (Or.inl ⟨by rfl, ?_⟩) ?_ ?_
  rotate_left
  ·
   intro w'
   go_simp
   with_reducible rfl
  rotate_left
  ·
   simp only [Act.put, List.setIfInBounds_toArray, List.set_cons_zero, List.set_cons_succ, i64_w, i32_w]
   rfl
  refine take_ (i := 1) (N := some 28) (v := ?_) (a' := ?_) #[true, true, true, false, false, false, false] rfl rfl (by kernel_rfl) (fun _ _ _ h => h) (Or.inl ⟨by rfl, ?_⟩) hHeld ?_ ?_
  rotate_left
  ·
   rintro w' ⟨s0, s1⟩
   go_simp
   with_reducible rfl
  rotate_left
  ·
   simp only [Act.put, List.setIfInBounds_toArray, List.set_cons_zero, List.set_cons_succ, i64_w, i32_w]
   rfl
  refine one_ (i := 3) (N := some 30) #[true, true, true, true, false, false, false] rfl rfl (by kernel_rfl) (by decide) (fun K hK => ?_)
  refine goes_ Try.func9 (by kernel_rfl) rfl #[.slice A1 l1.length c1, .int .i64 40] (by rfl) rfl rfl (by (try simp only [List.map_toArray, List.map_cons, List.map_nil]); first | done | rfl | (simp only [List.length_drop, List.length_take]; rfl)) ?_
  with_reducible refine (foretellkeep_some.calls _ _ l1 40 t414 _ ?side1 ?side2 A5.out).mono ?_
  (case side1 => repeat (first | exact (Kd.C_below HR1.out HB.out) | (with_reducible refine Kd.C_alloc ?_ _) | (with_reducible refine Kd.C_drewN ?_ _) | (with_reducible refine Kd.C_drew ?_)))
  (case side2 => exact HC1.out)
  rintro e w16 ⟨v415, rfl, ho0, hb⟩
  refine ⟨_, rfl, ?_⟩
  have n0_ := Aside0.mk (Kd.R_elder' (by (with_reducible repeat (first | apply Kd.R_alloc | apply Kd.R_drewN | apply Kd.R_drew)); exact HO407.out) (Kd.R_base ho0) hb)
  have n1_ := Aside0.mk (Kd.S_below (by (with_reducible repeat (first | apply Kd.S_alloc | apply Kd.S_drewN | apply Kd.S_drew)); exact HO411.out) hb)
  have n2_ := Aside0.mk (Kd.R_lower (Kd.R_new' ho0 (Kd.R_lt (by (with_reducible repeat (first | apply Kd.R_alloc | apply Kd.R_drewN | apply Kd.R_drew)); exact HO407.out))) (below_size (by repeat (first | (with_reducible first | exact HB.out | apply below_alloc | apply pw_below_drewN | apply below_drew1 | refine below_set ?_ GE413.out) | exact HB.out))))
  have n3_ := Aside0.mk (blk_below (g := gb413) (o := .cells #[.slice Ao12 t405.length co12, .int .i64 t408] 30 (0, 0)) (by (with_reducible repeat (first | refine blk_drewN ?_ _ | refine blk_drew ?_ | refine blk_alloc ?_ _)); exact BK413.out) hb)
  have n4_ := Aside0.mk (below_step (by repeat (first | (with_reducible first | exact HB.out | apply below_alloc | apply pw_below_drewN | apply below_drew1 | refine below_set ?_ GE413.out) | exact HB.out)) hb)
  clear HO407
  clear HO411
  clear BK413
  clear HB
  have HO407 := n0_
  have HO411 := n1_
  have HO416 := n2_
  have BK413 := n3_
  have HB := n4_
  clear n0_ n1_ n2_ n3_ n4_
  (try clear hb)
  (try clear hb2)
  (try clear hk)
  (try clear hi)
  (try clear ho0)
  obtain ⟨Ao18, co18, eo18⟩ := Kd.R_slice HO416.out
  (first | subst eo18 | (injection eo18 with f1_ f2_ f3_; have f4_ := f1_.symm; have f5_ := f3_.symm; clear f1_ f2_ f3_; subst f4_; subst f5_))
  refine hK.out _ _ ⟨(blk_cell BK413.out 0).trans rfl, (blk_cell BK413.out 1).trans rfl⟩ (fun hHeld => ?_)
  clear hK K
  refine norm_ (a' := ?_) ?_ ?_
  rotate_left
  ·
   show Act.put _ (some 30) _ = _
   simp only [Act.put, List.setIfInBounds_toArray, List.set_cons_zero, List.set_cons_succ, i64_w, i32_w]
   rfl
  refine one_ (i := 4) (N := some 31) #[true, true, true, true, true, false, false] rfl rfl (by kernel_rfl) (by decide) (fun K hK => ?_)
  refine Kd.R_append_rows_step (Kd.int .u8) (w0 := w) w.heap.size (by rfl) (.tmp 28) (.tmp 30) 22 5 (.int .u8 0) 1 rfl Try.underlying22 info5 rfl (by decide) (by omega) (.slice Ao12 t405.length co12) t405 t414 _ _ _ (fun k_ => some k_ ≠ (.slice Ao18 t414.length co18 : Value).ownBlock) (fun _ => False) rfl rfl ?aO ?aR (fun _ _ h => h) (fun _ h => h.elim) ?aF ?aB ?aS ?aL ?_
  (case aR => repeat (first | exact (Kd.R_reads' HO416.out).2.2 | (with_reducible refine Kd.C_alloc ?_ _) | (with_reducible refine Kd.C_drewN ?_ _) | (with_reducible refine Kd.C_drew ?_)))
  (case aB => exact (by repeat (first | (with_reducible first | exact HB.out | apply below_alloc | apply pw_below_drewN | apply below_drew1 | refine below_set ?_ GE413.out) | exact HB.out)))
  (case aF => exact (fun k_ hk => Kd.fresh' (Kd.R_lt (by (with_reducible repeat (first | apply Kd.R_alloc | apply Kd.R_drewN | apply Kd.R_drew)); exact HO416.out)) k_ hk))
  (case aO => exact (by (with_reducible repeat (first | apply Kd.R_alloc | apply Kd.R_drewN | apply Kd.R_drew)); exact Kd.R_mono HO407.out (fun _ hk => hk.2)))
  (case aS => exact (below_size (by repeat (first | (with_reducible first | exact HB.out | apply below_alloc | apply pw_below_drewN | apply below_drew1 | refine below_set ?_ GE413.out) | exact HB.out))))
  (case aL => have := LMc6.out; omega)
  intro v418 w17 ho hb hg hat
  rw [← Ny417.out] at ho
  have n0_ := Aside0.mk (Kd.S_over' (by (with_reducible repeat (first | apply Kd.S_alloc | apply Kd.S_drewN | apply Kd.S_drew)); exact HO411.out) (Kd.R_typed (by (with_reducible repeat (first | apply Kd.R_alloc | apply Kd.R_drewN | apply Kd.R_drew)); exact HO407.out)) (by decide) hg)
  have n1_ := Aside0.mk (blk_grown (g := gb413) (o := .cells #[.slice Ao12 t405.length co12, .int .i64 t408] 30 (0, 0)) (by (with_reducible repeat (first | refine blk_drewN ?_ _ | refine blk_drew ?_ | refine blk_alloc ?_ _)); exact BK413.out) hg (Kd.R_ne HO407.out BK413.out (by decide)))
  have n2_ := Aside0.mk (Kd.R_after (ok := (fun _ => True)) (by (with_reducible repeat (first | apply Kd.R_alloc | apply Kd.R_drewN | apply Kd.R_drew)); exact HO416.out) hg hat)
  have n3_ := Aside0.mk (hb)
  have n4_ := Aside0.mk (ho)
  clear HO411
  clear BK413
  clear HO416
  clear HB
  clear HO407
  have HO411 := n0_
  have BK413 := n1_
  have HO416 := n2_
  have HB := n3_
  have HO419 := n4_
  clear n0_ n1_ n2_ n3_ n4_
  clear ho hb hg hat
  obtain ⟨Ao19, co19, eo19⟩ := Kd.R_slice HO419.out
  (first | subst eo19 | (injection eo19 with f1_ f2_ f3_; have f4_ := f1_.symm; have f5_ := f3_.symm; clear f1_ f2_ f3_; subst f4_; subst f5_))
  refine hK.out _ _ ⟨(blk_cell BK413.out 0).trans rfl, (blk_cell BK413.out 1).trans rfl⟩ (fun hHeld => ?_)
  clear hK K
  refine norm_ (a' := ?_) ?_ ?_
  rotate_left
  ·
   show Act.put _ (some 31) _ = _
   simp only [Act.put, List.setIfInBounds_toArray, List.set_cons_zero, List.set_cons_succ, i64_w, i32_w]
   rfl
  refine pure_ (i := 5) (N := some 32) (v := ?_) (a' := ?_) #[true, true, true, true, true, true, false] rfl rfl (by kernel_rfl) (fun _ _ _ h => h) (Or.inl ⟨by rfl, ?_⟩) ?_ ?_
  rotate_left
  ·
   intro w'
   go_simp
   with_reducible rfl
  rotate_left
  ·
   simp only [Act.put, List.setIfInBounds_toArray, List.set_cons_zero, List.set_cons_succ, i64_w, i32_w]
   rfl
  refine last_ (i := 6) (N := none) #[true, true, true, true, true, true, true] rfl rfl (by kernel_rfl) (by decide) (fun K hK => ?_)
  have hs20 : w17.cell? ⟨gb413, 0, none⟩ = some (.slice Ao12 t405.length co12) := (blk_cell BK413.out 0).trans rfl
  have hfs20 := blk_frozen BK413.out 0
  refine skip_ (w1 := ?_) (by rfl) rfl ?_ ?_
  rotate_left
  ·
   go_simp
   rfl
  refine hK.out _ _ ?_
  clear hK K
  refine done_ (by kernel_rfl) ?_
  have hcz21_0 : w17.cell? ⟨gb413, 0, none⟩ = some (.slice Ao12 t405.length co12) := (blk_cell BK413.out 0).trans rfl
  have hcz21_1 : w17.cell? ⟨gb413, 1, none⟩ = some (.int .i64 t408) := (blk_cell BK413.out 1).trans rfl
  have hfz21_0 := blk_frozen BK413.out 0
  have hfz21_1 := blk_frozen BK413.out 1
  go_upto_region 5 with (first | ((with_reducible refine gate_callee (f := 19) rfl ?_); refine goesL_ (some 35) rfl rfl Try.func19 (by kernel_rfl) rfl #[.agg #[.slice Ao19 y417.length co19, .int .i64 t408]] rfl (by (try simp only [List.map_toArray, List.map_cons, List.map_nil]); first | done | rfl | (simp only [List.length_drop, List.length_take]; rfl)) ?_; (with_reducible refine (tape_Repair.calls k _ _ y417 t408 t420 t423 t424 _ ?side1 ?side2 A7.out).mono ?_); (case side1 => refine (Kd.R_reads' (e := 5) (base := w.heap.size) (ok := fun k_ => some k_ ≠ (.slice Ao18 t414.length co18 : Value).ownBlock) (n := y417.length) (c := co19) ?_).2.2; exact (by (with_reducible repeat (first | apply Kd.R_alloc | apply Kd.R_drewN | apply Kd.R_drew)); exact (Kd.R_mono (Kd.R_far (p := ⟨gb413, 0, none⟩) (Kd.R_types HO419.out BK413.out (by decide)) (fun _ hk => hk.2) (.slice Ao19 y417.length co19)) (fun _ h_ => h_.1)))); (case side2 => exact (Kd.R_reads' HO419.out).2.1); rintro e w22 ⟨v421, rfl, ho0, hb⟩; refine ⟨_, rfl, ?_⟩; have n0_ := Aside0.mk (Kd.S_below (by (with_reducible repeat (first | apply Kd.S_alloc | apply Kd.S_drewN | apply Kd.S_drew)); exact (Kd.S_mono (Kd.S_far (p := ⟨gb413, 0, none⟩) (Kd.S_types HO411.out BK413.out (by decide)) (fun _ hk => hk.2) (.slice Ao19 y417.length co19)) (fun _ h_ => h_.1))) hb); have n1_ := Aside0.mk (Kd.R_elder' (by (with_reducible repeat (first | apply Kd.R_alloc | apply Kd.R_drewN | apply Kd.R_drew)); exact (Kd.R_mono (Kd.R_far (p := ⟨gb413, 0, none⟩) (Kd.R_types HO416.out BK413.out (by decide)) (fun _ hk => hk.2) (.slice Ao19 y417.length co19)) (fun _ h_ => h_.1))) (Kd.R_base ho0) hb); have n2_ := Aside0.mk (Kd.R_elder' (by (with_reducible repeat (first | apply Kd.R_alloc | apply Kd.R_drewN | apply Kd.R_drew)); exact (Kd.R_mono (Kd.R_far (p := ⟨gb413, 0, none⟩) (Kd.R_types HO419.out BK413.out (by decide)) (fun _ hk => hk.2) (.slice Ao19 y417.length co19)) (fun _ h_ => h_.1))) (Kd.R_base ho0) hb); have n3_ := Aside0.mk (Kd.R_lower (Kd.R_new' (Kd.R_new' ho0 (Kd.R_lt (by (with_reducible repeat (first | apply Kd.R_alloc | apply Kd.R_drewN | apply Kd.R_drew)); exact (Kd.R_mono (Kd.R_far (p := ⟨gb413, 0, none⟩) (Kd.R_types HO416.out BK413.out (by decide)) (fun _ hk => hk.2) (.slice Ao19 y417.length co19)) (fun _ h_ => h_.1))))) (Kd.R_lt (by (with_reducible repeat (first | apply Kd.R_alloc | apply Kd.R_drewN | apply Kd.R_drew)); exact (Kd.R_mono (Kd.R_far (p := ⟨gb413, 0, none⟩) (Kd.R_types HO419.out BK413.out (by decide)) (fun _ hk => hk.2) (.slice Ao19 y417.length co19)) (fun _ h_ => h_.1))))) (below_size (by repeat (first | (with_reducible first | exact HB.out | apply below_alloc | apply pw_below_drewN | apply below_drew1 | refine below_set ?_ GE413.out) | exact HB.out)))); have n4_ := Aside0.mk (blk_below (g := gb413) (o := .cells #[.slice Ao19 y417.length co19, .int .i64 t408] 30 (0, 0)) (by (with_reducible repeat (first | refine blk_drewN ?_ _ | refine blk_drew ?_ | refine blk_alloc ?_ _)); refine blk_put (cs := #[.slice Ao12 t405.length co12, .int .i64 t408]) ?_ 0 _ rfl; (with_reducible repeat (first | refine blk_drewN ?_ _ | refine blk_drew ?_ | refine blk_alloc ?_ _)); exact BK413.out) hb); have n5_ := Aside0.mk (below_step (by repeat (first | (with_reducible first | exact HB.out | apply below_alloc | apply pw_below_drewN | apply below_drew1 | refine below_set ?_ GE413.out) | exact HB.out)) hb); clear HO411; clear HO416; clear HO419; clear BK413; clear HB; have HO411 := n0_; have HO416 := n1_; have HO419 := n2_; have HO422 := n3_; have BK413 := n4_; have HB := n5_; clear n0_ n1_ n2_ n3_ n4_ n5_; (try clear hb); (try clear hb2); (try clear hk); (try clear hi); (try clear ho0)) | ((with_reducible refine gate_dst (N := 10) rfl ?_); (try (refine gate_guard (by rfl) ?_; dsimp only)); refine box_event ?hg (N := 10) ?hd (cs := #[.slice none 0 0, .int .i64 0]) (t := 30) ?hr ?_; (case hd => rfl); (case hg => rfl); (case hr => first | (go_simp; done) | (go_simp; rfl)); intro gb425 hg w23 hbox hb; have n0_ := Aside0.mk (Kd.S_below (by (with_reducible repeat (first | apply Kd.S_alloc | apply Kd.S_drewN | apply Kd.S_drew)); exact HO411.out) hb); have n1_ := Aside0.mk (Kd.R_below (by (with_reducible repeat (first | apply Kd.R_alloc | apply Kd.R_drewN | apply Kd.R_drew)); exact HO416.out) hb); have n2_ := Aside0.mk (Kd.R_below (by (with_reducible repeat (first | apply Kd.R_alloc | apply Kd.R_drewN | apply Kd.R_drew)); exact HO419.out) hb); have n3_ := Aside0.mk (Kd.R_below (by (with_reducible repeat (first | apply Kd.R_alloc | apply Kd.R_drewN | apply Kd.R_drew)); exact HO422.out) hb); have n4_ := Aside0.mk (blk_below (g := gb413) (o := .cells #[.slice Ao19 y417.length co19, .int .i64 t408] 30 (0, 0)) (by (with_reducible repeat (first | refine blk_drewN ?_ _ | refine blk_drew ?_ | refine blk_alloc ?_ _)); exact BK413.out) hb); have n5_ := Aside0.mk (below_step (by repeat (first | (with_reducible first | exact HB.out | apply below_alloc | apply pw_below_drewN | apply below_drew1 | refine below_set ?_ GE413.out) | exact HB.out)) hb); have n6_ := Aside0.mk (hbox); have n7_ := Aside0.mk ((by rw [hg]; exact (below_size (by repeat (first | (with_reducible first | exact HB.out | apply below_alloc | apply pw_below_drewN | apply below_drew1 | refine below_set ?_ GE413.out) | exact HB.out))) : w.heap.size ≤ gb425)); have n8_ := Aside0.mk ((by rw [hg]; exact (below_size (by repeat (first | (with_reducible first | exact HB.out | apply below_alloc | apply pw_below_drewN | apply below_drew1 | refine below_set ?_ GE413.out) | exact HB.out))) : w.heap.size ≤ gb425)); have n9_ := Aside0.mk ((by rw [hg]; exact Nat.ne_of_lt (blk_lt (g := gb413) (o := .cells #[.slice Ao19 y417.length co19, .int .i64 t408] 30 (0, 0)) (by (with_reducible repeat (first | refine blk_drewN ?_ _ | refine blk_drew ?_ | refine blk_alloc ?_ _)); exact BK413.out)) : gb413 ≠ gb425)); have n10_ := Aside0.mk ((by rw [hg]; exact Nat.ne_of_gt (blk_lt (g := gb413) (o := .cells #[.slice Ao19 y417.length co19, .int .i64 t408] 30 (0, 0)) (by (with_reducible repeat (first | refine blk_drewN ?_ _ | refine blk_drew ?_ | refine blk_alloc ?_ _)); exact BK413.out)) : gb425 ≠ gb413)); clear HO411; clear HO416; clear HO419; clear HO422; clear BK413; clear HB; have HO411 := n0_; have HO416 := n1_; have HO419 := n2_; have HO422 := n3_; have BK413 := n4_; have HB := n5_; have BK425 := n6_; have GW425 := n7_; have GE425 := n8_; have NB413_425 := n9_; have NB425_413 := n10_; clear n0_ n1_ n2_ n3_ n4_ n5_ n6_ n7_ n8_ n9_ n10_; clear hb hbox hg; obtain ⟨Ao24, co24, eo24⟩ := Kd.R_slice HO422.out; subst eo24; have hnb25 := NB425_413.out; have hnc25 := NB413_425.out; have hcz26_0 : w23.cell? ⟨gb425, 0, none⟩ = some (.slice none 0 0) := (blk_cell BK425.out 0).trans rfl; have hcz26_1 : w23.cell? ⟨gb425, 1, none⟩ = some (.int .i64 0) := (blk_cell BK425.out 1).trans rfl; have hfz26_0 := blk_frozen BK425.out 0; have hfz26_1 := blk_frozen BK425.out 1) | ((with_reducible refine gate_callee (f := 19) rfl ?_); refine goesL_ (some 40) rfl rfl Try.func19 (by kernel_rfl) rfl #[.agg #[.slice Ao24 t420.length co24, .int .i64 t423]] rfl (by (try simp only [List.map_toArray, List.map_cons, List.map_nil]); first | done | rfl | (simp only [List.length_drop, List.length_take]; rfl)) ?_; (with_reducible refine (tape_Repair.calls k _ _ t420 t423 t426 t429 t430 _ ?side1 ?side2 A8.out).mono ?_); (case side1 => refine (Kd.R_reads' (e := 5) (base := w.heap.size) (ok := fun k_ => ((True ∧ some k_ ≠ (.slice Ao18 t414.length co18 : Value).ownBlock) ∧ some k_ ≠ (.slice Ao19 y417.length co19 : Value).ownBlock)) (n := t420.length) (c := co24) ?_).2.2; exact (by (with_reducible repeat (first | apply Kd.R_alloc | apply Kd.R_drewN | apply Kd.R_drew)); exact (Kd.R_mono (Kd.R_far (p := ⟨gb425, 1, none⟩) (Kd.R_far (p := ⟨gb425, 0, none⟩) (Kd.R_types HO422.out BK425.out (by decide)) (fun _ hk => hk.2) (.slice Ao24 t420.length co24)) (fun _ hk => hk.2) (.int .i64 t423)) (fun _ h_ => h_.1)))); (case side2 => exact (Kd.R_reads' HO422.out).2.1); rintro e w27 ⟨v427, rfl, ho0, hb⟩; refine ⟨_, rfl, ?_⟩; have n0_ := Aside0.mk (Kd.S_below (by (with_reducible repeat (first | apply Kd.S_alloc | apply Kd.S_drewN | apply Kd.S_drew)); exact (Kd.S_mono (Kd.S_far (p := ⟨gb425, 1, none⟩) (Kd.S_far (p := ⟨gb425, 0, none⟩) (Kd.S_types HO411.out BK425.out (by decide)) (fun _ hk => hk.2) (.slice Ao24 t420.length co24)) (fun _ hk => hk.2) (.int .i64 t423)) (fun _ h_ => h_.1))) hb); have n1_ := Aside0.mk (Kd.R_elder' (by (with_reducible repeat (first | apply Kd.R_alloc | apply Kd.R_drewN | apply Kd.R_drew)); exact (Kd.R_mono (Kd.R_far (p := ⟨gb425, 1, none⟩) (Kd.R_far (p := ⟨gb425, 0, none⟩) (Kd.R_types HO416.out BK425.out (by decide)) (fun _ hk => hk.2) (.slice Ao24 t420.length co24)) (fun _ hk => hk.2) (.int .i64 t423)) (fun _ h_ => h_.1))) (Kd.R_base ho0) hb); have n2_ := Aside0.mk (Kd.R_elder' (by (with_reducible repeat (first | apply Kd.R_alloc | apply Kd.R_drewN | apply Kd.R_drew)); exact (Kd.R_mono (Kd.R_far (p := ⟨gb425, 1, none⟩) (Kd.R_far (p := ⟨gb425, 0, none⟩) (Kd.R_types HO419.out BK425.out (by decide)) (fun _ hk => hk.2) (.slice Ao24 t420.length co24)) (fun _ hk => hk.2) (.int .i64 t423)) (fun _ h_ => h_.1))) (Kd.R_base ho0) hb); have n3_ := Aside0.mk (Kd.R_elder' (by (with_reducible repeat (first | apply Kd.R_alloc | apply Kd.R_drewN | apply Kd.R_drew)); exact (Kd.R_mono (Kd.R_far (p := ⟨gb425, 1, none⟩) (Kd.R_far (p := ⟨gb425, 0, none⟩) (Kd.R_types HO422.out BK425.out (by decide)) (fun _ hk => hk.2) (.slice Ao24 t420.length co24)) (fun _ hk => hk.2) (.int .i64 t423)) (fun _ h_ => h_.1))) (Kd.R_base ho0) hb); have n4_ := Aside0.mk (Kd.R_lower (Kd.R_new' (Kd.R_new' (Kd.R_new' ho0 (Kd.R_lt (by (with_reducible repeat (first | apply Kd.R_alloc | apply Kd.R_drewN | apply Kd.R_drew)); exact (Kd.R_mono (Kd.R_far (p := ⟨gb425, 1, none⟩) (Kd.R_far (p := ⟨gb425, 0, none⟩) (Kd.R_types HO416.out BK425.out (by decide)) (fun _ hk => hk.2) (.slice Ao24 t420.length co24)) (fun _ hk => hk.2) (.int .i64 t423)) (fun _ h_ => h_.1))))) (Kd.R_lt (by (with_reducible repeat (first | apply Kd.R_alloc | apply Kd.R_drewN | apply Kd.R_drew)); exact (Kd.R_mono (Kd.R_far (p := ⟨gb425, 1, none⟩) (Kd.R_far (p := ⟨gb425, 0, none⟩) (Kd.R_types HO419.out BK425.out (by decide)) (fun _ hk => hk.2) (.slice Ao24 t420.length co24)) (fun _ hk => hk.2) (.int .i64 t423)) (fun _ h_ => h_.1))))) (Kd.R_lt (by (with_reducible repeat (first | apply Kd.R_alloc | apply Kd.R_drewN | apply Kd.R_drew)); exact (Kd.R_mono (Kd.R_far (p := ⟨gb425, 1, none⟩) (Kd.R_far (p := ⟨gb425, 0, none⟩) (Kd.R_types HO422.out BK425.out (by decide)) (fun _ hk => hk.2) (.slice Ao24 t420.length co24)) (fun _ hk => hk.2) (.int .i64 t423)) (fun _ h_ => h_.1))))) (below_size (by repeat (first | (with_reducible first | exact HB.out | apply below_alloc | apply pw_below_drewN | apply below_drew1 | refine below_set ?_ GE413.out | refine below_set ?_ GE425.out) | exact HB.out)))); have n5_ := Aside0.mk (blk_below (g := gb413) (o := .cells #[.slice Ao19 y417.length co19, .int .i64 t408] 30 (0, 0)) (by (with_reducible repeat (first | refine blk_drewN ?_ _ | refine blk_drew ?_ | refine blk_alloc ?_ _)); refine blk_far ?_ NB413_425.out _; (with_reducible repeat (first | refine blk_drewN ?_ _ | refine blk_drew ?_ | refine blk_alloc ?_ _)); refine blk_far ?_ NB413_425.out _; (with_reducible repeat (first | refine blk_drewN ?_ _ | refine blk_drew ?_ | refine blk_alloc ?_ _)); exact BK413.out) hb); have n6_ := Aside0.mk (blk_below (g := gb425) (o := .cells #[.slice Ao24 t420.length co24, .int .i64 t423] 30 (0, 0)) (by (with_reducible repeat (first | refine blk_drewN ?_ _ | refine blk_drew ?_ | refine blk_alloc ?_ _)); refine blk_put (cs := #[.slice Ao24 t420.length co24, .int .i64 0]) ?_ 1 _ rfl; (with_reducible repeat (first | refine blk_drewN ?_ _ | refine blk_drew ?_ | refine blk_alloc ?_ _)); refine blk_put (cs := #[.slice none 0 0, .int .i64 0]) ?_ 0 _ rfl; (with_reducible repeat (first | refine blk_drewN ?_ _ | refine blk_drew ?_ | refine blk_alloc ?_ _)); exact BK425.out) hb); have n7_ := Aside0.mk (below_step (by repeat (first | (with_reducible first | exact HB.out | apply below_alloc | apply pw_below_drewN | apply below_drew1 | refine below_set ?_ GE413.out | refine below_set ?_ GE425.out) | exact HB.out)) hb); clear HO411; clear HO416; clear HO419; clear HO422; clear BK413; clear BK425; clear HB; have HO411 := n0_; have HO416 := n1_; have HO419 := n2_; have HO422 := n3_; have HO428 := n4_; have BK413 := n5_; have BK425 := n6_; have HB := n7_; clear n0_ n1_ n2_ n3_ n4_ n5_ n6_ n7_; (try clear hb); (try clear hb2); (try clear hk); (try clear hi); (try clear ho0)) | ((with_reducible refine gate_dst (N := 12) rfl ?_); (try (refine gate_guard (by rfl) ?_; dsimp only)); refine box_event ?hg (N := 12) ?hd (cs := #[.slice none 0 0, .int .i64 0]) (t := 30) ?hr ?_; (case hd => rfl); (case hg => rfl); (case hr => first | (go_simp; done) | (go_simp; rfl)); intro gb431 hg w28 hbox hb; have n0_ := Aside0.mk (Kd.S_below (by (with_reducible repeat (first | apply Kd.S_alloc | apply Kd.S_drewN | apply Kd.S_drew)); exact HO411.out) hb); have n1_ := Aside0.mk (Kd.R_below (by (with_reducible repeat (first | apply Kd.R_alloc | apply Kd.R_drewN | apply Kd.R_drew)); exact HO416.out) hb); have n2_ := Aside0.mk (Kd.R_below (by (with_reducible repeat (first | apply Kd.R_alloc | apply Kd.R_drewN | apply Kd.R_drew)); exact HO419.out) hb); have n3_ := Aside0.mk (Kd.R_below (by (with_reducible repeat (first | apply Kd.R_alloc | apply Kd.R_drewN | apply Kd.R_drew)); exact HO422.out) hb); have n4_ := Aside0.mk (Kd.R_below (by (with_reducible repeat (first | apply Kd.R_alloc | apply Kd.R_drewN | apply Kd.R_drew)); exact HO428.out) hb); have n5_ := Aside0.mk (blk_below (g := gb413) (o := .cells #[.slice Ao19 y417.length co19, .int .i64 t408] 30 (0, 0)) (by (with_reducible repeat (first | refine blk_drewN ?_ _ | refine blk_drew ?_ | refine blk_alloc ?_ _)); exact BK413.out) hb); have n6_ := Aside0.mk (blk_below (g := gb425) (o := .cells #[.slice Ao24 t420.length co24, .int .i64 t423] 30 (0, 0)) (by (with_reducible repeat (first | refine blk_drewN ?_ _ | refine blk_drew ?_ | refine blk_alloc ?_ _)); exact BK425.out) hb); have n7_ := Aside0.mk (below_step (by repeat (first | (with_reducible first | exact HB.out | apply below_alloc | apply pw_below_drewN | apply below_drew1 | refine below_set ?_ GE413.out | refine below_set ?_ GE425.out) | exact HB.out)) hb); have n8_ := Aside0.mk (hbox); have n9_ := Aside0.mk ((by rw [hg]; exact (below_size (by repeat (first | (with_reducible first | exact HB.out | apply below_alloc | apply pw_below_drewN | apply below_drew1 | refine below_set ?_ GE413.out | refine below_set ?_ GE425.out) | exact HB.out))) : w.heap.size ≤ gb431)); have n10_ := Aside0.mk ((by rw [hg]; exact (below_size (by repeat (first | (with_reducible first | exact HB.out | apply below_alloc | apply pw_below_drewN | apply below_drew1 | refine below_set ?_ GE413.out | refine below_set ?_ GE425.out) | exact HB.out))) : w.heap.size ≤ gb431)); have n11_ := Aside0.mk ((by rw [hg]; exact Nat.ne_of_lt (blk_lt (g := gb413) (o := .cells #[.slice Ao19 y417.length co19, .int .i64 t408] 30 (0, 0)) (by (with_reducible repeat (first | refine blk_drewN ?_ _ | refine blk_drew ?_ | refine blk_alloc ?_ _)); exact BK413.out)) : gb413 ≠ gb431)); have n12_ := Aside0.mk ((by rw [hg]; exact Nat.ne_of_gt (blk_lt (g := gb413) (o := .cells #[.slice Ao19 y417.length co19, .int .i64 t408] 30 (0, 0)) (by (with_reducible repeat (first | refine blk_drewN ?_ _ | refine blk_drew ?_ | refine blk_alloc ?_ _)); exact BK413.out)) : gb431 ≠ gb413)); have n13_ := Aside0.mk ((by rw [hg]; exact Nat.ne_of_lt (blk_lt (g := gb425) (o := .cells #[.slice Ao24 t420.length co24, .int .i64 t423] 30 (0, 0)) (by (with_reducible repeat (first | refine blk_drewN ?_ _ | refine blk_drew ?_ | refine blk_alloc ?_ _)); exact BK425.out)) : gb425 ≠ gb431)); have n14_ := Aside0.mk ((by rw [hg]; exact Nat.ne_of_gt (blk_lt (g := gb425) (o := .cells #[.slice Ao24 t420.length co24, .int .i64 t423] 30 (0, 0)) (by (with_reducible repeat (first | refine blk_drewN ?_ _ | refine blk_drew ?_ | refine blk_alloc ?_ _)); exact BK425.out)) : gb431 ≠ gb425)); clear HO411; clear HO416; clear HO419; clear HO422; clear HO428; clear BK413; clear BK425; clear HB; have HO411 := n0_; have HO416 := n1_; have HO419 := n2_; have HO422 := n3_; have HO428 := n4_; have BK413 := n5_; have BK425 := n6_; have HB := n7_; have BK431 := n8_; have GW431 := n9_; have GE431 := n10_; have NB413_431 := n11_; have NB431_413 := n12_; have NB425_431 := n13_; have NB431_425 := n14_; clear n0_ n1_ n2_ n3_ n4_ n5_ n6_ n7_ n8_ n9_ n10_ n11_ n12_ n13_ n14_; clear hb hbox hg; obtain ⟨Ao29, co29, eo29⟩ := Kd.R_slice HO428.out; subst eo29; have hnb30 := NB431_413.out; have hnc30 := NB413_431.out; have hnb31 := NB431_425.out; have hnc31 := NB425_431.out; have hcz32_0 : w28.cell? ⟨gb431, 0, none⟩ = some (.slice none 0 0) := (blk_cell BK431.out 0).trans rfl; have hcz32_1 : w28.cell? ⟨gb431, 1, none⟩ = some (.int .i64 0) := (blk_cell BK431.out 1).trans rfl; have hfz32_0 := blk_frozen BK431.out 0; have hfz32_1 := blk_frozen BK431.out 1))
  (try simp only [Act.put, List.setIfInBounds_toArray, List.set_cons_zero, List.set_cons_succ])
  go_cut [14, 15, 16] (fun v14 v15 v16 wc => ∃ (kq : Nat) (x14_8 : List (List Int)) (x15_8 : Int) (x16_8 : Int), v15 = .int .i64 x15_8 ∧ v16 = .int .i64 x16_8 ∧ Aside0 (foretellkeep_TapeAgain.j0 kq a2 t409 t412 t424 t430 x14_8 x15_8 x16_8 t420 t423 t426 t429 = some r) ∧ Aside0 (kq ≤ k) ∧ Aside0 (Kd.S (Kd.slice 3 (Kd.int .i64)) 27 wc w.heap.size (fun _ => True) v410 t409) ∧ Aside0 (Kd.S (Kd.slice 3 (Kd.int .i64)) 27 wc w.heap.size (fun _ => True) v14 x14_8) ∧ Aside0 (Kd.R (Kd.int .u8) 5 wc w.heap.size (fun k_ => some k_ ≠ ((.slice Ao24 t420.length co24) : Value).ownBlock ∧ some k_ ≠ ((.slice Ao29 t426.length co29) : Value).ownBlock) (.slice Ao19 y417.length co19) y417) ∧ Aside0 (Kd.R (Kd.int .u8) 5 wc w.heap.size (fun k_ => some k_ ≠ ((.slice Ao19 y417.length co19) : Value).ownBlock ∧ some k_ ≠ ((.slice Ao29 t426.length co29) : Value).ownBlock) (.slice Ao24 t420.length co24) t420) ∧ Aside0 (Kd.R (Kd.int .u8) 5 wc w.heap.size (fun k_ => some k_ ≠ ((.slice Ao19 y417.length co19) : Value).ownBlock ∧ some k_ ≠ ((.slice Ao24 t420.length co24) : Value).ownBlock) (.slice Ao29 t426.length co29) t426) ∧ Aside0 (wc.heap[gb413]? = some (.cells #[(.slice Ao19 y417.length co19), .int .i64 t408] 30 (0, 0))) ∧ Aside0 (wc.heap[gb425]? = some (.cells #[(.slice Ao24 t420.length co24), .int .i64 t423] 30 (0, 0))) ∧ Aside0 (wc.heap[gb431]? = some (.cells #[(.slice Ao29 t426.length co29), .int .i64 t429] 30 (0, 0))) ∧ Aside0 (Below w.heap.size w wc))
  case first =>
   have H := HC9.out
   clear HC9
   replace H := Option.bind_eq_some_iff.mp H
   obtain ⟨⟨t432, t435, t436⟩, A330, H⟩ := H
   replace H : (foretellkeep_TapeAgain.j0 k a2 t409 t412 t424 t430 t432 t435 t436 t420 t423 t426 t429) = some r := H
   have A33 := Aside0.mk A330
   clear A330
   have H' := Aside0.mk H
   clear H
   have hnb34 := NB425_413.out
   have hnc34 := NB413_425.out
   have hnb35 := NB425_431.out
   have hnc35 := NB431_425.out
   have hcz36_0 : w28.cell? ⟨gb425, 0, none⟩ = some (.slice Ao24 t420.length co24) := (blk_cell BK425.out 0).trans rfl
   have hcz36_1 : w28.cell? ⟨gb425, 1, none⟩ = some (.int .i64 t423) := (blk_cell BK425.out 1).trans rfl
   have hfz36_0 := blk_frozen BK425.out 0
   have hfz36_1 := blk_frozen BK425.out 1
   go_wp2_with (first | ((with_reducible refine gate_callee (f := 15) rfl ?_); refine goesL_ (some 45) rfl rfl Try.func15 (by kernel_rfl) rfl #[.agg #[.slice Ao24 t420.length co24, .int .i64 t423]] rfl (by (try simp only [List.map_toArray, List.map_cons, List.map_nil]); first | done | rfl | (simp only [List.length_drop, List.length_take]; rfl)) ?_; (with_reducible refine (tape_Read.calls k _ _ t420 t423 t432 t435 t436 _ ?side1 ?side2 A33.out).mono ?_); (case side1 => refine (Kd.R_reads' (e := 5) (base := w.heap.size) (ok := fun k_ => (((True ∧ some k_ ≠ (.slice Ao18 t414.length co18 : Value).ownBlock) ∧ some k_ ≠ (.slice Ao19 y417.length co19 : Value).ownBlock) ∧ some k_ ≠ (.slice Ao29 t426.length co29 : Value).ownBlock)) (n := t420.length) (c := co24) ?_).2.2; exact (by (with_reducible repeat (first | apply Kd.R_alloc | apply Kd.R_drewN | apply Kd.R_drew)); exact (Kd.R_mono (Kd.R_far (p := ⟨gb431, 1, none⟩) (Kd.R_far (p := ⟨gb431, 0, none⟩) (Kd.R_types HO422.out BK431.out (by decide)) (fun _ hk => hk.2) (.slice Ao29 t426.length co29)) (fun _ hk => hk.2) (.int .i64 t429)) (fun _ h_ => h_.1)))); (case side2 => exact (Kd.R_reads' HO422.out).2.1); rintro e w37 ⟨v433, rfl, ho0, hb⟩; refine ⟨_, rfl, ?_⟩; have n0_ := Aside0.mk (Kd.S_elder' (by (with_reducible repeat (first | apply Kd.S_alloc | apply Kd.S_drewN | apply Kd.S_drew)); exact (Kd.S_mono (Kd.S_far (p := ⟨gb431, 1, none⟩) (Kd.S_far (p := ⟨gb431, 0, none⟩) (Kd.S_types HO411.out BK431.out (by decide)) (fun _ hk => hk.2) (.slice Ao29 t426.length co29)) (fun _ hk => hk.2) (.int .i64 t429)) (fun _ h_ => h_.1))) (Kd.S_base ho0) hb); have n1_ := Aside0.mk (Kd.R_below (by (with_reducible repeat (first | apply Kd.R_alloc | apply Kd.R_drewN | apply Kd.R_drew)); exact (Kd.R_mono (Kd.R_far (p := ⟨gb431, 1, none⟩) (Kd.R_far (p := ⟨gb431, 0, none⟩) (Kd.R_types HO416.out BK431.out (by decide)) (fun _ hk => hk.2) (.slice Ao29 t426.length co29)) (fun _ hk => hk.2) (.int .i64 t429)) (fun _ h_ => h_.1))) hb); have n2_ := Aside0.mk (Kd.R_below (by (with_reducible repeat (first | apply Kd.R_alloc | apply Kd.R_drewN | apply Kd.R_drew)); exact (Kd.R_mono (Kd.R_far (p := ⟨gb431, 1, none⟩) (Kd.R_far (p := ⟨gb431, 0, none⟩) (Kd.R_types HO419.out BK431.out (by decide)) (fun _ hk => hk.2) (.slice Ao29 t426.length co29)) (fun _ hk => hk.2) (.int .i64 t429)) (fun _ h_ => h_.1))) hb); have n3_ := Aside0.mk (Kd.R_below (by (with_reducible repeat (first | apply Kd.R_alloc | apply Kd.R_drewN | apply Kd.R_drew)); exact (Kd.R_mono (Kd.R_far (p := ⟨gb431, 1, none⟩) (Kd.R_far (p := ⟨gb431, 0, none⟩) (Kd.R_types HO422.out BK431.out (by decide)) (fun _ hk => hk.2) (.slice Ao29 t426.length co29)) (fun _ hk => hk.2) (.int .i64 t429)) (fun _ h_ => h_.1))) hb); have n4_ := Aside0.mk (Kd.R_below (by (with_reducible repeat (first | apply Kd.R_alloc | apply Kd.R_drewN | apply Kd.R_drew)); exact (Kd.R_mono (Kd.R_far (p := ⟨gb431, 1, none⟩) (Kd.R_far (p := ⟨gb431, 0, none⟩) (Kd.R_types HO428.out BK431.out (by decide)) (fun _ hk => hk.2) (.slice Ao29 t426.length co29)) (fun _ hk => hk.2) (.int .i64 t429)) (fun _ h_ => h_.1))) hb); have n5_ := Aside0.mk (Kd.S_lower (Kd.S_new' ho0 (Kd.S_lt (by (with_reducible repeat (first | apply Kd.S_alloc | apply Kd.S_drewN | apply Kd.S_drew)); exact (Kd.S_mono (Kd.S_far (p := ⟨gb431, 1, none⟩) (Kd.S_far (p := ⟨gb431, 0, none⟩) (Kd.S_types HO411.out BK431.out (by decide)) (fun _ hk => hk.2) (.slice Ao29 t426.length co29)) (fun _ hk => hk.2) (.int .i64 t429)) (fun _ h_ => h_.1))))) (below_size (by repeat (first | (with_reducible first | exact HB.out | apply below_alloc | apply pw_below_drewN | apply below_drew1 | refine below_set ?_ GE413.out | refine below_set ?_ GE425.out | refine below_set ?_ GE431.out) | exact HB.out)))); have n6_ := Aside0.mk (blk_below (g := gb413) (o := .cells #[.slice Ao19 y417.length co19, .int .i64 t408] 30 (0, 0)) (by (with_reducible repeat (first | refine blk_drewN ?_ _ | refine blk_drew ?_ | refine blk_alloc ?_ _)); refine blk_far ?_ NB413_431.out _; (with_reducible repeat (first | refine blk_drewN ?_ _ | refine blk_drew ?_ | refine blk_alloc ?_ _)); refine blk_far ?_ NB413_431.out _; (with_reducible repeat (first | refine blk_drewN ?_ _ | refine blk_drew ?_ | refine blk_alloc ?_ _)); exact BK413.out) hb); have n7_ := Aside0.mk (blk_below (g := gb425) (o := .cells #[.slice Ao24 t420.length co24, .int .i64 t423] 30 (0, 0)) (by (with_reducible repeat (first | refine blk_drewN ?_ _ | refine blk_drew ?_ | refine blk_alloc ?_ _)); refine blk_far ?_ NB425_431.out _; (with_reducible repeat (first | refine blk_drewN ?_ _ | refine blk_drew ?_ | refine blk_alloc ?_ _)); refine blk_far ?_ NB425_431.out _; (with_reducible repeat (first | refine blk_drewN ?_ _ | refine blk_drew ?_ | refine blk_alloc ?_ _)); exact BK425.out) hb); have n8_ := Aside0.mk (blk_below (g := gb431) (o := .cells #[.slice Ao29 t426.length co29, .int .i64 t429] 30 (0, 0)) (by (with_reducible repeat (first | refine blk_drewN ?_ _ | refine blk_drew ?_ | refine blk_alloc ?_ _)); refine blk_put (cs := #[.slice Ao29 t426.length co29, .int .i64 0]) ?_ 1 _ rfl; (with_reducible repeat (first | refine blk_drewN ?_ _ | refine blk_drew ?_ | refine blk_alloc ?_ _)); refine blk_put (cs := #[.slice none 0 0, .int .i64 0]) ?_ 0 _ rfl; (with_reducible repeat (first | refine blk_drewN ?_ _ | refine blk_drew ?_ | refine blk_alloc ?_ _)); exact BK431.out) hb); have n9_ := Aside0.mk (below_step (by repeat (first | (with_reducible first | exact HB.out | apply below_alloc | apply pw_below_drewN | apply below_drew1 | refine below_set ?_ GE413.out | refine below_set ?_ GE425.out | refine below_set ?_ GE431.out) | exact HB.out)) hb); clear HO411; clear HO416; clear HO419; clear HO422; clear HO428; clear BK413; clear BK425; clear BK431; clear HB; have HO411 := n0_; have HO416 := n1_; have HO419 := n2_; have HO422 := n3_; have HO428 := n4_; have HO434 := n5_; have BK413 := n6_; have BK425 := n7_; have BK431 := n8_; have HB := n9_; clear n0_ n1_ n2_ n3_ n4_ n5_ n6_ n7_ n8_ n9_; (try clear hb); (try clear hb2); (try clear hk); (try clear hi); (try clear ho0)))
   go_meet
   case rel => exact ⟨_, (t432), (t435), (t436), (by first | rfl | (simp; done) | (simp [*]; done)), (by first | rfl | (simp; done) | (simp [*]; done)), H', ⟨by first | omega | exact Nat.le_refl _⟩, ⟨by (with_reducible repeat (first | apply Kd.S_alloc | apply Kd.S_drewN | apply Kd.S_drew)); exact Kd.S_mono HO411.out (fun _ hk => by first | exact hk.2 | trivial)⟩, ⟨by (with_reducible repeat (first | apply Kd.S_alloc | apply Kd.S_drewN | apply Kd.S_drew)); exact Kd.S_mono HO434.out (fun _ hk => by first | exact hk.2 | trivial)⟩, ⟨by (with_reducible repeat (first | apply Kd.R_alloc | apply Kd.R_drewN | apply Kd.R_drew)); exact Kd.R_mono HO419.out (fun _ hk => ⟨hk.1.2, hk.2⟩)⟩, ⟨by (with_reducible repeat (first | apply Kd.R_alloc | apply Kd.R_drewN | apply Kd.R_drew)); exact Kd.R_mono HO422.out (fun _ hk => ⟨hk.1.2, hk.2⟩)⟩, ⟨by (with_reducible repeat (first | apply Kd.R_alloc | apply Kd.R_drewN | apply Kd.R_drew)); exact Kd.R_mono HO428.out (fun _ hk => ⟨hk.1.2, hk.2⟩)⟩, ⟨by (with_reducible repeat (first | refine blk_drewN ?_ _ | refine blk_drew ?_ | refine blk_alloc ?_ _)); exact BK413.out⟩, ⟨by (with_reducible repeat (first | refine blk_drewN ?_ _ | refine blk_drew ?_ | refine blk_alloc ?_ _)); exact BK425.out⟩, ⟨by (with_reducible repeat (first | refine blk_drewN ?_ _ | refine blk_drew ?_ | refine blk_alloc ?_ _)); exact BK431.out⟩, ⟨by repeat (first | (with_reducible first | exact HB.out | apply below_alloc | apply pw_below_drewN | apply below_drew1 | refine below_set ?_ GE413.out | refine below_set ?_ GE425.out | refine below_set ?_ GE431.out) | exact HB.out)⟩⟩
  case rest =>
   clear HC9
   try clear c1
   try clear c2
   try clear p2
   try clear c3
   try clear c6
   try clear c8
   try clear c9
   try clear c14
   try clear c15
   try clear c19
   try clear c25
   try clear c30
   try clear c31
   try clear c34
   try clear c35
   try clear hcz13_0
   try clear hcz13_1
   try clear hcz21_0
   try clear hcz21_1
   try clear hcz26_0
   try clear hcz26_1
   try clear hcz32_0
   try clear hcz32_1
   try clear hcz36_0
   try clear hcz36_1
   try clear hfz13_0
   try clear hfz13_1
   try clear hfz21_0
   try clear hfz21_1
   try clear hfz26_0
   try clear hfz26_1
   try clear hfz32_0
   try clear hfz32_1
   try clear hfz36_0
   try clear hfz36_1
   obtain ⟨kq, x14_8, x15_8, x16_8, rfl, rfl, HA, HJ8, HO_8, HO_14, HO_414000, HO_426000, HO_432000, BK413, BK425, BK431, HB⟩ := hcut
   cases kq with
   | zero => exact absurd HA.out (by simp [foretellkeep_TapeAgain.j0])
   | succ kj8 =>
    have H := HA.out
    clear HA
    simp only [foretellkeep_TapeAgain.j0] at H
    replace H := Option.bind_eq_some_iff.mp H
    obtain ⟨⟨t437, t440, t441⟩, A380, H⟩ := H
    replace H : ((foretellkeep_picked.f a2 50).bind fun t443 => ((tape_Crash.f t437 t440 t443).bind fun bt444 => (if t412 = true then (if t424 = 0 then (if t430 = 0 then (if x16_8 = 0 then (if t441 = 0 then (if bt444.2.2 = 0 then (if x15_8 = (t420.length : Int) then (if (x14_8.length : Int) ≥ (t409.length : Int) then (if 0 ≤ (t409.length : Int) then (if (t409.length : Int) ≤ (x14_8.length : Int) then ((foretellkeep_sameLists.f kj8 (x14_8.take ((t409.length : Int) : Int).toNat) t409).bind fun t454 => (if t454 = true then (if (strOfNums t420).toList = (strOfNums t426).toList then (if (strOfNums bt444.1).toList = (strOfNums t420).toList then (if (t409.length : Int) = 0 then (some true) else (some (decide (x15_8 ≥ 8)))) else (some false)) else (some false)) else (some false))) else (none)) else (none)) else (some false)) else (some false)) else (some false)) else (some false)) else (some false)) else (some false)) else (some false)) else (some false)))) = some r := H
    have A38 := Aside0.mk A380
    clear A380
    replace H := Option.bind_eq_some_iff.mp H
    obtain ⟨t443, A390, H⟩ := H
    replace H : ((tape_Crash.f t437 t440 t443).bind fun bt444 => (if t412 = true then (if t424 = 0 then (if t430 = 0 then (if x16_8 = 0 then (if t441 = 0 then (if bt444.2.2 = 0 then (if x15_8 = (t420.length : Int) then (if (x14_8.length : Int) ≥ (t409.length : Int) then (if 0 ≤ (t409.length : Int) then (if (t409.length : Int) ≤ (x14_8.length : Int) then ((foretellkeep_sameLists.f kj8 (x14_8.take ((t409.length : Int) : Int).toNat) t409).bind fun t454 => (if t454 = true then (if (strOfNums t420).toList = (strOfNums t426).toList then (if (strOfNums bt444.1).toList = (strOfNums t420).toList then (if (t409.length : Int) = 0 then (some true) else (some (decide (x15_8 ≥ 8)))) else (some false)) else (some false)) else (some false))) else (none)) else (none)) else (some false)) else (some false)) else (some false)) else (some false)) else (some false)) else (some false)) else (some false)) else (some false))) = some r := H
    have A39 := Aside0.mk A390
    clear A390
    replace H := Option.bind_eq_some_iff.mp H
    obtain ⟨⟨t444, t447, t448⟩, A400, H⟩ := H
    replace H : (if t412 = true then (if t424 = 0 then (if t430 = 0 then (if x16_8 = 0 then (if t441 = 0 then (if t448 = 0 then (if x15_8 = (t420.length : Int) then (if (x14_8.length : Int) ≥ (t409.length : Int) then (if 0 ≤ (t409.length : Int) then (if (t409.length : Int) ≤ (x14_8.length : Int) then ((foretellkeep_sameLists.f kj8 (x14_8.take ((t409.length : Int) : Int).toNat) t409).bind fun t454 => (if t454 = true then (if (strOfNums t420).toList = (strOfNums t426).toList then (if (strOfNums t444).toList = (strOfNums t420).toList then (if (t409.length : Int) = 0 then (some true) else (some (decide (x15_8 ≥ 8)))) else (some false)) else (some false)) else (some false))) else (none)) else (none)) else (some false)) else (some false)) else (some false)) else (some false)) else (some false)) else (some false)) else (some false)) else (some false)) = some r := H
    have A40 := Aside0.mk A400
    clear A400
    by_cases c41 : t412 = true
    ·
     subst c41
     have H1 : (if t424 = 0 then (if t430 = 0 then (if x16_8 = 0 then (if t441 = 0 then (if t448 = 0 then (if x15_8 = (t420.length : Int) then (if (x14_8.length : Int) ≥ (t409.length : Int) then (if 0 ≤ (t409.length : Int) then (if (t409.length : Int) ≤ (x14_8.length : Int) then ((foretellkeep_sameLists.f kj8 (x14_8.take ((t409.length : Int) : Int).toNat) t409).bind fun t454 => (if t454 = true then (if (strOfNums t420).toList = (strOfNums t426).toList then (if (strOfNums t444).toList = (strOfNums t420).toList then (if (t409.length : Int) = 0 then (some true) else (some (decide (x15_8 ≥ 8)))) else (some false)) else (some false)) else (some false))) else (none)) else (none)) else (some false)) else (some false)) else (some false)) else (some false)) else (some false)) else (some false)) else (some false)) = some r := by rw [if_pos rfl] at H; exact H
     clear H
     have H := H1
     clear H1
     by_cases c42 : t424 = 0
     ·
      rw [if_pos c42] at H
      have c42b0 : (t424 == 0) = true := beq_iff_eq.mpr c42
      have c42b1 : (t424 != 0) = false := bne_eq_false_iff_eq.mpr c42
      clear c42
      by_cases c43 : t430 = 0
      ·
       rw [if_pos c43] at H
       have c43b0 : (t430 == 0) = true := beq_iff_eq.mpr c43
       have c43b1 : (t430 != 0) = false := bne_eq_false_iff_eq.mpr c43
       clear c43
       by_cases c44 : x16_8 = 0
       ·
        rw [if_pos c44] at H
        have c44b0 : (x16_8 == 0) = true := beq_iff_eq.mpr c44
        have c44b1 : (x16_8 != 0) = false := bne_eq_false_iff_eq.mpr c44
        clear c44
        by_cases c45 : t441 = 0
        ·
         rw [if_pos c45] at H
         have c45b0 : (t441 == 0) = true := beq_iff_eq.mpr c45
         have c45b1 : (t441 != 0) = false := bne_eq_false_iff_eq.mpr c45
         clear c45
         by_cases c46 : t448 = 0
         ·
          rw [if_pos c46] at H
          have c46b0 : (t448 == 0) = true := beq_iff_eq.mpr c46
          have c46b1 : (t448 != 0) = false := bne_eq_false_iff_eq.mpr c46
          clear c46
          by_cases c47 : x15_8 = (t420.length : Int)
          ·
           rw [if_pos c47] at H
           have c47b0 : (x15_8 == (t420.length : Int)) = true := beq_iff_eq.mpr c47
           have c47b1 : (x15_8 != (t420.length : Int)) = false := bne_eq_false_iff_eq.mpr c47
           clear c47
           by_cases c48 : (x14_8.length : Int) ≥ (t409.length : Int)
           ·
            rw [if_pos c48] at H
            have c48b0 : decide ((t409.length : Int) ≤ (x14_8.length : Int)) = true := decide_eq_true c48
            have c48b1 : decide (t409.length ≤ x14_8.length) = true := decide_eq_true (Int.ofNat_le.mp c48)
            clear c48
            by_cases c49 : 0 ≤ (t409.length : Int)
            ·
             rw [if_pos c49] at H
             have c49b0 := eq_true c49
             have c49b1 : decide (0 ≤ (t409.length : Int)) = true := decide_eq_true c49
             clear c49
             by_cases c50 : (t409.length : Int) ≤ (x14_8.length : Int)
             ·
              rw [if_pos c50] at H
              have c50b0 := eq_true c50
              have c50b1 : decide ((t409.length : Int) ≤ (x14_8.length : Int)) = true := decide_eq_true c50
              clear c50
              obtain ⟨y450, hy450⟩ : ∃ y_ : List (List Int), y_ = (x14_8.take ((t409.length : Int) : Int).toNat) := ⟨_, rfl⟩
              replace H : ((foretellkeep_sameLists.f kj8 y450 t409).bind fun t454 => (if t454 = true then (if (strOfNums t420).toList = (strOfNums t426).toList then (if (strOfNums t444).toList = (strOfNums t420).toList then (if (t409.length : Int) = 0 then (some true) else (some (decide (x15_8 ≥ 8)))) else (some false)) else (some false)) else (some false))) = some r := by first | (rw [hy450]; with_reducible exact H) | (have H2_ := (Option.bind_some _ _).symm.trans H; rw [hy450]; with_reducible exact H2_) | (have H2_ := (Option.bind_some _ _).symm.trans H; with_reducible exact H2_) | with_reducible exact H | (rw [hy450]; exact H) | exact H
              have Ny450 := Aside0.mk hy450
              clear hy450
              replace H := Option.bind_eq_some_iff.mp H
              obtain ⟨t454, A510, H⟩ := H
              replace H : (if t454 = true then (if (strOfNums t420).toList = (strOfNums t426).toList then (if (strOfNums t444).toList = (strOfNums t420).toList then (if (t409.length : Int) = 0 then (some true) else (some (decide (x15_8 ≥ 8)))) else (some false)) else (some false)) else (some false)) = some r := H
              have A51 := Aside0.mk A510
              clear A510
              by_cases c52 : t454 = true
              ·
               subst c52
               have H1 : (if (strOfNums t420).toList = (strOfNums t426).toList then (if (strOfNums t444).toList = (strOfNums t420).toList then (if (t409.length : Int) = 0 then (some true) else (some (decide (x15_8 ≥ 8)))) else (some false)) else (some false)) = some r := by rw [if_pos rfl] at H; exact H
               clear H
               have H := H1
               clear H1
               by_cases c53 : (strOfNums t420).toList = (strOfNums t426).toList
               ·
                rw [if_pos c53] at H
                have c53b0 : ((strOfNums t420).toList == (strOfNums t426).toList) = true := beq_iff_eq.mpr c53
                have c53b1 : ((strOfNums t420).toList != (strOfNums t426).toList) = false := bne_eq_false_iff_eq.mpr c53
                clear c53
                by_cases c54 : (strOfNums t444).toList = (strOfNums t420).toList
                ·
                 rw [if_pos c54] at H
                 have c54b0 : ((strOfNums t444).toList == (strOfNums t420).toList) = true := beq_iff_eq.mpr c54
                 have c54b1 : ((strOfNums t444).toList != (strOfNums t420).toList) = false := bne_eq_false_iff_eq.mpr c54
                 clear c54
                 by_cases c55 : (t409.length : Int) = 0
                 ·
                  rw [if_pos c55] at H
                  have c55b0 : ((t409.length : Int) == 0) = true := beq_iff_eq.mpr c55
                  have c55b1 : ((t409.length : Int) != 0) = false := bne_eq_false_iff_eq.mpr c55
                  clear c55
                  obtain rfl := Option.some.inj H
                  have hnb56 := NB425_413.out
                  have hnc56 := NB413_425.out
                  have hnb57 := NB425_431.out
                  have hnc57 := NB431_425.out
                  have hcz58_0 : wc.cell? ⟨gb425, 0, none⟩ = some (.slice Ao24 t420.length co24) := (blk_cell BK425.out 0).trans rfl
                  have hcz58_1 : wc.cell? ⟨gb425, 1, none⟩ = some (.int .i64 t423) := (blk_cell BK425.out 1).trans rfl
                  have hfz58_0 := blk_frozen BK425.out 0
                  have hfz58_1 := blk_frozen BK425.out 1
                  try go_wp2_with (first | ((with_reducible refine gate_callee (f := 17) rfl ?_); refine goesL_ (some 51) rfl rfl Try.func17 (by kernel_rfl) rfl #[.agg #[.slice Ao24 t420.length co24, .int .i64 t423]] rfl (by (try simp only [List.map_toArray, List.map_cons, List.map_nil]); first | done | rfl | (simp only [List.length_drop, List.length_take]; rfl)) ?_; (with_reducible refine (tape_Sync.calls _ _ t420 t423 t437 t440 t441 _ ?side1 ?side2 A38.out).mono ?_); (case side1 => repeat (first | exact (Kd.R_reads' HO_426000.out).2.2 | (with_reducible refine Kd.C_alloc ?_ _) | (with_reducible refine Kd.C_drewN ?_ _) | (with_reducible refine Kd.C_drew ?_))); (case side2 => exact (Kd.R_reads' HO_426000.out).2.1); rintro e w59 ⟨v438, rfl, ho0, hb⟩; refine ⟨_, rfl, ?_⟩; have n0_ := Aside0.mk (Kd.S_below (by (with_reducible repeat (first | apply Kd.S_alloc | apply Kd.S_drewN | apply Kd.S_drew)); exact HO_8.out) hb); have n1_ := Aside0.mk (Kd.S_below (by (with_reducible repeat (first | apply Kd.S_alloc | apply Kd.S_drewN | apply Kd.S_drew)); exact HO_14.out) hb); have n2_ := Aside0.mk (Kd.R_elder' (by (with_reducible repeat (first | apply Kd.R_alloc | apply Kd.R_drewN | apply Kd.R_drew)); exact HO_414000.out) (Kd.R_base ho0) hb); have n3_ := Aside0.mk (Kd.R_elder' (by (with_reducible repeat (first | apply Kd.R_alloc | apply Kd.R_drewN | apply Kd.R_drew)); exact HO_426000.out) (Kd.R_base ho0) hb); have n4_ := Aside0.mk (Kd.R_elder' (by (with_reducible repeat (first | apply Kd.R_alloc | apply Kd.R_drewN | apply Kd.R_drew)); exact HO_432000.out) (Kd.R_base ho0) hb); have n5_ := Aside0.mk (Kd.R_lower (Kd.R_new' (Kd.R_new' (Kd.R_new' ho0 (Kd.R_lt (by (with_reducible repeat (first | apply Kd.R_alloc | apply Kd.R_drewN | apply Kd.R_drew)); exact HO_414000.out))) (Kd.R_lt (by (with_reducible repeat (first | apply Kd.R_alloc | apply Kd.R_drewN | apply Kd.R_drew)); exact HO_426000.out))) (Kd.R_lt (by (with_reducible repeat (first | apply Kd.R_alloc | apply Kd.R_drewN | apply Kd.R_drew)); exact HO_432000.out))) (below_size (by repeat (first | (with_reducible first | exact HB.out | apply below_alloc | apply pw_below_drewN | apply below_drew1 | refine below_set ?_ GE413.out | refine below_set ?_ GE425.out | refine below_set ?_ GE431.out) | exact HB.out)))); have n6_ := Aside0.mk (blk_below (g := gb413) (o := .cells #[.slice Ao19 y417.length co19, .int .i64 t408] 30 (0, 0)) (by (with_reducible repeat (first | refine blk_drewN ?_ _ | refine blk_drew ?_ | refine blk_alloc ?_ _)); exact BK413.out) hb); have n7_ := Aside0.mk (blk_below (g := gb425) (o := .cells #[.slice Ao24 t420.length co24, .int .i64 t423] 30 (0, 0)) (by (with_reducible repeat (first | refine blk_drewN ?_ _ | refine blk_drew ?_ | refine blk_alloc ?_ _)); exact BK425.out) hb); have n8_ := Aside0.mk (blk_below (g := gb431) (o := .cells #[.slice Ao29 t426.length co29, .int .i64 t429] 30 (0, 0)) (by (with_reducible repeat (first | refine blk_drewN ?_ _ | refine blk_drew ?_ | refine blk_alloc ?_ _)); exact BK431.out) hb); have n9_ := Aside0.mk (below_step (by repeat (first | (with_reducible first | exact HB.out | apply below_alloc | apply pw_below_drewN | apply below_drew1 | refine below_set ?_ GE413.out | refine below_set ?_ GE425.out | refine below_set ?_ GE431.out) | exact HB.out)) hb); clear HO_8; clear HO_14; clear HO_414000; clear HO_426000; clear HO_432000; clear BK413; clear BK425; clear BK431; clear HB; have HO_8 := n0_; have HO_14 := n1_; have HO_414000 := n2_; have HO_426000 := n3_; have HO_432000 := n4_; have HO439 := n5_; have BK413 := n6_; have BK425 := n7_; have BK431 := n8_; have HB := n9_; clear n0_ n1_ n2_ n3_ n4_ n5_ n6_ n7_ n8_ n9_; (try clear hb); (try clear hb2); (try clear hk); (try clear hi); (try clear ho0)) | ((with_reducible refine gate_dst (N := 17) rfl ?_); (try (refine gate_guard (by rfl) ?_; dsimp only)); refine box_event ?hg (N := 17) ?hd (cs := #[.slice none 0 0, .int .i64 0]) (t := 30) ?hr ?_; (case hd => rfl); (case hg => rfl); (case hr => first | (go_simp; done) | (go_simp; rfl)); intro gb442 hg w60 hbox hb; have n0_ := Aside0.mk (Kd.S_below (by (with_reducible repeat (first | apply Kd.S_alloc | apply Kd.S_drewN | apply Kd.S_drew)); exact HO_8.out) hb); have n1_ := Aside0.mk (Kd.S_below (by (with_reducible repeat (first | apply Kd.S_alloc | apply Kd.S_drewN | apply Kd.S_drew)); exact HO_14.out) hb); have n2_ := Aside0.mk (Kd.R_below (by (with_reducible repeat (first | apply Kd.R_alloc | apply Kd.R_drewN | apply Kd.R_drew)); exact HO_414000.out) hb); have n3_ := Aside0.mk (Kd.R_below (by (with_reducible repeat (first | apply Kd.R_alloc | apply Kd.R_drewN | apply Kd.R_drew)); exact HO_426000.out) hb); have n4_ := Aside0.mk (Kd.R_below (by (with_reducible repeat (first | apply Kd.R_alloc | apply Kd.R_drewN | apply Kd.R_drew)); exact HO_432000.out) hb); have n5_ := Aside0.mk (Kd.R_below (by (with_reducible repeat (first | apply Kd.R_alloc | apply Kd.R_drewN | apply Kd.R_drew)); exact HO439.out) hb); have n6_ := Aside0.mk (blk_below (g := gb413) (o := .cells #[.slice Ao19 y417.length co19, .int .i64 t408] 30 (0, 0)) (by (with_reducible repeat (first | refine blk_drewN ?_ _ | refine blk_drew ?_ | refine blk_alloc ?_ _)); exact BK413.out) hb); have n7_ := Aside0.mk (blk_below (g := gb425) (o := .cells #[.slice Ao24 t420.length co24, .int .i64 t423] 30 (0, 0)) (by (with_reducible repeat (first | refine blk_drewN ?_ _ | refine blk_drew ?_ | refine blk_alloc ?_ _)); exact BK425.out) hb); have n8_ := Aside0.mk (blk_below (g := gb431) (o := .cells #[.slice Ao29 t426.length co29, .int .i64 t429] 30 (0, 0)) (by (with_reducible repeat (first | refine blk_drewN ?_ _ | refine blk_drew ?_ | refine blk_alloc ?_ _)); exact BK431.out) hb); have n9_ := Aside0.mk (below_step (by repeat (first | (with_reducible first | exact HB.out | apply below_alloc | apply pw_below_drewN | apply below_drew1 | refine below_set ?_ GE413.out | refine below_set ?_ GE425.out | refine below_set ?_ GE431.out) | exact HB.out)) hb); have n10_ := Aside0.mk (hbox); have n11_ := Aside0.mk ((by rw [hg]; exact (below_size (by repeat (first | (with_reducible first | exact HB.out | apply below_alloc | apply pw_below_drewN | apply below_drew1 | refine below_set ?_ GE413.out | refine below_set ?_ GE425.out | refine below_set ?_ GE431.out) | exact HB.out))) : w.heap.size ≤ gb442)); have n12_ := Aside0.mk ((by rw [hg]; exact (below_size (by repeat (first | (with_reducible first | exact HB.out | apply below_alloc | apply pw_below_drewN | apply below_drew1 | refine below_set ?_ GE413.out | refine below_set ?_ GE425.out | refine below_set ?_ GE431.out) | exact HB.out))) : w.heap.size ≤ gb442)); have n13_ := Aside0.mk ((by rw [hg]; exact Nat.ne_of_lt (blk_lt (g := gb413) (o := .cells #[.slice Ao19 y417.length co19, .int .i64 t408] 30 (0, 0)) (by (with_reducible repeat (first | refine blk_drewN ?_ _ | refine blk_drew ?_ | refine blk_alloc ?_ _)); exact BK413.out)) : gb413 ≠ gb442)); have n14_ := Aside0.mk ((by rw [hg]; exact Nat.ne_of_gt (blk_lt (g := gb413) (o := .cells #[.slice Ao19 y417.length co19, .int .i64 t408] 30 (0, 0)) (by (with_reducible repeat (first | refine blk_drewN ?_ _ | refine blk_drew ?_ | refine blk_alloc ?_ _)); exact BK413.out)) : gb442 ≠ gb413)); have n15_ := Aside0.mk ((by rw [hg]; exact Nat.ne_of_lt (blk_lt (g := gb425) (o := .cells #[.slice Ao24 t420.length co24, .int .i64 t423] 30 (0, 0)) (by (with_reducible repeat (first | refine blk_drewN ?_ _ | refine blk_drew ?_ | refine blk_alloc ?_ _)); exact BK425.out)) : gb425 ≠ gb442)); have n16_ := Aside0.mk ((by rw [hg]; exact Nat.ne_of_gt (blk_lt (g := gb425) (o := .cells #[.slice Ao24 t420.length co24, .int .i64 t423] 30 (0, 0)) (by (with_reducible repeat (first | refine blk_drewN ?_ _ | refine blk_drew ?_ | refine blk_alloc ?_ _)); exact BK425.out)) : gb442 ≠ gb425)); have n17_ := Aside0.mk ((by rw [hg]; exact Nat.ne_of_lt (blk_lt (g := gb431) (o := .cells #[.slice Ao29 t426.length co29, .int .i64 t429] 30 (0, 0)) (by (with_reducible repeat (first | refine blk_drewN ?_ _ | refine blk_drew ?_ | refine blk_alloc ?_ _)); exact BK431.out)) : gb431 ≠ gb442)); have n18_ := Aside0.mk ((by rw [hg]; exact Nat.ne_of_gt (blk_lt (g := gb431) (o := .cells #[.slice Ao29 t426.length co29, .int .i64 t429] 30 (0, 0)) (by (with_reducible repeat (first | refine blk_drewN ?_ _ | refine blk_drew ?_ | refine blk_alloc ?_ _)); exact BK431.out)) : gb442 ≠ gb431)); clear HO_8; clear HO_14; clear HO_414000; clear HO_426000; clear HO_432000; clear HO439; clear BK413; clear BK425; clear BK431; clear HB; have HO_8 := n0_; have HO_14 := n1_; have HO_414000 := n2_; have HO_426000 := n3_; have HO_432000 := n4_; have HO439 := n5_; have BK413 := n6_; have BK425 := n7_; have BK431 := n8_; have HB := n9_; have BK442 := n10_; have GW442 := n11_; have GE442 := n12_; have NB413_442 := n13_; have NB442_413 := n14_; have NB425_442 := n15_; have NB442_425 := n16_; have NB431_442 := n17_; have NB442_431 := n18_; clear n0_ n1_ n2_ n3_ n4_ n5_ n6_ n7_ n8_ n9_ n10_ n11_ n12_ n13_ n14_ n15_ n16_ n17_ n18_; clear hb hbox hg; obtain ⟨Ao61, co61, eo61⟩ := Kd.R_slice HO439.out; subst eo61; have hnb62 := NB442_413.out; have hnc62 := NB413_442.out; have hnb63 := NB442_425.out; have hnc63 := NB425_442.out; have hnb64 := NB442_431.out; have hnc64 := NB431_442.out; have hcz65_0 : w60.cell? ⟨gb442, 0, none⟩ = some (.slice none 0 0) := (blk_cell BK442.out 0).trans rfl; have hcz65_1 : w60.cell? ⟨gb442, 1, none⟩ = some (.int .i64 0) := (blk_cell BK442.out 1).trans rfl; have hfz65_0 := blk_frozen BK442.out 0; have hfz65_1 := blk_frozen BK442.out 1))
                  have n0_ : Aside0 (Kd.S (Kd.slice 3 (Kd.int .i64)) 27 ((w60.setCell ⟨gb442, 0, none⟩ (.slice Ao61 t437.length co61)).setCell ⟨gb442, 1, none⟩ (.int .i64 t440)) w.heap.size (fun _ => True) v410 t409) := ⟨by (with_reducible repeat (first | apply Kd.S_alloc | apply Kd.S_drewN | apply Kd.S_drew)); exact Kd.S_mono (Kd.S_far (p := ⟨gb442, 1, none⟩) (Kd.S_far (p := ⟨gb442, 0, none⟩) (Kd.S_types HO_8.out BK442.out (by decide)) (fun _ hk => hk.2) (.slice Ao61 t437.length co61)) (fun _ hk => hk.2) (.int .i64 t440)) (fun _ hk => trivial)⟩
                  have n1_ : Aside0 (Kd.S (Kd.slice 3 (Kd.int .i64)) 27 ((w60.setCell ⟨gb442, 0, none⟩ (.slice Ao61 t437.length co61)).setCell ⟨gb442, 1, none⟩ (.int .i64 t440)) w.heap.size (fun _ => True) u14 x14_8) := ⟨by (with_reducible repeat (first | apply Kd.S_alloc | apply Kd.S_drewN | apply Kd.S_drew)); exact Kd.S_mono (Kd.S_far (p := ⟨gb442, 1, none⟩) (Kd.S_far (p := ⟨gb442, 0, none⟩) (Kd.S_types HO_14.out BK442.out (by decide)) (fun _ hk => hk.2) (.slice Ao61 t437.length co61)) (fun _ hk => hk.2) (.int .i64 t440)) (fun _ hk => trivial)⟩
                  have n2_ : Aside0 (Kd.R (Kd.int .u8) 5 ((w60.setCell ⟨gb442, 0, none⟩ (.slice Ao61 t437.length co61)).setCell ⟨gb442, 1, none⟩ (.int .i64 t440)) w.heap.size (fun k_ => some k_ ≠ (.slice Ao24 t420.length co24 : Value).ownBlock ∧ some k_ ≠ (.slice Ao29 t426.length co29 : Value).ownBlock ∧ some k_ ≠ (.slice Ao61 t437.length co61 : Value).ownBlock) (.slice Ao19 y417.length co19) y417) := ⟨by (with_reducible repeat (first | apply Kd.R_alloc | apply Kd.R_drewN | apply Kd.R_drew)); exact Kd.R_mono (Kd.R_far (p := ⟨gb442, 1, none⟩) (Kd.R_far (p := ⟨gb442, 0, none⟩) (Kd.R_types HO_414000.out BK442.out (by decide)) (fun _ hk => hk.2) (.slice Ao61 t437.length co61)) (fun _ hk => hk.2) (.int .i64 t440)) (fun _ hk => ⟨hk.1.1.1, ⟨hk.1.1.2, hk.1.2⟩⟩)⟩
                  have n3_ : Aside0 (Kd.R (Kd.int .u8) 5 ((w60.setCell ⟨gb442, 0, none⟩ (.slice Ao61 t437.length co61)).setCell ⟨gb442, 1, none⟩ (.int .i64 t440)) w.heap.size (fun k_ => some k_ ≠ (.slice Ao19 y417.length co19 : Value).ownBlock ∧ some k_ ≠ (.slice Ao29 t426.length co29 : Value).ownBlock ∧ some k_ ≠ (.slice Ao61 t437.length co61 : Value).ownBlock) (.slice Ao24 t420.length co24) t420) := ⟨by (with_reducible repeat (first | apply Kd.R_alloc | apply Kd.R_drewN | apply Kd.R_drew)); exact Kd.R_mono (Kd.R_far (p := ⟨gb442, 1, none⟩) (Kd.R_far (p := ⟨gb442, 0, none⟩) (Kd.R_types HO_426000.out BK442.out (by decide)) (fun _ hk => hk.2) (.slice Ao61 t437.length co61)) (fun _ hk => hk.2) (.int .i64 t440)) (fun _ hk => ⟨hk.1.1.1, ⟨hk.1.1.2, hk.1.2⟩⟩)⟩
                  have n4_ : Aside0 (Kd.R (Kd.int .u8) 5 ((w60.setCell ⟨gb442, 0, none⟩ (.slice Ao61 t437.length co61)).setCell ⟨gb442, 1, none⟩ (.int .i64 t440)) w.heap.size (fun k_ => some k_ ≠ (.slice Ao19 y417.length co19 : Value).ownBlock ∧ some k_ ≠ (.slice Ao24 t420.length co24 : Value).ownBlock ∧ some k_ ≠ (.slice Ao61 t437.length co61 : Value).ownBlock) (.slice Ao29 t426.length co29) t426) := ⟨by (with_reducible repeat (first | apply Kd.R_alloc | apply Kd.R_drewN | apply Kd.R_drew)); exact Kd.R_mono (Kd.R_far (p := ⟨gb442, 1, none⟩) (Kd.R_far (p := ⟨gb442, 0, none⟩) (Kd.R_types HO_432000.out BK442.out (by decide)) (fun _ hk => hk.2) (.slice Ao61 t437.length co61)) (fun _ hk => hk.2) (.int .i64 t440)) (fun _ hk => ⟨hk.1.1.1, ⟨hk.1.1.2, hk.1.2⟩⟩)⟩
                  have n5_ : Aside0 (Kd.R (Kd.int .u8) 5 ((w60.setCell ⟨gb442, 0, none⟩ (.slice Ao61 t437.length co61)).setCell ⟨gb442, 1, none⟩ (.int .i64 t440)) w.heap.size (fun k_ => some k_ ≠ (.slice Ao19 y417.length co19 : Value).ownBlock ∧ some k_ ≠ (.slice Ao24 t420.length co24 : Value).ownBlock ∧ some k_ ≠ (.slice Ao29 t426.length co29 : Value).ownBlock) (.slice Ao61 t437.length co61) t437) := ⟨by (with_reducible repeat (first | apply Kd.R_alloc | apply Kd.R_drewN | apply Kd.R_drew)); exact Kd.R_mono (Kd.R_far (p := ⟨gb442, 1, none⟩) (Kd.R_far (p := ⟨gb442, 0, none⟩) (Kd.R_types HO439.out BK442.out (by decide)) (fun _ hk => hk.2) (.slice Ao61 t437.length co61)) (fun _ hk => hk.2) (.int .i64 t440)) (fun _ hk => ⟨hk.1.1.1.2, ⟨hk.1.1.2, hk.1.2⟩⟩)⟩
                  have n6_ : Aside0 (((w60.setCell ⟨gb442, 0, none⟩ (.slice Ao61 t437.length co61)).setCell ⟨gb442, 1, none⟩ (.int .i64 t440)).heap[gb413]? = some (.cells #[.slice Ao19 y417.length co19, .int .i64 t408] 30 (0, 0))) := ⟨by (with_reducible repeat (first | refine blk_drewN ?_ _ | refine blk_drew ?_ | refine blk_alloc ?_ _)); refine blk_far ?_ NB413_442.out _; (with_reducible repeat (first | refine blk_drewN ?_ _ | refine blk_drew ?_ | refine blk_alloc ?_ _)); refine blk_far ?_ NB413_442.out _; (with_reducible repeat (first | refine blk_drewN ?_ _ | refine blk_drew ?_ | refine blk_alloc ?_ _)); exact BK413.out⟩
                  have n7_ : Aside0 (((w60.setCell ⟨gb442, 0, none⟩ (.slice Ao61 t437.length co61)).setCell ⟨gb442, 1, none⟩ (.int .i64 t440)).heap[gb425]? = some (.cells #[.slice Ao24 t420.length co24, .int .i64 t423] 30 (0, 0))) := ⟨by (with_reducible repeat (first | refine blk_drewN ?_ _ | refine blk_drew ?_ | refine blk_alloc ?_ _)); refine blk_far ?_ NB425_442.out _; (with_reducible repeat (first | refine blk_drewN ?_ _ | refine blk_drew ?_ | refine blk_alloc ?_ _)); refine blk_far ?_ NB425_442.out _; (with_reducible repeat (first | refine blk_drewN ?_ _ | refine blk_drew ?_ | refine blk_alloc ?_ _)); exact BK425.out⟩
                  have n8_ : Aside0 (((w60.setCell ⟨gb442, 0, none⟩ (.slice Ao61 t437.length co61)).setCell ⟨gb442, 1, none⟩ (.int .i64 t440)).heap[gb431]? = some (.cells #[.slice Ao29 t426.length co29, .int .i64 t429] 30 (0, 0))) := ⟨by (with_reducible repeat (first | refine blk_drewN ?_ _ | refine blk_drew ?_ | refine blk_alloc ?_ _)); refine blk_far ?_ NB431_442.out _; (with_reducible repeat (first | refine blk_drewN ?_ _ | refine blk_drew ?_ | refine blk_alloc ?_ _)); refine blk_far ?_ NB431_442.out _; (with_reducible repeat (first | refine blk_drewN ?_ _ | refine blk_drew ?_ | refine blk_alloc ?_ _)); exact BK431.out⟩
                  have n9_ : Aside0 (((w60.setCell ⟨gb442, 0, none⟩ (.slice Ao61 t437.length co61)).setCell ⟨gb442, 1, none⟩ (.int .i64 t440)).heap[gb442]? = some (.cells #[.slice Ao61 t437.length co61, .int .i64 t440] 30 (0, 0))) := ⟨by (with_reducible repeat (first | refine blk_drewN ?_ _ | refine blk_drew ?_ | refine blk_alloc ?_ _)); refine blk_put (cs := #[.slice Ao61 t437.length co61, .int .i64 0]) ?_ 1 _ rfl; (with_reducible repeat (first | refine blk_drewN ?_ _ | refine blk_drew ?_ | refine blk_alloc ?_ _)); refine blk_put (cs := #[.slice none 0 0, .int .i64 0]) ?_ 0 _ rfl; (with_reducible repeat (first | refine blk_drewN ?_ _ | refine blk_drew ?_ | refine blk_alloc ?_ _)); exact BK442.out⟩
                  have n10_ : Aside0 (Below w.heap.size w ((w60.setCell ⟨gb442, 0, none⟩ (.slice Ao61 t437.length co61)).setCell ⟨gb442, 1, none⟩ (.int .i64 t440))) := ⟨by repeat (first | (with_reducible first | exact HB.out | apply below_alloc | apply pw_below_drewN | apply below_drew1 | refine below_set ?_ GE413.out | refine below_set ?_ GE425.out | refine below_set ?_ GE431.out | refine below_set ?_ GE442.out) | exact HB.out)⟩
                  (try clear HO_8)
                  (try clear HO_14)
                  (try clear HO_414000)
                  (try clear HO_426000)
                  (try clear HO_432000)
                  (try clear HO439)
                  (try clear BK413)
                  (try clear BK425)
                  (try clear BK431)
                  (try clear BK442)
                  (try clear HB)
                  generalize ((w60.setCell ⟨gb442, 0, none⟩ (.slice Ao61 t437.length co61)).setCell ⟨gb442, 1, none⟩ (.int .i64 t440)) = w66 at n0_ n1_ n2_ n3_ n4_ n5_ n6_ n7_ n8_ n9_ n10_ ⊢
                  have HO_8 := n0_
                  have HO_14 := n1_
                  have HO_414000 := n2_
                  have HO_426000 := n3_
                  have HO_432000 := n4_
                  have HO439 := n5_
                  have BK413 := n6_
                  have BK425 := n7_
                  have BK431 := n8_
                  have BK442 := n9_
                  have HB := n10_
                  clear n0_ n1_ n2_ n3_ n4_ n5_ n6_ n7_ n8_ n9_ n10_
                  have n0_ := Aside0.mk (Kd.S_drew HO_8.out)
                  have n1_ := Aside0.mk (Kd.S_drew HO_14.out)
                  have n2_ := Aside0.mk (Kd.R_drew HO_414000.out)
                  have n3_ := Aside0.mk (Kd.R_drew HO_426000.out)
                  have n4_ := Aside0.mk (Kd.R_drew HO_432000.out)
                  have n5_ := Aside0.mk (Kd.R_drew HO439.out)
                  have n6_ := Aside0.mk (blk_drew BK413.out)
                  have n7_ := Aside0.mk (blk_drew BK425.out)
                  have n8_ := Aside0.mk (blk_drew BK431.out)
                  have n9_ := Aside0.mk (blk_drew BK442.out)
                  have n10_ := Aside0.mk (below_drew1 HB.out)
                  clear HO_8
                  clear HO_14
                  clear HO_414000
                  clear HO_426000
                  clear HO_432000
                  clear HO439
                  clear BK413
                  clear BK425
                  clear BK431
                  clear BK442
                  clear HB
                  have HO_8 := n0_
                  have HO_14 := n1_
                  have HO_414000 := n2_
                  have HO_426000 := n3_
                  have HO_432000 := n4_
                  have HO439 := n5_
                  have BK413 := n6_
                  have BK425 := n7_
                  have BK431 := n8_
                  have BK442 := n9_
                  have HB := n10_
                  clear n0_ n1_ n2_ n3_ n4_ n5_ n6_ n7_ n8_ n9_ n10_
                  refine start_ (n := 10) (S := fun w' => w'.cell? ⟨gb442, 0, none⟩ = some (.slice Ao61 t437.length co61) ∧ w'.cell? ⟨gb442, 1, none⟩ = some (.int .i64 t440)) (ds := []) #[false, false, false, false, false, false, false, false, false, false] (by kernel_rfl) rfl rfl ⟨(blk_cell BK442.out 0).trans rfl, (blk_cell BK442.out 1).trans rfl⟩ (fun hHeld => ?_); refine with_tabW foretellkeep_TapeAgain.tab7 foretellkeep_TapeAgain.bits7 (fun HT_ HW_ => ?_)
                  generalize w66.drew = w67 at HO_8 HO_14 HO_414000 HO_426000 HO_432000 HO439 BK413 BK425 BK431 BK442 HB hHeld ⊢
                  refine pure_ (i := 1) (N := some 56) (v := ?_) (a' := ?_) #[false, true, false, false, false, false, false, false, false, false] rfl rfl (any_of HT_.out (by kernel_rfl)) (fun _ _ _ h => h) (Or.inl ⟨by rfl, ?_⟩) ?_ ?_
                  rotate_left
                  ·
                   intro w'
                   go_simp
                   with_reducible rfl
                  rotate_left
                  ·
                   simp only [Act.put, List.setIfInBounds_toArray, List.set_cons_zero, List.set_cons_succ, i64_w, i32_w]
                   rfl
                  refine take_ (i := 0) (N := some 55) (v := ?_) (a' := ?_) #[true, true, false, false, false, false, false, false, false, false] rfl rfl (take_ofW HT_.out HW_.out (by kernel_rfl)) (fun _ _ _ h => h) (Or.inl ⟨by rfl, ?_⟩) hHeld ?_ ?_
                  rotate_left
                  ·
                   rintro w' ⟨s0, s1⟩
                   go_simp
                   with_reducible rfl
                  rotate_left
                  ·
                   simp only [Act.put, List.setIfInBounds_toArray, List.set_cons_zero, List.set_cons_succ, i64_w, i32_w]
                   rfl
                  refine join_ (σ := Value × Nat) 2 #[true, true, true, true, true, true, true, true, false, false] (fun s_ => [(57, .int .i64 t443), (58, .tuple #[.agg #[s_.1, .int .i64 t447], .int .i64 t448]), (19, .pointer (some ⟨s_.2, 0, none⟩)), (54, .tuple #[.agg #[s_.1, .int .i64 t447], .int .i64 t448]), (59, .agg #[s_.1, .int .i64 t447]), (60, .int .i64 t448)]) (fun s_ w' => (w'.cell? ⟨gb442, 0, none⟩ = some (.slice Ao61 t437.length co61) ∧ w'.cell? ⟨gb442, 1, none⟩ = some (.int .i64 t440)) ∧ (Kd.R (Kd.int .u8) 5 w' w.heap.size (fun k_ => some k_ ≠ (.slice Ao19 y417.length co19 : Value).ownBlock ∧ some k_ ≠ (.slice Ao24 t420.length co24 : Value).ownBlock ∧ some k_ ≠ (.slice Ao29 t426.length co29 : Value).ownBlock) (.slice Ao61 t437.length co61) t437) ∧ (Kd.V (Kd.int .u8) 5 w' w.heap.size (fun k_ => some k_ ≠ (.slice Ao61 t437.length co61 : Value).ownBlock ∧ some k_ ≠ (u14 : Value).ownBlock ∧ some k_ ≠ (.slice Ao19 y417.length co19 : Value).ownBlock ∧ some k_ ≠ (.slice Ao24 t420.length co24 : Value).ownBlock ∧ some k_ ≠ (.slice Ao29 t426.length co29 : Value).ownBlock ∧ some k_ ≠ (v410 : Value).ownBlock ∧ k_ ≠ gb413 ∧ k_ ≠ gb425 ∧ k_ ≠ gb431 ∧ k_ ≠ gb442 ∧ k_ ≠ s_.2) s_.1 t444) ∧ (Kd.S (Kd.slice 3 (Kd.int .i64)) 27 w' w.heap.size (fun _ => True) u14 x14_8) ∧ (Kd.R (Kd.int .u8) 5 w' w.heap.size (fun k_ => some k_ ≠ (.slice Ao61 t437.length co61 : Value).ownBlock ∧ some k_ ≠ (.slice Ao24 t420.length co24 : Value).ownBlock ∧ some k_ ≠ (.slice Ao29 t426.length co29 : Value).ownBlock) (.slice Ao19 y417.length co19) y417) ∧ (Kd.R (Kd.int .u8) 5 w' w.heap.size (fun k_ => some k_ ≠ (.slice Ao61 t437.length co61 : Value).ownBlock ∧ some k_ ≠ (.slice Ao19 y417.length co19 : Value).ownBlock ∧ some k_ ≠ (.slice Ao29 t426.length co29 : Value).ownBlock) (.slice Ao24 t420.length co24) t420) ∧ (Kd.R (Kd.int .u8) 5 w' w.heap.size (fun k_ => some k_ ≠ (.slice Ao61 t437.length co61 : Value).ownBlock ∧ some k_ ≠ (.slice Ao19 y417.length co19 : Value).ownBlock ∧ some k_ ≠ (.slice Ao24 t420.length co24 : Value).ownBlock) (.slice Ao29 t426.length co29) t426) ∧ (Kd.S (Kd.slice 3 (Kd.int .i64)) 27 w' w.heap.size (fun _ => True) v410 t409) ∧ (w'.heap[gb413]? = some (.cells #[.slice Ao19 y417.length co19, .int .i64 t408] 30 (0, 0))) ∧ (w'.heap[gb425]? = some (.cells #[.slice Ao24 t420.length co24, .int .i64 t423] 30 (0, 0))) ∧ (w'.heap[gb431]? = some (.cells #[.slice Ao29 t426.length co29, .int .i64 t429] 30 (0, 0))) ∧ (w'.heap[gb442]? = some (.cells #[.slice Ao61 t437.length co61, .int .i64 t440] 30 (0, 0))) ∧ (w'.heap[s_.2]? = some (.cells #[.slice none 0 0, .int .i64 0] 30 (0, 0))) ∧ (w.heap.size ≤ s_.2) ∧ (w.heap.size ≤ s_.2) ∧ (gb413 ≠ s_.2) ∧ (s_.2 ≠ gb413) ∧ (gb425 ≠ s_.2) ∧ (s_.2 ≠ gb425) ∧ (gb431 ≠ s_.2) ∧ (s_.2 ≠ gb431) ∧ (gb442 ≠ s_.2) ∧ (s_.2 ≠ gb442) ∧ (Below w.heap.size w w')) ?_ ?_
                  rotate_left
                  ·
                   intro hCont
                   refine two_ (i := 2) (j := 7) (Ni := some 57) (Nj := some 19) #[true, true, true, false, false, false, false, false, false, false] #[true, true, false, false, false, false, false, true, false, false] rfl rfl rfl rfl (two_of HT_.out (by kernel_rfl)) (by decide) (by decide) (fun K hK => ?_) (fun K hK => ?_)
                   ·
                    skip
                    refine goes_ Try.func11 (by kernel_rfl) rfl #[.int .i64 a2, .int .i64 50] (by rfl) rfl rfl (by (try simp only [List.map_toArray, List.map_cons, List.map_nil]); first | done | rfl | (simp only [List.length_drop, List.length_take]; rfl)) ?_
                    with_reducible refine (foretellkeep_picked.calls a2 50 t443 _ A39.out).mono ?_
                    rintro e w' ⟨rfl, ⟨nd, rfl⟩⟩
                    refine ⟨_, rfl, ?_⟩
                    refine hK.out _ _ ⟨(blk_cell BK442.out 0).trans rfl, (blk_cell BK442.out 1).trans rfl⟩ (fun hHeld => ?_)
                    clear hK K
                    refine norm_ (a' := ?_) ?_ ?_
                    rotate_left
                    ·
                     show Act.put _ (some 57) _ = _
                     simp only [Act.put, List.setIfInBounds_toArray, List.set_cons_zero, List.set_cons_succ, i64_w, i32_w]
                     rfl
                    refine two_ (i := 3) (j := 7) (Ni := some 58) (Nj := some 19) #[true, true, true, true, false, false, false, false, false, false] #[true, true, true, false, false, false, false, true, false, false] rfl rfl rfl rfl (two_of HT_.out (by kernel_rfl)) (by decide) (by decide) (fun K hK => ?_) (fun K hK => ?_)
                    ·
                     skip
                     refine goes_ Try.func18 (by kernel_rfl) rfl #[.agg #[.slice Ao61 t437.length co61, .int .i64 t440], .int .i64 t443] (by rfl) rfl rfl (by (try simp only [List.map_toArray, List.map_cons, List.map_nil]); first | done | rfl | (simp only [List.length_drop, List.length_take]; rfl)) ?_
                     with_reducible refine (tape_Crash.calls _ _ t437 t440 t443 t444 t447 t448 _ ?side1 ?side2 A40.out).mono ?_
                     (case side1 => repeat (first | exact (Kd.R_reads' HO439.out).2.2 | (with_reducible refine Kd.C_alloc ?_ _) | (with_reducible refine Kd.C_drewN ?_ _) | (with_reducible refine Kd.C_drew ?_)))
                     (case side2 => exact (Kd.R_reads' HO439.out).2.1)
                     rintro e w68 ⟨v445, rfl, ho0, hb⟩
                     refine ⟨_, rfl, ?_⟩
                     have n0_ := Aside0.mk (Kd.S_below (by (with_reducible repeat (first | apply Kd.S_alloc | apply Kd.S_drewN | apply Kd.S_drew)); exact HO_8.out) hb)
                     have n1_ := Aside0.mk (Kd.S_below (by (with_reducible repeat (first | apply Kd.S_alloc | apply Kd.S_drewN | apply Kd.S_drew)); exact HO_14.out) hb)
                     have n2_ := Aside0.mk (Kd.R_below (by (with_reducible repeat (first | apply Kd.R_alloc | apply Kd.R_drewN | apply Kd.R_drew)); exact HO_414000.out) hb)
                     have n3_ := Aside0.mk (Kd.R_below (by (with_reducible repeat (first | apply Kd.R_alloc | apply Kd.R_drewN | apply Kd.R_drew)); exact HO_426000.out) hb)
                     have n4_ := Aside0.mk (Kd.R_below (by (with_reducible repeat (first | apply Kd.R_alloc | apply Kd.R_drewN | apply Kd.R_drew)); exact HO_432000.out) hb)
                     have n5_ := Aside0.mk (Kd.R_below (by (with_reducible repeat (first | apply Kd.R_alloc | apply Kd.R_drewN | apply Kd.R_drew)); exact HO439.out) hb)
                     have n6_ := Aside0.mk (Kd.V_lower (Kd.V_mono (ok' := fun k_ => some k_ ≠ (v410 : Value).ownBlock ∧ some k_ ≠ (u14 : Value).ownBlock ∧ some k_ ≠ (.slice Ao19 y417.length co19 : Value).ownBlock ∧ some k_ ≠ (.slice Ao24 t420.length co24 : Value).ownBlock ∧ some k_ ≠ (.slice Ao29 t426.length co29 : Value).ownBlock ∧ some k_ ≠ (.slice Ao61 t437.length co61 : Value).ownBlock ∧ k_ ≠ gb413 ∧ k_ ≠ gb425 ∧ k_ ≠ gb431 ∧ k_ ≠ gb442) ho0 (fun k_ hk_ => ⟨(Kd.fresh' (Kd.S_lt (by (with_reducible repeat (first | apply Kd.S_alloc | apply Kd.S_drewN | apply Kd.S_drew)); exact HO_8.out)) k_ hk_), (Kd.fresh' (Kd.S_lt (by (with_reducible repeat (first | apply Kd.S_alloc | apply Kd.S_drewN | apply Kd.S_drew)); exact HO_14.out)) k_ hk_), (Kd.fresh' (Kd.R_lt (by (with_reducible repeat (first | apply Kd.R_alloc | apply Kd.R_drewN | apply Kd.R_drew)); exact HO_414000.out)) k_ hk_), (Kd.fresh' (Kd.R_lt (by (with_reducible repeat (first | apply Kd.R_alloc | apply Kd.R_drewN | apply Kd.R_drew)); exact HO_426000.out)) k_ hk_), (Kd.fresh' (Kd.R_lt (by (with_reducible repeat (first | apply Kd.R_alloc | apply Kd.R_drewN | apply Kd.R_drew)); exact HO_432000.out)) k_ hk_), (Kd.fresh' (Kd.R_lt (by (with_reducible repeat (first | apply Kd.R_alloc | apply Kd.R_drewN | apply Kd.R_drew)); exact HO439.out)) k_ hk_), (Kd.freshB (g := gb413) (o := .cells #[.slice Ao19 y417.length co19, .int .i64 t408] 30 (0, 0)) (by (with_reducible repeat (first | refine blk_drewN ?_ _ | refine blk_drew ?_ | refine blk_alloc ?_ _)); exact BK413.out) k_ hk_), (Kd.freshB (g := gb425) (o := .cells #[.slice Ao24 t420.length co24, .int .i64 t423] 30 (0, 0)) (by (with_reducible repeat (first | refine blk_drewN ?_ _ | refine blk_drew ?_ | refine blk_alloc ?_ _)); exact BK425.out) k_ hk_), (Kd.freshB (g := gb431) (o := .cells #[.slice Ao29 t426.length co29, .int .i64 t429] 30 (0, 0)) (by (with_reducible repeat (first | refine blk_drewN ?_ _ | refine blk_drew ?_ | refine blk_alloc ?_ _)); exact BK431.out) k_ hk_), (Kd.freshB (g := gb442) (o := .cells #[.slice Ao61 t437.length co61, .int .i64 t440] 30 (0, 0)) (by (with_reducible repeat (first | refine blk_drewN ?_ _ | refine blk_drew ?_ | refine blk_alloc ?_ _)); exact BK442.out) k_ hk_)⟩)) (below_size (by repeat (first | (with_reducible first | exact HB.out | apply below_alloc | apply pw_below_drewN | apply below_drew1 | refine below_set ?_ GE413.out | refine below_set ?_ GE425.out | refine below_set ?_ GE431.out | refine below_set ?_ GE442.out) | exact HB.out))))
                     have n7_ := Aside0.mk (blk_below (g := gb413) (o := .cells #[.slice Ao19 y417.length co19, .int .i64 t408] 30 (0, 0)) (by (with_reducible repeat (first | refine blk_drewN ?_ _ | refine blk_drew ?_ | refine blk_alloc ?_ _)); exact BK413.out) hb)
                     have n8_ := Aside0.mk (blk_below (g := gb425) (o := .cells #[.slice Ao24 t420.length co24, .int .i64 t423] 30 (0, 0)) (by (with_reducible repeat (first | refine blk_drewN ?_ _ | refine blk_drew ?_ | refine blk_alloc ?_ _)); exact BK425.out) hb)
                     have n9_ := Aside0.mk (blk_below (g := gb431) (o := .cells #[.slice Ao29 t426.length co29, .int .i64 t429] 30 (0, 0)) (by (with_reducible repeat (first | refine blk_drewN ?_ _ | refine blk_drew ?_ | refine blk_alloc ?_ _)); exact BK431.out) hb)
                     have n10_ := Aside0.mk (blk_below (g := gb442) (o := .cells #[.slice Ao61 t437.length co61, .int .i64 t440] 30 (0, 0)) (by (with_reducible repeat (first | refine blk_drewN ?_ _ | refine blk_drew ?_ | refine blk_alloc ?_ _)); exact BK442.out) hb)
                     have n11_ := Aside0.mk (below_step (by repeat (first | (with_reducible first | exact HB.out | apply below_alloc | apply pw_below_drewN | apply below_drew1 | refine below_set ?_ GE413.out | refine below_set ?_ GE425.out | refine below_set ?_ GE431.out | refine below_set ?_ GE442.out) | exact HB.out)) hb)
                     clear HO_8
                     clear HO_14
                     clear HO_414000
                     clear HO_426000
                     clear HO_432000
                     clear HO439
                     clear BK413
                     clear BK425
                     clear BK431
                     clear BK442
                     clear HB
                     have HO_8 := n0_
                     have HO_14 := n1_
                     have HO_414000 := n2_
                     have HO_426000 := n3_
                     have HO_432000 := n4_
                     have HO439 := n5_
                     have HO446 := n6_
                     have BK413 := n7_
                     have BK425 := n8_
                     have BK431 := n9_
                     have BK442 := n10_
                     have HB := n11_
                     clear n0_ n1_ n2_ n3_ n4_ n5_ n6_ n7_ n8_ n9_ n10_ n11_
                     (try clear hb)
                     (try clear hb2)
                     (try clear hk)
                     (try clear hi)
                     (try clear ho0)
                     refine hK.out _ _ ⟨(blk_cell BK442.out 0).trans rfl, (blk_cell BK442.out 1).trans rfl⟩ (fun hHeld => ?_)
                     clear hK K
                     refine norm_ (a' := ?_) ?_ ?_
                     rotate_left
                     ·
                      show Act.put _ (some 58) _ = _
                      simp only [Act.put, List.setIfInBounds_toArray, List.set_cons_zero, List.set_cons_succ, i64_w, i32_w]
                      rfl
                     refine pure_ (i := 4) (N := some 54) (v := ?_) (a' := ?_) #[true, true, true, true, true, false, false, false, false, false] rfl rfl (any_of HT_.out (by kernel_rfl)) (fun _ _ _ h => h) (Or.inl ⟨by rfl, ?_⟩) ?_ ?_
                     rotate_left
                     ·
                      intro w'
                      go_simp
                      with_reducible rfl
                     rotate_left
                     ·
                      simp only [Act.put, List.setIfInBounds_toArray, List.set_cons_zero, List.set_cons_succ, i64_w, i32_w]
                      rfl
                     refine pure_ (i := 5) (N := some 59) (v := ?_) (a' := ?_) #[true, true, true, true, true, true, false, false, false, false] rfl rfl (any_of HT_.out (by kernel_rfl)) (fun _ _ _ h => h) (Or.inl ⟨by rfl, ?_⟩) ?_ ?_
                     rotate_left
                     ·
                      intro w'
                      go_simp
                      with_reducible rfl
                     rotate_left
                     ·
                      simp only [Act.put, List.setIfInBounds_toArray, List.set_cons_zero, List.set_cons_succ, i64_w, i32_w]
                      rfl
                     refine pure_ (i := 6) (N := some 60) (v := ?_) (a' := ?_) #[true, true, true, true, true, true, true, false, false, false] rfl rfl (any_of HT_.out (by kernel_rfl)) (fun _ _ _ h => h) (Or.inl ⟨by rfl, ?_⟩) ?_ ?_
                     rotate_left
                     ·
                      intro w'
                      go_simp
                      with_reducible rfl
                     rotate_left
                     ·
                      simp only [Act.put, List.setIfInBounds_toArray, List.set_cons_zero, List.set_cons_succ, i64_w, i32_w]
                      rfl
                     refine one_ (i := 7) (N := some 19) #[true, true, true, true, true, true, true, true, false, false] rfl rfl (one_of HT_.out (by kernel_rfl)) (by decide) (fun K hK => ?_)
                     refine box_step ?hg (N := 19) ?hd (cs := #[.slice none 0 0, .int .i64 0]) (t := 30) ?hr ?_; (case hd => rfl); (case hg => rfl); (case hr => first | (go_simp; done) | (go_simp; rfl))
                     intro gb449 hg w69 hbox hb
                     have n0_ := Aside0.mk (Kd.S_below (by (with_reducible repeat (first | apply Kd.S_alloc | apply Kd.S_drewN | apply Kd.S_drew)); exact HO_8.out) hb)
                     have n1_ := Aside0.mk (Kd.S_below (by (with_reducible repeat (first | apply Kd.S_alloc | apply Kd.S_drewN | apply Kd.S_drew)); exact HO_14.out) hb)
                     have n2_ := Aside0.mk (Kd.R_below (by (with_reducible repeat (first | apply Kd.R_alloc | apply Kd.R_drewN | apply Kd.R_drew)); exact HO_414000.out) hb)
                     have n3_ := Aside0.mk (Kd.R_below (by (with_reducible repeat (first | apply Kd.R_alloc | apply Kd.R_drewN | apply Kd.R_drew)); exact HO_426000.out) hb)
                     have n4_ := Aside0.mk (Kd.R_below (by (with_reducible repeat (first | apply Kd.R_alloc | apply Kd.R_drewN | apply Kd.R_drew)); exact HO_432000.out) hb)
                     have n5_ := Aside0.mk (Kd.R_below (by (with_reducible repeat (first | apply Kd.R_alloc | apply Kd.R_drewN | apply Kd.R_drew)); exact HO439.out) hb)
                     have n6_ := Aside0.mk (Kd.V_below (Kd.V_elderB (by (with_reducible repeat (first | apply Kd.V_alloc | apply Kd.V_drewN | apply Kd.V_drew)); exact HO446.out) gb449 (Nat.le_of_eq hg.symm)) hb)
                     have n7_ := Aside0.mk (blk_below (g := gb413) (o := .cells #[.slice Ao19 y417.length co19, .int .i64 t408] 30 (0, 0)) (by (with_reducible repeat (first | refine blk_drewN ?_ _ | refine blk_drew ?_ | refine blk_alloc ?_ _)); exact BK413.out) hb)
                     have n8_ := Aside0.mk (blk_below (g := gb425) (o := .cells #[.slice Ao24 t420.length co24, .int .i64 t423] 30 (0, 0)) (by (with_reducible repeat (first | refine blk_drewN ?_ _ | refine blk_drew ?_ | refine blk_alloc ?_ _)); exact BK425.out) hb)
                     have n9_ := Aside0.mk (blk_below (g := gb431) (o := .cells #[.slice Ao29 t426.length co29, .int .i64 t429] 30 (0, 0)) (by (with_reducible repeat (first | refine blk_drewN ?_ _ | refine blk_drew ?_ | refine blk_alloc ?_ _)); exact BK431.out) hb)
                     have n10_ := Aside0.mk (blk_below (g := gb442) (o := .cells #[.slice Ao61 t437.length co61, .int .i64 t440] 30 (0, 0)) (by (with_reducible repeat (first | refine blk_drewN ?_ _ | refine blk_drew ?_ | refine blk_alloc ?_ _)); exact BK442.out) hb)
                     have n11_ := Aside0.mk (below_step (by repeat (first | (with_reducible first | exact HB.out | apply below_alloc | apply pw_below_drewN | apply below_drew1 | refine below_set ?_ GE413.out | refine below_set ?_ GE425.out | refine below_set ?_ GE431.out | refine below_set ?_ GE442.out) | exact HB.out)) hb)
                     have n12_ := Aside0.mk (hbox)
                     have n13_ := Aside0.mk ((by rw [hg]; exact (below_size (by repeat (first | (with_reducible first | exact HB.out | apply below_alloc | apply pw_below_drewN | apply below_drew1 | refine below_set ?_ GE413.out | refine below_set ?_ GE425.out | refine below_set ?_ GE431.out | refine below_set ?_ GE442.out) | exact HB.out))) : w.heap.size ≤ gb449))
                     have n14_ := Aside0.mk ((by rw [hg]; exact (below_size (by repeat (first | (with_reducible first | exact HB.out | apply below_alloc | apply pw_below_drewN | apply below_drew1 | refine below_set ?_ GE413.out | refine below_set ?_ GE425.out | refine below_set ?_ GE431.out | refine below_set ?_ GE442.out) | exact HB.out))) : w.heap.size ≤ gb449))
                     have n15_ := Aside0.mk ((by rw [hg]; exact Nat.ne_of_lt (blk_lt (g := gb413) (o := .cells #[.slice Ao19 y417.length co19, .int .i64 t408] 30 (0, 0)) (by (with_reducible repeat (first | refine blk_drewN ?_ _ | refine blk_drew ?_ | refine blk_alloc ?_ _)); exact BK413.out)) : gb413 ≠ gb449))
                     have n16_ := Aside0.mk ((by rw [hg]; exact Nat.ne_of_gt (blk_lt (g := gb413) (o := .cells #[.slice Ao19 y417.length co19, .int .i64 t408] 30 (0, 0)) (by (with_reducible repeat (first | refine blk_drewN ?_ _ | refine blk_drew ?_ | refine blk_alloc ?_ _)); exact BK413.out)) : gb449 ≠ gb413))
                     have n17_ := Aside0.mk ((by rw [hg]; exact Nat.ne_of_lt (blk_lt (g := gb425) (o := .cells #[.slice Ao24 t420.length co24, .int .i64 t423] 30 (0, 0)) (by (with_reducible repeat (first | refine blk_drewN ?_ _ | refine blk_drew ?_ | refine blk_alloc ?_ _)); exact BK425.out)) : gb425 ≠ gb449))
                     have n18_ := Aside0.mk ((by rw [hg]; exact Nat.ne_of_gt (blk_lt (g := gb425) (o := .cells #[.slice Ao24 t420.length co24, .int .i64 t423] 30 (0, 0)) (by (with_reducible repeat (first | refine blk_drewN ?_ _ | refine blk_drew ?_ | refine blk_alloc ?_ _)); exact BK425.out)) : gb449 ≠ gb425))
                     have n19_ := Aside0.mk ((by rw [hg]; exact Nat.ne_of_lt (blk_lt (g := gb431) (o := .cells #[.slice Ao29 t426.length co29, .int .i64 t429] 30 (0, 0)) (by (with_reducible repeat (first | refine blk_drewN ?_ _ | refine blk_drew ?_ | refine blk_alloc ?_ _)); exact BK431.out)) : gb431 ≠ gb449))
                     have n20_ := Aside0.mk ((by rw [hg]; exact Nat.ne_of_gt (blk_lt (g := gb431) (o := .cells #[.slice Ao29 t426.length co29, .int .i64 t429] 30 (0, 0)) (by (with_reducible repeat (first | refine blk_drewN ?_ _ | refine blk_drew ?_ | refine blk_alloc ?_ _)); exact BK431.out)) : gb449 ≠ gb431))
                     have n21_ := Aside0.mk ((by rw [hg]; exact Nat.ne_of_lt (blk_lt (g := gb442) (o := .cells #[.slice Ao61 t437.length co61, .int .i64 t440] 30 (0, 0)) (by (with_reducible repeat (first | refine blk_drewN ?_ _ | refine blk_drew ?_ | refine blk_alloc ?_ _)); exact BK442.out)) : gb442 ≠ gb449))
                     have n22_ := Aside0.mk ((by rw [hg]; exact Nat.ne_of_gt (blk_lt (g := gb442) (o := .cells #[.slice Ao61 t437.length co61, .int .i64 t440] 30 (0, 0)) (by (with_reducible repeat (first | refine blk_drewN ?_ _ | refine blk_drew ?_ | refine blk_alloc ?_ _)); exact BK442.out)) : gb449 ≠ gb442))
                     clear HO_8
                     clear HO_14
                     clear HO_414000
                     clear HO_426000
                     clear HO_432000
                     clear HO439
                     clear HO446
                     clear BK413
                     clear BK425
                     clear BK431
                     clear BK442
                     clear HB
                     have HO_8 := n0_
                     have HO_14 := n1_
                     have HO_414000 := n2_
                     have HO_426000 := n3_
                     have HO_432000 := n4_
                     have HO439 := n5_
                     have HO446 := n6_
                     have BK413 := n7_
                     have BK425 := n8_
                     have BK431 := n9_
                     have BK442 := n10_
                     have HB := n11_
                     have BK449 := n12_
                     have GW449 := n13_
                     have GE449 := n14_
                     have NB413_449 := n15_
                     have NB449_413 := n16_
                     have NB425_449 := n17_
                     have NB449_425 := n18_
                     have NB431_449 := n19_
                     have NB449_431 := n20_
                     have NB442_449 := n21_
                     have NB449_442 := n22_
                     clear n0_ n1_ n2_ n3_ n4_ n5_ n6_ n7_ n8_ n9_ n10_ n11_ n12_ n13_ n14_ n15_ n16_ n17_ n18_ n19_ n20_ n21_ n22_
                     clear hb hbox hg
                     refine hK.out _ _ ⟨(blk_cell BK442.out 0).trans rfl, (blk_cell BK442.out 1).trans rfl⟩ (fun hHeld => ?_)
                     clear hK K
                     refine norm_ (a' := ?_) ?_ ?_
                     rotate_left
                     ·
                      show Act.put _ (some 19) _ = _
                      simp only [Act.put, List.setIfInBounds_toArray, List.set_cons_zero, List.set_cons_succ, i64_w, i32_w]
                      rfl
                     exact norm_ (by simp only [putAll, Act.put, List.setIfInBounds_toArray, List.set_cons_zero, List.set_cons_succ]) (hCont (v445, gb449) _ ⟨hHeld, (by (with_reducible repeat (first | apply Kd.R_alloc | apply Kd.R_drewN | apply Kd.R_drew)); exact HO439.out), (by (with_reducible repeat (first | apply Kd.V_alloc | apply Kd.V_drewN | apply Kd.V_drew)); exact Kd.V_mono HO446.out (fun _ hk => ⟨hk.1.2.2.2.2.2.1, ⟨hk.1.2.1, ⟨hk.1.2.2.1, ⟨hk.1.2.2.2.1, ⟨hk.1.2.2.2.2.1, ⟨hk.1.1, ⟨hk.1.2.2.2.2.2.2.1, ⟨hk.1.2.2.2.2.2.2.2.1, ⟨hk.1.2.2.2.2.2.2.2.2.1, ⟨hk.1.2.2.2.2.2.2.2.2.2, hk.2⟩⟩⟩⟩⟩⟩⟩⟩⟩⟩)), (by (with_reducible repeat (first | apply Kd.S_alloc | apply Kd.S_drewN | apply Kd.S_drew)); exact HO_14.out), (by (with_reducible repeat (first | apply Kd.R_alloc | apply Kd.R_drewN | apply Kd.R_drew)); exact Kd.R_mono HO_414000.out (fun _ hk => ⟨hk.2.2, ⟨hk.1, hk.2.1⟩⟩)), (by (with_reducible repeat (first | apply Kd.R_alloc | apply Kd.R_drewN | apply Kd.R_drew)); exact Kd.R_mono HO_426000.out (fun _ hk => ⟨hk.2.2, ⟨hk.1, hk.2.1⟩⟩)), (by (with_reducible repeat (first | apply Kd.R_alloc | apply Kd.R_drewN | apply Kd.R_drew)); exact Kd.R_mono HO_432000.out (fun _ hk => ⟨hk.2.2, ⟨hk.1, hk.2.1⟩⟩)), (by (with_reducible repeat (first | apply Kd.S_alloc | apply Kd.S_drewN | apply Kd.S_drew)); exact HO_8.out), (by (with_reducible repeat (first | refine blk_drewN ?_ _ | refine blk_drew ?_ | refine blk_alloc ?_ _)); exact BK413.out), (by (with_reducible repeat (first | refine blk_drewN ?_ _ | refine blk_drew ?_ | refine blk_alloc ?_ _)); exact BK425.out), (by (with_reducible repeat (first | refine blk_drewN ?_ _ | refine blk_drew ?_ | refine blk_alloc ?_ _)); exact BK431.out), (by (with_reducible repeat (first | refine blk_drewN ?_ _ | refine blk_drew ?_ | refine blk_alloc ?_ _)); exact BK442.out), (by (with_reducible repeat (first | refine blk_drewN ?_ _ | refine blk_drew ?_ | refine blk_alloc ?_ _)); exact BK449.out), GW449.out, GE449.out, NB413_449.out, NB449_413.out, NB425_449.out, NB449_425.out, NB431_449.out, NB449_431.out, NB442_449.out, NB449_442.out, (by repeat (first | (with_reducible first | exact HB.out | apply below_alloc | apply pw_below_drewN | apply below_drew1 | refine below_set ?_ GE413.out | refine below_set ?_ GE425.out | refine below_set ?_ GE431.out | refine below_set ?_ GE442.out | refine below_set ?_ GE449.out) | exact HB.out))⟩)
                    ·
                     skip
                     refine box_step ?hg (N := 19) ?hd (cs := #[.slice none 0 0, .int .i64 0]) (t := 30) ?hr ?_; (case hd => rfl); (case hg => rfl); (case hr => first | (go_simp; done) | (go_simp; rfl))
                     intro gb449 hg w68 hbox hb
                     have n0_ := Aside0.mk (Kd.S_below (by (with_reducible repeat (first | apply Kd.S_alloc | apply Kd.S_drewN | apply Kd.S_drew)); exact HO_8.out) hb)
                     have n1_ := Aside0.mk (Kd.S_below (by (with_reducible repeat (first | apply Kd.S_alloc | apply Kd.S_drewN | apply Kd.S_drew)); exact HO_14.out) hb)
                     have n2_ := Aside0.mk (Kd.R_below (by (with_reducible repeat (first | apply Kd.R_alloc | apply Kd.R_drewN | apply Kd.R_drew)); exact HO_414000.out) hb)
                     have n3_ := Aside0.mk (Kd.R_below (by (with_reducible repeat (first | apply Kd.R_alloc | apply Kd.R_drewN | apply Kd.R_drew)); exact HO_426000.out) hb)
                     have n4_ := Aside0.mk (Kd.R_below (by (with_reducible repeat (first | apply Kd.R_alloc | apply Kd.R_drewN | apply Kd.R_drew)); exact HO_432000.out) hb)
                     have n5_ := Aside0.mk (Kd.R_below (by (with_reducible repeat (first | apply Kd.R_alloc | apply Kd.R_drewN | apply Kd.R_drew)); exact HO439.out) hb)
                     have n6_ := Aside0.mk (blk_below (g := gb413) (o := .cells #[.slice Ao19 y417.length co19, .int .i64 t408] 30 (0, 0)) (by (with_reducible repeat (first | refine blk_drewN ?_ _ | refine blk_drew ?_ | refine blk_alloc ?_ _)); exact BK413.out) hb)
                     have n7_ := Aside0.mk (blk_below (g := gb425) (o := .cells #[.slice Ao24 t420.length co24, .int .i64 t423] 30 (0, 0)) (by (with_reducible repeat (first | refine blk_drewN ?_ _ | refine blk_drew ?_ | refine blk_alloc ?_ _)); exact BK425.out) hb)
                     have n8_ := Aside0.mk (blk_below (g := gb431) (o := .cells #[.slice Ao29 t426.length co29, .int .i64 t429] 30 (0, 0)) (by (with_reducible repeat (first | refine blk_drewN ?_ _ | refine blk_drew ?_ | refine blk_alloc ?_ _)); exact BK431.out) hb)
                     have n9_ := Aside0.mk (blk_below (g := gb442) (o := .cells #[.slice Ao61 t437.length co61, .int .i64 t440] 30 (0, 0)) (by (with_reducible repeat (first | refine blk_drewN ?_ _ | refine blk_drew ?_ | refine blk_alloc ?_ _)); exact BK442.out) hb)
                     have n10_ := Aside0.mk (below_step (by repeat (first | (with_reducible first | exact HB.out | apply below_alloc | apply pw_below_drewN | apply below_drew1 | refine below_set ?_ GE413.out | refine below_set ?_ GE425.out | refine below_set ?_ GE431.out | refine below_set ?_ GE442.out) | exact HB.out)) hb)
                     have n11_ := Aside0.mk (hbox)
                     have n12_ := Aside0.mk ((by rw [hg]; exact (below_size (by repeat (first | (with_reducible first | exact HB.out | apply below_alloc | apply pw_below_drewN | apply below_drew1 | refine below_set ?_ GE413.out | refine below_set ?_ GE425.out | refine below_set ?_ GE431.out | refine below_set ?_ GE442.out) | exact HB.out))) : w.heap.size ≤ gb449))
                     have n13_ := Aside0.mk ((by rw [hg]; exact (below_size (by repeat (first | (with_reducible first | exact HB.out | apply below_alloc | apply pw_below_drewN | apply below_drew1 | refine below_set ?_ GE413.out | refine below_set ?_ GE425.out | refine below_set ?_ GE431.out | refine below_set ?_ GE442.out) | exact HB.out))) : w.heap.size ≤ gb449))
                     have n14_ := Aside0.mk ((by rw [hg]; exact Nat.ne_of_lt (blk_lt (g := gb413) (o := .cells #[.slice Ao19 y417.length co19, .int .i64 t408] 30 (0, 0)) (by (with_reducible repeat (first | refine blk_drewN ?_ _ | refine blk_drew ?_ | refine blk_alloc ?_ _)); exact BK413.out)) : gb413 ≠ gb449))
                     have n15_ := Aside0.mk ((by rw [hg]; exact Nat.ne_of_gt (blk_lt (g := gb413) (o := .cells #[.slice Ao19 y417.length co19, .int .i64 t408] 30 (0, 0)) (by (with_reducible repeat (first | refine blk_drewN ?_ _ | refine blk_drew ?_ | refine blk_alloc ?_ _)); exact BK413.out)) : gb449 ≠ gb413))
                     have n16_ := Aside0.mk ((by rw [hg]; exact Nat.ne_of_lt (blk_lt (g := gb425) (o := .cells #[.slice Ao24 t420.length co24, .int .i64 t423] 30 (0, 0)) (by (with_reducible repeat (first | refine blk_drewN ?_ _ | refine blk_drew ?_ | refine blk_alloc ?_ _)); exact BK425.out)) : gb425 ≠ gb449))
                     have n17_ := Aside0.mk ((by rw [hg]; exact Nat.ne_of_gt (blk_lt (g := gb425) (o := .cells #[.slice Ao24 t420.length co24, .int .i64 t423] 30 (0, 0)) (by (with_reducible repeat (first | refine blk_drewN ?_ _ | refine blk_drew ?_ | refine blk_alloc ?_ _)); exact BK425.out)) : gb449 ≠ gb425))
                     have n18_ := Aside0.mk ((by rw [hg]; exact Nat.ne_of_lt (blk_lt (g := gb431) (o := .cells #[.slice Ao29 t426.length co29, .int .i64 t429] 30 (0, 0)) (by (with_reducible repeat (first | refine blk_drewN ?_ _ | refine blk_drew ?_ | refine blk_alloc ?_ _)); exact BK431.out)) : gb431 ≠ gb449))
                     have n19_ := Aside0.mk ((by rw [hg]; exact Nat.ne_of_gt (blk_lt (g := gb431) (o := .cells #[.slice Ao29 t426.length co29, .int .i64 t429] 30 (0, 0)) (by (with_reducible repeat (first | refine blk_drewN ?_ _ | refine blk_drew ?_ | refine blk_alloc ?_ _)); exact BK431.out)) : gb449 ≠ gb431))
                     have n20_ := Aside0.mk ((by rw [hg]; exact Nat.ne_of_lt (blk_lt (g := gb442) (o := .cells #[.slice Ao61 t437.length co61, .int .i64 t440] 30 (0, 0)) (by (with_reducible repeat (first | refine blk_drewN ?_ _ | refine blk_drew ?_ | refine blk_alloc ?_ _)); exact BK442.out)) : gb442 ≠ gb449))
                     have n21_ := Aside0.mk ((by rw [hg]; exact Nat.ne_of_gt (blk_lt (g := gb442) (o := .cells #[.slice Ao61 t437.length co61, .int .i64 t440] 30 (0, 0)) (by (with_reducible repeat (first | refine blk_drewN ?_ _ | refine blk_drew ?_ | refine blk_alloc ?_ _)); exact BK442.out)) : gb449 ≠ gb442))
                     clear HO_8
                     clear HO_14
                     clear HO_414000
                     clear HO_426000
                     clear HO_432000
                     clear HO439
                     clear BK413
                     clear BK425
                     clear BK431
                     clear BK442
                     clear HB
                     have HO_8 := n0_
                     have HO_14 := n1_
                     have HO_414000 := n2_
                     have HO_426000 := n3_
                     have HO_432000 := n4_
                     have HO439 := n5_
                     have BK413 := n6_
                     have BK425 := n7_
                     have BK431 := n8_
                     have BK442 := n9_
                     have HB := n10_
                     have BK449 := n11_
                     have GW449 := n12_
                     have GE449 := n13_
                     have NB413_449 := n14_
                     have NB449_413 := n15_
                     have NB425_449 := n16_
                     have NB449_425 := n17_
                     have NB431_449 := n18_
                     have NB449_431 := n19_
                     have NB442_449 := n20_
                     have NB449_442 := n21_
                     clear n0_ n1_ n2_ n3_ n4_ n5_ n6_ n7_ n8_ n9_ n10_ n11_ n12_ n13_ n14_ n15_ n16_ n17_ n18_ n19_ n20_ n21_
                     clear hb hbox hg
                     refine hK.out _ _ ⟨(blk_cell BK442.out 0).trans rfl, (blk_cell BK442.out 1).trans rfl⟩ (fun hHeld => ?_)
                     clear hK K
                     refine norm_ (a' := ?_) ?_ ?_
                     rotate_left
                     ·
                      show Act.put _ (some 19) _ = _
                      simp only [Act.put, List.setIfInBounds_toArray, List.set_cons_zero, List.set_cons_succ, i64_w, i32_w]
                      rfl
                     refine one_ (i := 3) (N := some 58) #[true, true, true, true, false, false, false, true, false, false] rfl rfl (one_of HT_.out (by kernel_rfl)) (by decide) (fun K hK => ?_)
                     refine goes_ Try.func18 (by kernel_rfl) rfl #[.agg #[.slice Ao61 t437.length co61, .int .i64 t440], .int .i64 t443] (by rfl) rfl rfl (by (try simp only [List.map_toArray, List.map_cons, List.map_nil]); first | done | rfl | (simp only [List.length_drop, List.length_take]; rfl)) ?_
                     with_reducible refine (tape_Crash.calls _ _ t437 t440 t443 t444 t447 t448 _ ?side1 ?side2 A40.out).mono ?_
                     (case side1 => repeat (first | exact (Kd.R_reads' HO439.out).2.2 | (with_reducible refine Kd.C_alloc ?_ _) | (with_reducible refine Kd.C_drewN ?_ _) | (with_reducible refine Kd.C_drew ?_)))
                     (case side2 => exact (Kd.R_reads' HO439.out).2.1)
                     rintro e w69 ⟨v445, rfl, ho0, hb⟩
                     refine ⟨_, rfl, ?_⟩
                     have n0_ := Aside0.mk (Kd.S_below (by (with_reducible repeat (first | apply Kd.S_alloc | apply Kd.S_drewN | apply Kd.S_drew)); exact HO_8.out) hb)
                     have n1_ := Aside0.mk (Kd.S_below (by (with_reducible repeat (first | apply Kd.S_alloc | apply Kd.S_drewN | apply Kd.S_drew)); exact HO_14.out) hb)
                     have n2_ := Aside0.mk (Kd.R_below (by (with_reducible repeat (first | apply Kd.R_alloc | apply Kd.R_drewN | apply Kd.R_drew)); exact HO_414000.out) hb)
                     have n3_ := Aside0.mk (Kd.R_below (by (with_reducible repeat (first | apply Kd.R_alloc | apply Kd.R_drewN | apply Kd.R_drew)); exact HO_426000.out) hb)
                     have n4_ := Aside0.mk (Kd.R_below (by (with_reducible repeat (first | apply Kd.R_alloc | apply Kd.R_drewN | apply Kd.R_drew)); exact HO_432000.out) hb)
                     have n5_ := Aside0.mk (Kd.R_below (by (with_reducible repeat (first | apply Kd.R_alloc | apply Kd.R_drewN | apply Kd.R_drew)); exact HO439.out) hb)
                     have n6_ := Aside0.mk (Kd.V_lower (Kd.V_mono (ok' := fun k_ => some k_ ≠ (v410 : Value).ownBlock ∧ some k_ ≠ (u14 : Value).ownBlock ∧ some k_ ≠ (.slice Ao19 y417.length co19 : Value).ownBlock ∧ some k_ ≠ (.slice Ao24 t420.length co24 : Value).ownBlock ∧ some k_ ≠ (.slice Ao29 t426.length co29 : Value).ownBlock ∧ some k_ ≠ (.slice Ao61 t437.length co61 : Value).ownBlock ∧ k_ ≠ gb413 ∧ k_ ≠ gb425 ∧ k_ ≠ gb431 ∧ k_ ≠ gb442 ∧ k_ ≠ gb449) ho0 (fun k_ hk_ => ⟨(Kd.fresh' (Kd.S_lt (by (with_reducible repeat (first | apply Kd.S_alloc | apply Kd.S_drewN | apply Kd.S_drew)); exact HO_8.out)) k_ hk_), (Kd.fresh' (Kd.S_lt (by (with_reducible repeat (first | apply Kd.S_alloc | apply Kd.S_drewN | apply Kd.S_drew)); exact HO_14.out)) k_ hk_), (Kd.fresh' (Kd.R_lt (by (with_reducible repeat (first | apply Kd.R_alloc | apply Kd.R_drewN | apply Kd.R_drew)); exact HO_414000.out)) k_ hk_), (Kd.fresh' (Kd.R_lt (by (with_reducible repeat (first | apply Kd.R_alloc | apply Kd.R_drewN | apply Kd.R_drew)); exact HO_426000.out)) k_ hk_), (Kd.fresh' (Kd.R_lt (by (with_reducible repeat (first | apply Kd.R_alloc | apply Kd.R_drewN | apply Kd.R_drew)); exact HO_432000.out)) k_ hk_), (Kd.fresh' (Kd.R_lt (by (with_reducible repeat (first | apply Kd.R_alloc | apply Kd.R_drewN | apply Kd.R_drew)); exact HO439.out)) k_ hk_), (Kd.freshB (g := gb413) (o := .cells #[.slice Ao19 y417.length co19, .int .i64 t408] 30 (0, 0)) (by (with_reducible repeat (first | refine blk_drewN ?_ _ | refine blk_drew ?_ | refine blk_alloc ?_ _)); exact BK413.out) k_ hk_), (Kd.freshB (g := gb425) (o := .cells #[.slice Ao24 t420.length co24, .int .i64 t423] 30 (0, 0)) (by (with_reducible repeat (first | refine blk_drewN ?_ _ | refine blk_drew ?_ | refine blk_alloc ?_ _)); exact BK425.out) k_ hk_), (Kd.freshB (g := gb431) (o := .cells #[.slice Ao29 t426.length co29, .int .i64 t429] 30 (0, 0)) (by (with_reducible repeat (first | refine blk_drewN ?_ _ | refine blk_drew ?_ | refine blk_alloc ?_ _)); exact BK431.out) k_ hk_), (Kd.freshB (g := gb442) (o := .cells #[.slice Ao61 t437.length co61, .int .i64 t440] 30 (0, 0)) (by (with_reducible repeat (first | refine blk_drewN ?_ _ | refine blk_drew ?_ | refine blk_alloc ?_ _)); exact BK442.out) k_ hk_), (Kd.freshB (g := gb449) (o := .cells #[.slice none 0 0, .int .i64 0] 30 (0, 0)) (by (with_reducible repeat (first | refine blk_drewN ?_ _ | refine blk_drew ?_ | refine blk_alloc ?_ _)); exact BK449.out) k_ hk_)⟩)) (below_size (by repeat (first | (with_reducible first | exact HB.out | apply below_alloc | apply pw_below_drewN | apply below_drew1 | refine below_set ?_ GE413.out | refine below_set ?_ GE425.out | refine below_set ?_ GE431.out | refine below_set ?_ GE442.out | refine below_set ?_ GE449.out) | exact HB.out))))
                     have n7_ := Aside0.mk (blk_below (g := gb413) (o := .cells #[.slice Ao19 y417.length co19, .int .i64 t408] 30 (0, 0)) (by (with_reducible repeat (first | refine blk_drewN ?_ _ | refine blk_drew ?_ | refine blk_alloc ?_ _)); exact BK413.out) hb)
                     have n8_ := Aside0.mk (blk_below (g := gb425) (o := .cells #[.slice Ao24 t420.length co24, .int .i64 t423] 30 (0, 0)) (by (with_reducible repeat (first | refine blk_drewN ?_ _ | refine blk_drew ?_ | refine blk_alloc ?_ _)); exact BK425.out) hb)
                     have n9_ := Aside0.mk (blk_below (g := gb431) (o := .cells #[.slice Ao29 t426.length co29, .int .i64 t429] 30 (0, 0)) (by (with_reducible repeat (first | refine blk_drewN ?_ _ | refine blk_drew ?_ | refine blk_alloc ?_ _)); exact BK431.out) hb)
                     have n10_ := Aside0.mk (blk_below (g := gb442) (o := .cells #[.slice Ao61 t437.length co61, .int .i64 t440] 30 (0, 0)) (by (with_reducible repeat (first | refine blk_drewN ?_ _ | refine blk_drew ?_ | refine blk_alloc ?_ _)); exact BK442.out) hb)
                     have n11_ := Aside0.mk (blk_below (g := gb449) (o := .cells #[.slice none 0 0, .int .i64 0] 30 (0, 0)) (by (with_reducible repeat (first | refine blk_drewN ?_ _ | refine blk_drew ?_ | refine blk_alloc ?_ _)); exact BK449.out) hb)
                     have n12_ := Aside0.mk (below_step (by repeat (first | (with_reducible first | exact HB.out | apply below_alloc | apply pw_below_drewN | apply below_drew1 | refine below_set ?_ GE413.out | refine below_set ?_ GE425.out | refine below_set ?_ GE431.out | refine below_set ?_ GE442.out | refine below_set ?_ GE449.out) | exact HB.out)) hb)
                     clear HO_8
                     clear HO_14
                     clear HO_414000
                     clear HO_426000
                     clear HO_432000
                     clear HO439
                     clear BK413
                     clear BK425
                     clear BK431
                     clear BK442
                     clear BK449
                     clear HB
                     have HO_8 := n0_
                     have HO_14 := n1_
                     have HO_414000 := n2_
                     have HO_426000 := n3_
                     have HO_432000 := n4_
                     have HO439 := n5_
                     have HO446 := n6_
                     have BK413 := n7_
                     have BK425 := n8_
                     have BK431 := n9_
                     have BK442 := n10_
                     have BK449 := n11_
                     have HB := n12_
                     clear n0_ n1_ n2_ n3_ n4_ n5_ n6_ n7_ n8_ n9_ n10_ n11_ n12_
                     (try clear hb)
                     (try clear hb2)
                     (try clear hk)
                     (try clear hi)
                     (try clear ho0)
                     refine hK.out _ _ ⟨(blk_cell BK442.out 0).trans rfl, (blk_cell BK442.out 1).trans rfl⟩ (fun hHeld => ?_)
                     clear hK K
                     refine norm_ (a' := ?_) ?_ ?_
                     rotate_left
                     ·
                      show Act.put _ (some 58) _ = _
                      simp only [Act.put, List.setIfInBounds_toArray, List.set_cons_zero, List.set_cons_succ, i64_w, i32_w]
                      rfl
                     refine pure_ (i := 4) (N := some 54) (v := ?_) (a' := ?_) #[true, true, true, true, true, false, false, true, false, false] rfl rfl (any_of HT_.out (by kernel_rfl)) (fun _ _ _ h => h) (Or.inl ⟨by rfl, ?_⟩) ?_ ?_
                     rotate_left
                     ·
                      intro w'
                      go_simp
                      with_reducible rfl
                     rotate_left
                     ·
                      simp only [Act.put, List.setIfInBounds_toArray, List.set_cons_zero, List.set_cons_succ, i64_w, i32_w]
                      rfl
                     refine pure_ (i := 5) (N := some 59) (v := ?_) (a' := ?_) #[true, true, true, true, true, true, false, true, false, false] rfl rfl (any_of HT_.out (by kernel_rfl)) (fun _ _ _ h => h) (Or.inl ⟨by rfl, ?_⟩) ?_ ?_
                     rotate_left
                     ·
                      intro w'
                      go_simp
                      with_reducible rfl
                     rotate_left
                     ·
                      simp only [Act.put, List.setIfInBounds_toArray, List.set_cons_zero, List.set_cons_succ, i64_w, i32_w]
                      rfl
                     refine pure_ (i := 6) (N := some 60) (v := ?_) (a' := ?_) #[true, true, true, true, true, true, true, true, false, false] rfl rfl (any_of HT_.out (by kernel_rfl)) (fun _ _ _ h => h) (Or.inl ⟨by rfl, ?_⟩) ?_ ?_
                     rotate_left
                     ·
                      intro w'
                      go_simp
                      with_reducible rfl
                     rotate_left
                     ·
                      simp only [Act.put, List.setIfInBounds_toArray, List.set_cons_zero, List.set_cons_succ, i64_w, i32_w]
                      rfl
                     exact norm_ (by simp only [putAll, Act.put, List.setIfInBounds_toArray, List.set_cons_zero, List.set_cons_succ]) (hCont (v445, gb449) _ ⟨hHeld, (by (with_reducible repeat (first | apply Kd.R_alloc | apply Kd.R_drewN | apply Kd.R_drew)); exact HO439.out), (by (with_reducible repeat (first | apply Kd.V_alloc | apply Kd.V_drewN | apply Kd.V_drew)); exact Kd.V_mono HO446.out (fun _ hk => ⟨hk.2.2.2.2.2.1, ⟨hk.2.1, ⟨hk.2.2.1, ⟨hk.2.2.2.1, ⟨hk.2.2.2.2.1, ⟨hk.1, ⟨hk.2.2.2.2.2.2.1, ⟨hk.2.2.2.2.2.2.2.1, ⟨hk.2.2.2.2.2.2.2.2.1, ⟨hk.2.2.2.2.2.2.2.2.2.1, hk.2.2.2.2.2.2.2.2.2.2⟩⟩⟩⟩⟩⟩⟩⟩⟩⟩)), (by (with_reducible repeat (first | apply Kd.S_alloc | apply Kd.S_drewN | apply Kd.S_drew)); exact HO_14.out), (by (with_reducible repeat (first | apply Kd.R_alloc | apply Kd.R_drewN | apply Kd.R_drew)); exact Kd.R_mono HO_414000.out (fun _ hk => ⟨hk.2.2, ⟨hk.1, hk.2.1⟩⟩)), (by (with_reducible repeat (first | apply Kd.R_alloc | apply Kd.R_drewN | apply Kd.R_drew)); exact Kd.R_mono HO_426000.out (fun _ hk => ⟨hk.2.2, ⟨hk.1, hk.2.1⟩⟩)), (by (with_reducible repeat (first | apply Kd.R_alloc | apply Kd.R_drewN | apply Kd.R_drew)); exact Kd.R_mono HO_432000.out (fun _ hk => ⟨hk.2.2, ⟨hk.1, hk.2.1⟩⟩)), (by (with_reducible repeat (first | apply Kd.S_alloc | apply Kd.S_drewN | apply Kd.S_drew)); exact HO_8.out), (by (with_reducible repeat (first | refine blk_drewN ?_ _ | refine blk_drew ?_ | refine blk_alloc ?_ _)); exact BK413.out), (by (with_reducible repeat (first | refine blk_drewN ?_ _ | refine blk_drew ?_ | refine blk_alloc ?_ _)); exact BK425.out), (by (with_reducible repeat (first | refine blk_drewN ?_ _ | refine blk_drew ?_ | refine blk_alloc ?_ _)); exact BK431.out), (by (with_reducible repeat (first | refine blk_drewN ?_ _ | refine blk_drew ?_ | refine blk_alloc ?_ _)); exact BK442.out), (by (with_reducible repeat (first | refine blk_drewN ?_ _ | refine blk_drew ?_ | refine blk_alloc ?_ _)); exact BK449.out), GW449.out, GE449.out, NB413_449.out, NB449_413.out, NB425_449.out, NB449_425.out, NB431_449.out, NB449_431.out, NB442_449.out, NB449_442.out, (by repeat (first | (with_reducible first | exact HB.out | apply below_alloc | apply pw_below_drewN | apply below_drew1 | refine below_set ?_ GE413.out | refine below_set ?_ GE425.out | refine below_set ?_ GE431.out | refine below_set ?_ GE442.out | refine below_set ?_ GE449.out) | exact HB.out))⟩)
                   ·
                    skip
                    refine box_step ?hg (N := 19) ?hd (cs := #[.slice none 0 0, .int .i64 0]) (t := 30) ?hr ?_; (case hd => rfl); (case hg => rfl); (case hr => first | (go_simp; done) | (go_simp; rfl))
                    intro gb449 hg w68 hbox hb
                    have n0_ := Aside0.mk (Kd.S_below (by (with_reducible repeat (first | apply Kd.S_alloc | apply Kd.S_drewN | apply Kd.S_drew)); exact HO_8.out) hb)
                    have n1_ := Aside0.mk (Kd.S_below (by (with_reducible repeat (first | apply Kd.S_alloc | apply Kd.S_drewN | apply Kd.S_drew)); exact HO_14.out) hb)
                    have n2_ := Aside0.mk (Kd.R_below (by (with_reducible repeat (first | apply Kd.R_alloc | apply Kd.R_drewN | apply Kd.R_drew)); exact HO_414000.out) hb)
                    have n3_ := Aside0.mk (Kd.R_below (by (with_reducible repeat (first | apply Kd.R_alloc | apply Kd.R_drewN | apply Kd.R_drew)); exact HO_426000.out) hb)
                    have n4_ := Aside0.mk (Kd.R_below (by (with_reducible repeat (first | apply Kd.R_alloc | apply Kd.R_drewN | apply Kd.R_drew)); exact HO_432000.out) hb)
                    have n5_ := Aside0.mk (Kd.R_below (by (with_reducible repeat (first | apply Kd.R_alloc | apply Kd.R_drewN | apply Kd.R_drew)); exact HO439.out) hb)
                    have n6_ := Aside0.mk (blk_below (g := gb413) (o := .cells #[.slice Ao19 y417.length co19, .int .i64 t408] 30 (0, 0)) (by (with_reducible repeat (first | refine blk_drewN ?_ _ | refine blk_drew ?_ | refine blk_alloc ?_ _)); exact BK413.out) hb)
                    have n7_ := Aside0.mk (blk_below (g := gb425) (o := .cells #[.slice Ao24 t420.length co24, .int .i64 t423] 30 (0, 0)) (by (with_reducible repeat (first | refine blk_drewN ?_ _ | refine blk_drew ?_ | refine blk_alloc ?_ _)); exact BK425.out) hb)
                    have n8_ := Aside0.mk (blk_below (g := gb431) (o := .cells #[.slice Ao29 t426.length co29, .int .i64 t429] 30 (0, 0)) (by (with_reducible repeat (first | refine blk_drewN ?_ _ | refine blk_drew ?_ | refine blk_alloc ?_ _)); exact BK431.out) hb)
                    have n9_ := Aside0.mk (blk_below (g := gb442) (o := .cells #[.slice Ao61 t437.length co61, .int .i64 t440] 30 (0, 0)) (by (with_reducible repeat (first | refine blk_drewN ?_ _ | refine blk_drew ?_ | refine blk_alloc ?_ _)); exact BK442.out) hb)
                    have n10_ := Aside0.mk (below_step (by repeat (first | (with_reducible first | exact HB.out | apply below_alloc | apply pw_below_drewN | apply below_drew1 | refine below_set ?_ GE413.out | refine below_set ?_ GE425.out | refine below_set ?_ GE431.out | refine below_set ?_ GE442.out) | exact HB.out)) hb)
                    have n11_ := Aside0.mk (hbox)
                    have n12_ := Aside0.mk ((by rw [hg]; exact (below_size (by repeat (first | (with_reducible first | exact HB.out | apply below_alloc | apply pw_below_drewN | apply below_drew1 | refine below_set ?_ GE413.out | refine below_set ?_ GE425.out | refine below_set ?_ GE431.out | refine below_set ?_ GE442.out) | exact HB.out))) : w.heap.size ≤ gb449))
                    have n13_ := Aside0.mk ((by rw [hg]; exact (below_size (by repeat (first | (with_reducible first | exact HB.out | apply below_alloc | apply pw_below_drewN | apply below_drew1 | refine below_set ?_ GE413.out | refine below_set ?_ GE425.out | refine below_set ?_ GE431.out | refine below_set ?_ GE442.out) | exact HB.out))) : w.heap.size ≤ gb449))
                    have n14_ := Aside0.mk ((by rw [hg]; exact Nat.ne_of_lt (blk_lt (g := gb413) (o := .cells #[.slice Ao19 y417.length co19, .int .i64 t408] 30 (0, 0)) (by (with_reducible repeat (first | refine blk_drewN ?_ _ | refine blk_drew ?_ | refine blk_alloc ?_ _)); exact BK413.out)) : gb413 ≠ gb449))
                    have n15_ := Aside0.mk ((by rw [hg]; exact Nat.ne_of_gt (blk_lt (g := gb413) (o := .cells #[.slice Ao19 y417.length co19, .int .i64 t408] 30 (0, 0)) (by (with_reducible repeat (first | refine blk_drewN ?_ _ | refine blk_drew ?_ | refine blk_alloc ?_ _)); exact BK413.out)) : gb449 ≠ gb413))
                    have n16_ := Aside0.mk ((by rw [hg]; exact Nat.ne_of_lt (blk_lt (g := gb425) (o := .cells #[.slice Ao24 t420.length co24, .int .i64 t423] 30 (0, 0)) (by (with_reducible repeat (first | refine blk_drewN ?_ _ | refine blk_drew ?_ | refine blk_alloc ?_ _)); exact BK425.out)) : gb425 ≠ gb449))
                    have n17_ := Aside0.mk ((by rw [hg]; exact Nat.ne_of_gt (blk_lt (g := gb425) (o := .cells #[.slice Ao24 t420.length co24, .int .i64 t423] 30 (0, 0)) (by (with_reducible repeat (first | refine blk_drewN ?_ _ | refine blk_drew ?_ | refine blk_alloc ?_ _)); exact BK425.out)) : gb449 ≠ gb425))
                    have n18_ := Aside0.mk ((by rw [hg]; exact Nat.ne_of_lt (blk_lt (g := gb431) (o := .cells #[.slice Ao29 t426.length co29, .int .i64 t429] 30 (0, 0)) (by (with_reducible repeat (first | refine blk_drewN ?_ _ | refine blk_drew ?_ | refine blk_alloc ?_ _)); exact BK431.out)) : gb431 ≠ gb449))
                    have n19_ := Aside0.mk ((by rw [hg]; exact Nat.ne_of_gt (blk_lt (g := gb431) (o := .cells #[.slice Ao29 t426.length co29, .int .i64 t429] 30 (0, 0)) (by (with_reducible repeat (first | refine blk_drewN ?_ _ | refine blk_drew ?_ | refine blk_alloc ?_ _)); exact BK431.out)) : gb449 ≠ gb431))
                    have n20_ := Aside0.mk ((by rw [hg]; exact Nat.ne_of_lt (blk_lt (g := gb442) (o := .cells #[.slice Ao61 t437.length co61, .int .i64 t440] 30 (0, 0)) (by (with_reducible repeat (first | refine blk_drewN ?_ _ | refine blk_drew ?_ | refine blk_alloc ?_ _)); exact BK442.out)) : gb442 ≠ gb449))
                    have n21_ := Aside0.mk ((by rw [hg]; exact Nat.ne_of_gt (blk_lt (g := gb442) (o := .cells #[.slice Ao61 t437.length co61, .int .i64 t440] 30 (0, 0)) (by (with_reducible repeat (first | refine blk_drewN ?_ _ | refine blk_drew ?_ | refine blk_alloc ?_ _)); exact BK442.out)) : gb449 ≠ gb442))
                    clear HO_8
                    clear HO_14
                    clear HO_414000
                    clear HO_426000
                    clear HO_432000
                    clear HO439
                    clear BK413
                    clear BK425
                    clear BK431
                    clear BK442
                    clear HB
                    have HO_8 := n0_
                    have HO_14 := n1_
                    have HO_414000 := n2_
                    have HO_426000 := n3_
                    have HO_432000 := n4_
                    have HO439 := n5_
                    have BK413 := n6_
                    have BK425 := n7_
                    have BK431 := n8_
                    have BK442 := n9_
                    have HB := n10_
                    have BK449 := n11_
                    have GW449 := n12_
                    have GE449 := n13_
                    have NB413_449 := n14_
                    have NB449_413 := n15_
                    have NB425_449 := n16_
                    have NB449_425 := n17_
                    have NB431_449 := n18_
                    have NB449_431 := n19_
                    have NB442_449 := n20_
                    have NB449_442 := n21_
                    clear n0_ n1_ n2_ n3_ n4_ n5_ n6_ n7_ n8_ n9_ n10_ n11_ n12_ n13_ n14_ n15_ n16_ n17_ n18_ n19_ n20_ n21_
                    clear hb hbox hg
                    refine hK.out _ _ ⟨(blk_cell BK442.out 0).trans rfl, (blk_cell BK442.out 1).trans rfl⟩ (fun hHeld => ?_)
                    clear hK K
                    refine norm_ (a' := ?_) ?_ ?_
                    rotate_left
                    ·
                     show Act.put _ (some 19) _ = _
                     simp only [Act.put, List.setIfInBounds_toArray, List.set_cons_zero, List.set_cons_succ, i64_w, i32_w]
                     rfl
                    refine one_ (i := 2) (N := some 57) #[true, true, true, false, false, false, false, true, false, false] rfl rfl (one_of HT_.out (by kernel_rfl)) (by decide) (fun K hK => ?_)
                    refine goes_ Try.func11 (by kernel_rfl) rfl #[.int .i64 a2, .int .i64 50] (by rfl) rfl rfl (by (try simp only [List.map_toArray, List.map_cons, List.map_nil]); first | done | rfl | (simp only [List.length_drop, List.length_take]; rfl)) ?_
                    with_reducible refine (foretellkeep_picked.calls a2 50 t443 _ A39.out).mono ?_
                    rintro e w' ⟨rfl, ⟨nd, rfl⟩⟩
                    refine ⟨_, rfl, ?_⟩
                    refine hK.out _ _ ⟨(blk_cell BK442.out 0).trans rfl, (blk_cell BK442.out 1).trans rfl⟩ (fun hHeld => ?_)
                    clear hK K
                    refine norm_ (a' := ?_) ?_ ?_
                    rotate_left
                    ·
                     show Act.put _ (some 57) _ = _
                     simp only [Act.put, List.setIfInBounds_toArray, List.set_cons_zero, List.set_cons_succ, i64_w, i32_w]
                     rfl
                    refine one_ (i := 3) (N := some 58) #[true, true, true, true, false, false, false, true, false, false] rfl rfl (one_of HT_.out (by kernel_rfl)) (by decide) (fun K hK => ?_)
                    refine goes_ Try.func18 (by kernel_rfl) rfl #[.agg #[.slice Ao61 t437.length co61, .int .i64 t440], .int .i64 t443] (by rfl) rfl rfl (by (try simp only [List.map_toArray, List.map_cons, List.map_nil]); first | done | rfl | (simp only [List.length_drop, List.length_take]; rfl)) ?_
                    with_reducible refine (tape_Crash.calls _ _ t437 t440 t443 t444 t447 t448 _ ?side1 ?side2 A40.out).mono ?_
                    (case side1 => repeat (first | exact (Kd.R_reads' HO439.out).2.2 | (with_reducible refine Kd.C_alloc ?_ _) | (with_reducible refine Kd.C_drewN ?_ _) | (with_reducible refine Kd.C_drew ?_)))
                    (case side2 => exact (Kd.R_reads' HO439.out).2.1)
                    rintro e w69 ⟨v445, rfl, ho0, hb⟩
                    refine ⟨_, rfl, ?_⟩
                    have n0_ := Aside0.mk (Kd.S_below (by (with_reducible repeat (first | apply Kd.S_alloc | apply Kd.S_drewN | apply Kd.S_drew)); exact HO_8.out) hb)
                    have n1_ := Aside0.mk (Kd.S_below (by (with_reducible repeat (first | apply Kd.S_alloc | apply Kd.S_drewN | apply Kd.S_drew)); exact HO_14.out) hb)
                    have n2_ := Aside0.mk (Kd.R_below (by (with_reducible repeat (first | apply Kd.R_alloc | apply Kd.R_drewN | apply Kd.R_drew)); exact HO_414000.out) hb)
                    have n3_ := Aside0.mk (Kd.R_below (by (with_reducible repeat (first | apply Kd.R_alloc | apply Kd.R_drewN | apply Kd.R_drew)); exact HO_426000.out) hb)
                    have n4_ := Aside0.mk (Kd.R_below (by (with_reducible repeat (first | apply Kd.R_alloc | apply Kd.R_drewN | apply Kd.R_drew)); exact HO_432000.out) hb)
                    have n5_ := Aside0.mk (Kd.R_below (by (with_reducible repeat (first | apply Kd.R_alloc | apply Kd.R_drewN | apply Kd.R_drew)); exact HO439.out) hb)
                    have n6_ := Aside0.mk (Kd.V_lower (Kd.V_mono (ok' := fun k_ => some k_ ≠ (v410 : Value).ownBlock ∧ some k_ ≠ (u14 : Value).ownBlock ∧ some k_ ≠ (.slice Ao19 y417.length co19 : Value).ownBlock ∧ some k_ ≠ (.slice Ao24 t420.length co24 : Value).ownBlock ∧ some k_ ≠ (.slice Ao29 t426.length co29 : Value).ownBlock ∧ some k_ ≠ (.slice Ao61 t437.length co61 : Value).ownBlock ∧ k_ ≠ gb413 ∧ k_ ≠ gb425 ∧ k_ ≠ gb431 ∧ k_ ≠ gb442 ∧ k_ ≠ gb449) ho0 (fun k_ hk_ => ⟨(Kd.fresh' (Kd.S_lt (by (with_reducible repeat (first | apply Kd.S_alloc | apply Kd.S_drewN | apply Kd.S_drew)); exact HO_8.out)) k_ hk_), (Kd.fresh' (Kd.S_lt (by (with_reducible repeat (first | apply Kd.S_alloc | apply Kd.S_drewN | apply Kd.S_drew)); exact HO_14.out)) k_ hk_), (Kd.fresh' (Kd.R_lt (by (with_reducible repeat (first | apply Kd.R_alloc | apply Kd.R_drewN | apply Kd.R_drew)); exact HO_414000.out)) k_ hk_), (Kd.fresh' (Kd.R_lt (by (with_reducible repeat (first | apply Kd.R_alloc | apply Kd.R_drewN | apply Kd.R_drew)); exact HO_426000.out)) k_ hk_), (Kd.fresh' (Kd.R_lt (by (with_reducible repeat (first | apply Kd.R_alloc | apply Kd.R_drewN | apply Kd.R_drew)); exact HO_432000.out)) k_ hk_), (Kd.fresh' (Kd.R_lt (by (with_reducible repeat (first | apply Kd.R_alloc | apply Kd.R_drewN | apply Kd.R_drew)); exact HO439.out)) k_ hk_), (Kd.freshB (g := gb413) (o := .cells #[.slice Ao19 y417.length co19, .int .i64 t408] 30 (0, 0)) (by (with_reducible repeat (first | refine blk_drewN ?_ _ | refine blk_drew ?_ | refine blk_alloc ?_ _)); exact BK413.out) k_ hk_), (Kd.freshB (g := gb425) (o := .cells #[.slice Ao24 t420.length co24, .int .i64 t423] 30 (0, 0)) (by (with_reducible repeat (first | refine blk_drewN ?_ _ | refine blk_drew ?_ | refine blk_alloc ?_ _)); exact BK425.out) k_ hk_), (Kd.freshB (g := gb431) (o := .cells #[.slice Ao29 t426.length co29, .int .i64 t429] 30 (0, 0)) (by (with_reducible repeat (first | refine blk_drewN ?_ _ | refine blk_drew ?_ | refine blk_alloc ?_ _)); exact BK431.out) k_ hk_), (Kd.freshB (g := gb442) (o := .cells #[.slice Ao61 t437.length co61, .int .i64 t440] 30 (0, 0)) (by (with_reducible repeat (first | refine blk_drewN ?_ _ | refine blk_drew ?_ | refine blk_alloc ?_ _)); exact BK442.out) k_ hk_), (Kd.freshB (g := gb449) (o := .cells #[.slice none 0 0, .int .i64 0] 30 (0, 0)) (by (with_reducible repeat (first | refine blk_drewN ?_ _ | refine blk_drew ?_ | refine blk_alloc ?_ _)); exact BK449.out) k_ hk_)⟩)) (below_size (by repeat (first | (with_reducible first | exact HB.out | apply below_alloc | apply pw_below_drewN | apply below_drew1 | refine below_set ?_ GE413.out | refine below_set ?_ GE425.out | refine below_set ?_ GE431.out | refine below_set ?_ GE442.out | refine below_set ?_ GE449.out) | exact HB.out))))
                    have n7_ := Aside0.mk (blk_below (g := gb413) (o := .cells #[.slice Ao19 y417.length co19, .int .i64 t408] 30 (0, 0)) (by (with_reducible repeat (first | refine blk_drewN ?_ _ | refine blk_drew ?_ | refine blk_alloc ?_ _)); exact BK413.out) hb)
                    have n8_ := Aside0.mk (blk_below (g := gb425) (o := .cells #[.slice Ao24 t420.length co24, .int .i64 t423] 30 (0, 0)) (by (with_reducible repeat (first | refine blk_drewN ?_ _ | refine blk_drew ?_ | refine blk_alloc ?_ _)); exact BK425.out) hb)
                    have n9_ := Aside0.mk (blk_below (g := gb431) (o := .cells #[.slice Ao29 t426.length co29, .int .i64 t429] 30 (0, 0)) (by (with_reducible repeat (first | refine blk_drewN ?_ _ | refine blk_drew ?_ | refine blk_alloc ?_ _)); exact BK431.out) hb)
                    have n10_ := Aside0.mk (blk_below (g := gb442) (o := .cells #[.slice Ao61 t437.length co61, .int .i64 t440] 30 (0, 0)) (by (with_reducible repeat (first | refine blk_drewN ?_ _ | refine blk_drew ?_ | refine blk_alloc ?_ _)); exact BK442.out) hb)
                    have n11_ := Aside0.mk (blk_below (g := gb449) (o := .cells #[.slice none 0 0, .int .i64 0] 30 (0, 0)) (by (with_reducible repeat (first | refine blk_drewN ?_ _ | refine blk_drew ?_ | refine blk_alloc ?_ _)); exact BK449.out) hb)
                    have n12_ := Aside0.mk (below_step (by repeat (first | (with_reducible first | exact HB.out | apply below_alloc | apply pw_below_drewN | apply below_drew1 | refine below_set ?_ GE413.out | refine below_set ?_ GE425.out | refine below_set ?_ GE431.out | refine below_set ?_ GE442.out | refine below_set ?_ GE449.out) | exact HB.out)) hb)
                    clear HO_8
                    clear HO_14
                    clear HO_414000
                    clear HO_426000
                    clear HO_432000
                    clear HO439
                    clear BK413
                    clear BK425
                    clear BK431
                    clear BK442
                    clear BK449
                    clear HB
                    have HO_8 := n0_
                    have HO_14 := n1_
                    have HO_414000 := n2_
                    have HO_426000 := n3_
                    have HO_432000 := n4_
                    have HO439 := n5_
                    have HO446 := n6_
                    have BK413 := n7_
                    have BK425 := n8_
                    have BK431 := n9_
                    have BK442 := n10_
                    have BK449 := n11_
                    have HB := n12_
                    clear n0_ n1_ n2_ n3_ n4_ n5_ n6_ n7_ n8_ n9_ n10_ n11_ n12_
                    (try clear hb)
                    (try clear hb2)
                    (try clear hk)
                    (try clear hi)
                    (try clear ho0)
                    refine hK.out _ _ ⟨(blk_cell BK442.out 0).trans rfl, (blk_cell BK442.out 1).trans rfl⟩ (fun hHeld => ?_)
                    clear hK K
                    refine norm_ (a' := ?_) ?_ ?_
                    rotate_left
                    ·
                     show Act.put _ (some 58) _ = _
                     simp only [Act.put, List.setIfInBounds_toArray, List.set_cons_zero, List.set_cons_succ, i64_w, i32_w]
                     rfl
                    refine pure_ (i := 4) (N := some 54) (v := ?_) (a' := ?_) #[true, true, true, true, true, false, false, true, false, false] rfl rfl (any_of HT_.out (by kernel_rfl)) (fun _ _ _ h => h) (Or.inl ⟨by rfl, ?_⟩) ?_ ?_
                    rotate_left
                    ·
                     intro w'
                     go_simp
                     with_reducible rfl
                    rotate_left
                    ·
                     simp only [Act.put, List.setIfInBounds_toArray, List.set_cons_zero, List.set_cons_succ, i64_w, i32_w]
                     rfl
                    refine pure_ (i := 5) (N := some 59) (v := ?_) (a' := ?_) #[true, true, true, true, true, true, false, true, false, false] rfl rfl (any_of HT_.out (by kernel_rfl)) (fun _ _ _ h => h) (Or.inl ⟨by rfl, ?_⟩) ?_ ?_
                    rotate_left
                    ·
                     intro w'
                     go_simp
                     with_reducible rfl
                    rotate_left
                    ·
                     simp only [Act.put, List.setIfInBounds_toArray, List.set_cons_zero, List.set_cons_succ, i64_w, i32_w]
                     rfl
                    refine pure_ (i := 6) (N := some 60) (v := ?_) (a' := ?_) #[true, true, true, true, true, true, true, true, false, false] rfl rfl (any_of HT_.out (by kernel_rfl)) (fun _ _ _ h => h) (Or.inl ⟨by rfl, ?_⟩) ?_ ?_
                    rotate_left
                    ·
                     intro w'
                     go_simp
                     with_reducible rfl
                    rotate_left
                    ·
                     simp only [Act.put, List.setIfInBounds_toArray, List.set_cons_zero, List.set_cons_succ, i64_w, i32_w]
                     rfl
                    exact norm_ (by simp only [putAll, Act.put, List.setIfInBounds_toArray, List.set_cons_zero, List.set_cons_succ]) (hCont (v445, gb449) _ ⟨hHeld, (by (with_reducible repeat (first | apply Kd.R_alloc | apply Kd.R_drewN | apply Kd.R_drew)); exact HO439.out), (by (with_reducible repeat (first | apply Kd.V_alloc | apply Kd.V_drewN | apply Kd.V_drew)); exact Kd.V_mono HO446.out (fun _ hk => ⟨hk.2.2.2.2.2.1, ⟨hk.2.1, ⟨hk.2.2.1, ⟨hk.2.2.2.1, ⟨hk.2.2.2.2.1, ⟨hk.1, ⟨hk.2.2.2.2.2.2.1, ⟨hk.2.2.2.2.2.2.2.1, ⟨hk.2.2.2.2.2.2.2.2.1, ⟨hk.2.2.2.2.2.2.2.2.2.1, hk.2.2.2.2.2.2.2.2.2.2⟩⟩⟩⟩⟩⟩⟩⟩⟩⟩)), (by (with_reducible repeat (first | apply Kd.S_alloc | apply Kd.S_drewN | apply Kd.S_drew)); exact HO_14.out), (by (with_reducible repeat (first | apply Kd.R_alloc | apply Kd.R_drewN | apply Kd.R_drew)); exact Kd.R_mono HO_414000.out (fun _ hk => ⟨hk.2.2, ⟨hk.1, hk.2.1⟩⟩)), (by (with_reducible repeat (first | apply Kd.R_alloc | apply Kd.R_drewN | apply Kd.R_drew)); exact Kd.R_mono HO_426000.out (fun _ hk => ⟨hk.2.2, ⟨hk.1, hk.2.1⟩⟩)), (by (with_reducible repeat (first | apply Kd.R_alloc | apply Kd.R_drewN | apply Kd.R_drew)); exact Kd.R_mono HO_432000.out (fun _ hk => ⟨hk.2.2, ⟨hk.1, hk.2.1⟩⟩)), (by (with_reducible repeat (first | apply Kd.S_alloc | apply Kd.S_drewN | apply Kd.S_drew)); exact HO_8.out), (by (with_reducible repeat (first | refine blk_drewN ?_ _ | refine blk_drew ?_ | refine blk_alloc ?_ _)); exact BK413.out), (by (with_reducible repeat (first | refine blk_drewN ?_ _ | refine blk_drew ?_ | refine blk_alloc ?_ _)); exact BK425.out), (by (with_reducible repeat (first | refine blk_drewN ?_ _ | refine blk_drew ?_ | refine blk_alloc ?_ _)); exact BK431.out), (by (with_reducible repeat (first | refine blk_drewN ?_ _ | refine blk_drew ?_ | refine blk_alloc ?_ _)); exact BK442.out), (by (with_reducible repeat (first | refine blk_drewN ?_ _ | refine blk_drew ?_ | refine blk_alloc ?_ _)); exact BK449.out), GW449.out, GE449.out, NB413_449.out, NB449_413.out, NB425_449.out, NB449_425.out, NB431_449.out, NB449_431.out, NB442_449.out, NB449_442.out, (by repeat (first | (with_reducible first | exact HB.out | apply below_alloc | apply pw_below_drewN | apply below_drew1 | refine below_set ?_ GE413.out | refine below_set ?_ GE425.out | refine below_set ?_ GE431.out | refine below_set ?_ GE442.out | refine below_set ?_ GE449.out) | exact HB.out))⟩)
                  rintro ⟨v445, gb449⟩ w70 ⟨hS_, h0_, h1_, h2_, h3_, h4_, h5_, h6_, h7_, h8_, h9_, h10_, h11_, h12_, h13_, h14_, h15_, h16_, h17_, h18_, h19_, h20_, h21_, h22_⟩
                  have n0_ : Aside0 (Kd.R (Kd.int .u8) 5 w70 w.heap.size (fun k_ => some k_ ≠ (.slice Ao19 y417.length co19 : Value).ownBlock ∧ some k_ ≠ (.slice Ao24 t420.length co24 : Value).ownBlock ∧ some k_ ≠ (.slice Ao29 t426.length co29 : Value).ownBlock) (.slice Ao61 t437.length co61) t437) := ⟨h0_⟩
                  have n1_ : Aside0 (Kd.V (Kd.int .u8) 5 w70 w.heap.size (fun k_ => some k_ ≠ (.slice Ao61 t437.length co61 : Value).ownBlock ∧ some k_ ≠ (u14 : Value).ownBlock ∧ some k_ ≠ (.slice Ao19 y417.length co19 : Value).ownBlock ∧ some k_ ≠ (.slice Ao24 t420.length co24 : Value).ownBlock ∧ some k_ ≠ (.slice Ao29 t426.length co29 : Value).ownBlock ∧ some k_ ≠ (v410 : Value).ownBlock ∧ k_ ≠ gb413 ∧ k_ ≠ gb425 ∧ k_ ≠ gb431 ∧ k_ ≠ gb442 ∧ k_ ≠ gb449) v445 t444) := ⟨h1_⟩
                  have n2_ : Aside0 (Kd.S (Kd.slice 3 (Kd.int .i64)) 27 w70 w.heap.size (fun _ => True) u14 x14_8) := ⟨h2_⟩
                  have n3_ : Aside0 (Kd.R (Kd.int .u8) 5 w70 w.heap.size (fun k_ => some k_ ≠ (.slice Ao61 t437.length co61 : Value).ownBlock ∧ some k_ ≠ (.slice Ao24 t420.length co24 : Value).ownBlock ∧ some k_ ≠ (.slice Ao29 t426.length co29 : Value).ownBlock) (.slice Ao19 y417.length co19) y417) := ⟨h3_⟩
                  have n4_ : Aside0 (Kd.R (Kd.int .u8) 5 w70 w.heap.size (fun k_ => some k_ ≠ (.slice Ao61 t437.length co61 : Value).ownBlock ∧ some k_ ≠ (.slice Ao19 y417.length co19 : Value).ownBlock ∧ some k_ ≠ (.slice Ao29 t426.length co29 : Value).ownBlock) (.slice Ao24 t420.length co24) t420) := ⟨h4_⟩
                  have n5_ : Aside0 (Kd.R (Kd.int .u8) 5 w70 w.heap.size (fun k_ => some k_ ≠ (.slice Ao61 t437.length co61 : Value).ownBlock ∧ some k_ ≠ (.slice Ao19 y417.length co19 : Value).ownBlock ∧ some k_ ≠ (.slice Ao24 t420.length co24 : Value).ownBlock) (.slice Ao29 t426.length co29) t426) := ⟨h5_⟩
                  have n6_ : Aside0 (Kd.S (Kd.slice 3 (Kd.int .i64)) 27 w70 w.heap.size (fun _ => True) v410 t409) := ⟨h6_⟩
                  have n7_ : Aside0 (w70.heap[gb413]? = some (.cells #[.slice Ao19 y417.length co19, .int .i64 t408] 30 (0, 0))) := ⟨h7_⟩
                  have n8_ : Aside0 (w70.heap[gb425]? = some (.cells #[.slice Ao24 t420.length co24, .int .i64 t423] 30 (0, 0))) := ⟨h8_⟩
                  have n9_ : Aside0 (w70.heap[gb431]? = some (.cells #[.slice Ao29 t426.length co29, .int .i64 t429] 30 (0, 0))) := ⟨h9_⟩
                  have n10_ : Aside0 (w70.heap[gb442]? = some (.cells #[.slice Ao61 t437.length co61, .int .i64 t440] 30 (0, 0))) := ⟨h10_⟩
                  have n11_ : Aside0 (w70.heap[gb449]? = some (.cells #[.slice none 0 0, .int .i64 0] 30 (0, 0))) := ⟨h11_⟩
                  have n12_ : Aside0 (w.heap.size ≤ gb449) := ⟨h12_⟩
                  have n13_ : Aside0 (w.heap.size ≤ gb449) := ⟨h13_⟩
                  have n14_ : Aside0 (gb413 ≠ gb449) := ⟨h14_⟩
                  have n15_ : Aside0 (gb449 ≠ gb413) := ⟨h15_⟩
                  have n16_ : Aside0 (gb425 ≠ gb449) := ⟨h16_⟩
                  have n17_ : Aside0 (gb449 ≠ gb425) := ⟨h17_⟩
                  have n18_ : Aside0 (gb431 ≠ gb449) := ⟨h18_⟩
                  have n19_ : Aside0 (gb449 ≠ gb431) := ⟨h19_⟩
                  have n20_ : Aside0 (gb442 ≠ gb449) := ⟨h20_⟩
                  have n21_ : Aside0 (gb449 ≠ gb442) := ⟨h21_⟩
                  have n22_ : Aside0 (Below w.heap.size w w70) := ⟨h22_⟩
                  clear HO_8
                  clear HO_14
                  clear HO_414000
                  clear HO_426000
                  clear HO_432000
                  clear HO439
                  clear BK413
                  clear BK425
                  clear BK431
                  clear BK442
                  clear HB
                  clear h0_ h1_ h2_ h3_ h4_ h5_ h6_ h7_ h8_ h9_ h10_ h11_ h12_ h13_ h14_ h15_ h16_ h17_ h18_ h19_ h20_ h21_ h22_
                  have HO439 := n0_
                  have HO446 := n1_
                  have HO_14 := n2_
                  have HO_414000 := n3_
                  have HO_426000 := n4_
                  have HO_432000 := n5_
                  have HO_8 := n6_
                  have BK413 := n7_
                  have BK425 := n8_
                  have BK431 := n9_
                  have BK442 := n10_
                  have BK449 := n11_
                  have GW449 := n12_
                  have GE449 := n13_
                  have NB413_449 := n14_
                  have NB449_413 := n15_
                  have NB425_449 := n16_
                  have NB449_425 := n17_
                  have NB431_449 := n18_
                  have NB449_431 := n19_
                  have NB442_449 := n20_
                  have NB449_442 := n21_
                  have HB := n22_
                  clear n0_ n1_ n2_ n3_ n4_ n5_ n6_ n7_ n8_ n9_ n10_ n11_ n12_ n13_ n14_ n15_ n16_ n17_ n18_ n19_ n20_ n21_ n22_
                  have hHeld : w70.cell? ⟨gb442, 0, none⟩ = some (.slice Ao61 t437.length co61) ∧ w70.cell? ⟨gb442, 1, none⟩ = some (.int .i64 t440) := hS_
                  obtain ⟨Ao71, co71, eo71⟩ := Kd.V_slice HO446.out
                  (first | subst eo71 | (injection eo71 with f1_ f2_ f3_; have f4_ := f1_.symm; have f5_ := f3_.symm; clear f1_ f2_ f3_; subst f4_; subst f5_))
                  refine norm_ (a' := ?_) ?_ ?_
                  rotate_left
                  ·
                   simp only [putAll, Act.put, List.setIfInBounds_toArray, List.set_cons_zero, List.set_cons_succ]
                   rfl
                  refine one_ (i := 8) (N := none) #[true, true, true, true, true, true, true, true, true, false] rfl rfl (one_of HT_.out (by kernel_rfl)) (by decide) (fun K hK => ?_)
                  have hs72 : w70.cell? ⟨gb449, 0, none⟩ = some (.slice none 0 0) := (blk_cell BK449.out 0).trans rfl
                  have hfs72 := blk_frozen BK449.out 0
                  have hns72_0 := NB413_449.out
                  have hns72_1 := NB425_449.out
                  have hns72_2 := NB431_449.out
                  have hns72_3 := NB442_449.out
                  have hms72_0 := NB449_413.out
                  have hms72_1 := NB449_425.out
                  have hms72_2 := NB449_431.out
                  have hms72_3 := NB449_442.out
                  have hs73 : w70.cell? ⟨gb449, 1, none⟩ = some (.int .i64 0) := (blk_cell BK449.out 1).trans rfl
                  have hfs73 := blk_frozen BK449.out 1
                  have hns73_0 := NB413_449.out
                  have hns73_1 := NB425_449.out
                  have hns73_2 := NB431_449.out
                  have hns73_3 := NB442_449.out
                  have hms73_0 := NB449_413.out
                  have hms73_1 := NB449_425.out
                  have hms73_2 := NB449_431.out
                  have hms73_3 := NB449_442.out
                  refine skip_ (w1 := ?_) (by rfl) rfl ?_ ?_
                  rotate_left
                  ·
                   go_simp
                   rfl
                  refine hK.out _ _ ⟨((cell_far (p := ⟨gb449, _, none⟩) NB442_449.out _).trans (((cell_far (p := ⟨gb449, _, none⟩) NB442_449.out _).trans (hHeld.1)))), ((cell_far (p := ⟨gb449, _, none⟩) NB442_449.out _).trans (((cell_far (p := ⟨gb449, _, none⟩) NB442_449.out _).trans (hHeld.2))))⟩ (fun hHeld => ?_)
                  clear hK K
                  refine pure_ (i := 9) (N := some 20) (v := ?_) (a' := ?_) #[true, true, true, true, true, true, true, true, true, true] rfl rfl (any_of HT_.out (by kernel_rfl)) (fun _ _ _ h => h) (Or.inl ⟨by rfl, ?_⟩) ?_ ?_
                  rotate_left
                  ·
                   intro w'
                   go_simp
                   with_reducible rfl
                  rotate_left
                  ·
                   simp only [Act.put, List.setIfInBounds_toArray, List.set_cons_zero, List.set_cons_succ, i64_w, i32_w]
                   rfl
                  refine done_ (done_of HT_.out (by kernel_rfl)) ?_
                  have n0_ : Aside0 (Kd.S (Kd.slice 3 (Kd.int .i64)) 27 ((w70.setCell ⟨gb449, 0, none⟩ (.slice Ao71 t444.length co71)).setCell ⟨gb449, 1, none⟩ (.int .i64 t447)) w.heap.size (fun _ => True) v410 t409) := ⟨by (with_reducible repeat (first | apply Kd.S_alloc | apply Kd.S_drewN | apply Kd.S_drew)); exact Kd.S_mono (Kd.S_far (p := ⟨gb449, 1, none⟩) (Kd.S_far (p := ⟨gb449, 0, none⟩) (Kd.S_types HO_8.out BK449.out (by decide)) (fun _ hk => hk.2) (.slice Ao71 t444.length co71)) (fun _ hk => hk.2) (.int .i64 t447)) (fun _ hk => trivial)⟩
                  have n1_ : Aside0 (Kd.S (Kd.slice 3 (Kd.int .i64)) 27 ((w70.setCell ⟨gb449, 0, none⟩ (.slice Ao71 t444.length co71)).setCell ⟨gb449, 1, none⟩ (.int .i64 t447)) w.heap.size (fun _ => True) u14 x14_8) := ⟨by (with_reducible repeat (first | apply Kd.S_alloc | apply Kd.S_drewN | apply Kd.S_drew)); exact Kd.S_mono (Kd.S_far (p := ⟨gb449, 1, none⟩) (Kd.S_far (p := ⟨gb449, 0, none⟩) (Kd.S_types HO_14.out BK449.out (by decide)) (fun _ hk => hk.2) (.slice Ao71 t444.length co71)) (fun _ hk => hk.2) (.int .i64 t447)) (fun _ hk => trivial)⟩
                  have n2_ : Aside0 (Kd.R (Kd.int .u8) 5 ((w70.setCell ⟨gb449, 0, none⟩ (.slice Ao71 t444.length co71)).setCell ⟨gb449, 1, none⟩ (.int .i64 t447)) w.heap.size (fun k_ => some k_ ≠ (.slice Ao24 t420.length co24 : Value).ownBlock ∧ some k_ ≠ (.slice Ao29 t426.length co29 : Value).ownBlock ∧ some k_ ≠ (.slice Ao61 t437.length co61 : Value).ownBlock) (.slice Ao19 y417.length co19) y417) := ⟨by (with_reducible repeat (first | apply Kd.R_alloc | apply Kd.R_drewN | apply Kd.R_drew)); exact Kd.R_mono (Kd.R_far (p := ⟨gb449, 1, none⟩) (Kd.R_far (p := ⟨gb449, 0, none⟩) (Kd.R_types HO_414000.out BK449.out (by decide)) (fun _ hk => hk.2) (.slice Ao71 t444.length co71)) (fun _ hk => hk.2) (.int .i64 t447)) (fun _ hk => ⟨hk.1.2.1, ⟨hk.1.2.2, hk.1.1⟩⟩)⟩
                  have n3_ : Aside0 (Kd.R (Kd.int .u8) 5 ((w70.setCell ⟨gb449, 0, none⟩ (.slice Ao71 t444.length co71)).setCell ⟨gb449, 1, none⟩ (.int .i64 t447)) w.heap.size (fun k_ => some k_ ≠ (.slice Ao19 y417.length co19 : Value).ownBlock ∧ some k_ ≠ (.slice Ao29 t426.length co29 : Value).ownBlock ∧ some k_ ≠ (.slice Ao61 t437.length co61 : Value).ownBlock) (.slice Ao24 t420.length co24) t420) := ⟨by (with_reducible repeat (first | apply Kd.R_alloc | apply Kd.R_drewN | apply Kd.R_drew)); exact Kd.R_mono (Kd.R_far (p := ⟨gb449, 1, none⟩) (Kd.R_far (p := ⟨gb449, 0, none⟩) (Kd.R_types HO_426000.out BK449.out (by decide)) (fun _ hk => hk.2) (.slice Ao71 t444.length co71)) (fun _ hk => hk.2) (.int .i64 t447)) (fun _ hk => ⟨hk.1.2.1, ⟨hk.1.2.2, hk.1.1⟩⟩)⟩
                  have n4_ : Aside0 (Kd.R (Kd.int .u8) 5 ((w70.setCell ⟨gb449, 0, none⟩ (.slice Ao71 t444.length co71)).setCell ⟨gb449, 1, none⟩ (.int .i64 t447)) w.heap.size (fun k_ => some k_ ≠ (.slice Ao19 y417.length co19 : Value).ownBlock ∧ some k_ ≠ (.slice Ao24 t420.length co24 : Value).ownBlock ∧ some k_ ≠ (.slice Ao61 t437.length co61 : Value).ownBlock) (.slice Ao29 t426.length co29) t426) := ⟨by (with_reducible repeat (first | apply Kd.R_alloc | apply Kd.R_drewN | apply Kd.R_drew)); exact Kd.R_mono (Kd.R_far (p := ⟨gb449, 1, none⟩) (Kd.R_far (p := ⟨gb449, 0, none⟩) (Kd.R_types HO_432000.out BK449.out (by decide)) (fun _ hk => hk.2) (.slice Ao71 t444.length co71)) (fun _ hk => hk.2) (.int .i64 t447)) (fun _ hk => ⟨hk.1.2.1, ⟨hk.1.2.2, hk.1.1⟩⟩)⟩
                  have n5_ : Aside0 (Kd.R (Kd.int .u8) 5 ((w70.setCell ⟨gb449, 0, none⟩ (.slice Ao71 t444.length co71)).setCell ⟨gb449, 1, none⟩ (.int .i64 t447)) w.heap.size (fun k_ => some k_ ≠ (.slice Ao19 y417.length co19 : Value).ownBlock ∧ some k_ ≠ (.slice Ao24 t420.length co24 : Value).ownBlock ∧ some k_ ≠ (.slice Ao29 t426.length co29 : Value).ownBlock) (.slice Ao61 t437.length co61) t437) := ⟨by (with_reducible repeat (first | apply Kd.R_alloc | apply Kd.R_drewN | apply Kd.R_drew)); exact Kd.R_mono (Kd.R_far (p := ⟨gb449, 1, none⟩) (Kd.R_far (p := ⟨gb449, 0, none⟩) (Kd.R_types HO439.out BK449.out (by decide)) (fun _ hk => hk.2) (.slice Ao71 t444.length co71)) (fun _ hk => hk.2) (.int .i64 t447)) (fun _ hk => ⟨hk.1.1, ⟨hk.1.2.1, hk.1.2.2⟩⟩)⟩
                  have n6_ : Aside0 (Kd.V (Kd.int .u8) 5 ((w70.setCell ⟨gb449, 0, none⟩ (.slice Ao71 t444.length co71)).setCell ⟨gb449, 1, none⟩ (.int .i64 t447)) w.heap.size (fun k_ => some k_ ≠ (v410 : Value).ownBlock ∧ some k_ ≠ (u14 : Value).ownBlock ∧ some k_ ≠ (.slice Ao19 y417.length co19 : Value).ownBlock ∧ some k_ ≠ (.slice Ao24 t420.length co24 : Value).ownBlock ∧ some k_ ≠ (.slice Ao29 t426.length co29 : Value).ownBlock ∧ some k_ ≠ (.slice Ao61 t437.length co61 : Value).ownBlock ∧ k_ ≠ gb413 ∧ k_ ≠ gb425 ∧ k_ ≠ gb431 ∧ k_ ≠ gb442 ∧ k_ ≠ gb449) (.slice Ao71 t444.length co71) t444) := ⟨by (with_reducible repeat (first | apply Kd.V_alloc | apply Kd.V_drewN | apply Kd.V_drew)); exact Kd.V_mono (Kd.V_far (p := ⟨gb449, 1, none⟩) (Kd.V_far (p := ⟨gb449, 0, none⟩) (Kd.V_mono HO446.out (fun k_ hk => (⟨hk, hk.2.2.2.2.2.2.2.2.2.2⟩ : _ ∧ k_ ≠ gb449))) (fun _ hk => hk.2) (.slice Ao71 t444.length co71)) (fun _ hk => hk.2) (.int .i64 t447)) (fun _ hk => ⟨hk.1.2.2.2.2.2.1, ⟨hk.1.2.1, ⟨hk.1.2.2.1, ⟨hk.1.2.2.2.1, ⟨hk.1.2.2.2.2.1, ⟨hk.1.1, ⟨hk.1.2.2.2.2.2.2.1, ⟨hk.1.2.2.2.2.2.2.2.1, ⟨hk.1.2.2.2.2.2.2.2.2.1, ⟨hk.1.2.2.2.2.2.2.2.2.2.1, hk.1.2.2.2.2.2.2.2.2.2.2⟩⟩⟩⟩⟩⟩⟩⟩⟩⟩)⟩
                  have n7_ : Aside0 (((w70.setCell ⟨gb449, 0, none⟩ (.slice Ao71 t444.length co71)).setCell ⟨gb449, 1, none⟩ (.int .i64 t447)).heap[gb413]? = some (.cells #[.slice Ao19 y417.length co19, .int .i64 t408] 30 (0, 0))) := ⟨by (with_reducible repeat (first | refine blk_drewN ?_ _ | refine blk_drew ?_ | refine blk_alloc ?_ _)); refine blk_far ?_ NB413_449.out _; (with_reducible repeat (first | refine blk_drewN ?_ _ | refine blk_drew ?_ | refine blk_alloc ?_ _)); refine blk_far ?_ NB413_449.out _; (with_reducible repeat (first | refine blk_drewN ?_ _ | refine blk_drew ?_ | refine blk_alloc ?_ _)); exact BK413.out⟩
                  have n8_ : Aside0 (((w70.setCell ⟨gb449, 0, none⟩ (.slice Ao71 t444.length co71)).setCell ⟨gb449, 1, none⟩ (.int .i64 t447)).heap[gb425]? = some (.cells #[.slice Ao24 t420.length co24, .int .i64 t423] 30 (0, 0))) := ⟨by (with_reducible repeat (first | refine blk_drewN ?_ _ | refine blk_drew ?_ | refine blk_alloc ?_ _)); refine blk_far ?_ NB425_449.out _; (with_reducible repeat (first | refine blk_drewN ?_ _ | refine blk_drew ?_ | refine blk_alloc ?_ _)); refine blk_far ?_ NB425_449.out _; (with_reducible repeat (first | refine blk_drewN ?_ _ | refine blk_drew ?_ | refine blk_alloc ?_ _)); exact BK425.out⟩
                  have n9_ : Aside0 (((w70.setCell ⟨gb449, 0, none⟩ (.slice Ao71 t444.length co71)).setCell ⟨gb449, 1, none⟩ (.int .i64 t447)).heap[gb431]? = some (.cells #[.slice Ao29 t426.length co29, .int .i64 t429] 30 (0, 0))) := ⟨by (with_reducible repeat (first | refine blk_drewN ?_ _ | refine blk_drew ?_ | refine blk_alloc ?_ _)); refine blk_far ?_ NB431_449.out _; (with_reducible repeat (first | refine blk_drewN ?_ _ | refine blk_drew ?_ | refine blk_alloc ?_ _)); refine blk_far ?_ NB431_449.out _; (with_reducible repeat (first | refine blk_drewN ?_ _ | refine blk_drew ?_ | refine blk_alloc ?_ _)); exact BK431.out⟩
                  have n10_ : Aside0 (((w70.setCell ⟨gb449, 0, none⟩ (.slice Ao71 t444.length co71)).setCell ⟨gb449, 1, none⟩ (.int .i64 t447)).heap[gb442]? = some (.cells #[.slice Ao61 t437.length co61, .int .i64 t440] 30 (0, 0))) := ⟨by (with_reducible repeat (first | refine blk_drewN ?_ _ | refine blk_drew ?_ | refine blk_alloc ?_ _)); refine blk_far ?_ NB442_449.out _; (with_reducible repeat (first | refine blk_drewN ?_ _ | refine blk_drew ?_ | refine blk_alloc ?_ _)); refine blk_far ?_ NB442_449.out _; (with_reducible repeat (first | refine blk_drewN ?_ _ | refine blk_drew ?_ | refine blk_alloc ?_ _)); exact BK442.out⟩
                  have n11_ : Aside0 (((w70.setCell ⟨gb449, 0, none⟩ (.slice Ao71 t444.length co71)).setCell ⟨gb449, 1, none⟩ (.int .i64 t447)).heap[gb449]? = some (.cells #[.slice Ao71 t444.length co71, .int .i64 t447] 30 (0, 0))) := ⟨by (with_reducible repeat (first | refine blk_drewN ?_ _ | refine blk_drew ?_ | refine blk_alloc ?_ _)); refine blk_put (cs := #[.slice Ao71 t444.length co71, .int .i64 0]) ?_ 1 _ rfl; (with_reducible repeat (first | refine blk_drewN ?_ _ | refine blk_drew ?_ | refine blk_alloc ?_ _)); refine blk_put (cs := #[.slice none 0 0, .int .i64 0]) ?_ 0 _ rfl; (with_reducible repeat (first | refine blk_drewN ?_ _ | refine blk_drew ?_ | refine blk_alloc ?_ _)); exact BK449.out⟩
                  have n12_ : Aside0 (Below w.heap.size w ((w70.setCell ⟨gb449, 0, none⟩ (.slice Ao71 t444.length co71)).setCell ⟨gb449, 1, none⟩ (.int .i64 t447))) := ⟨by repeat (first | (with_reducible first | exact HB.out | apply below_alloc | apply pw_below_drewN | apply below_drew1 | refine below_set ?_ GE413.out | refine below_set ?_ GE425.out | refine below_set ?_ GE431.out | refine below_set ?_ GE442.out | refine below_set ?_ GE449.out) | exact HB.out)⟩
                  (try clear HO_8)
                  (try clear HO_14)
                  (try clear HO_414000)
                  (try clear HO_426000)
                  (try clear HO_432000)
                  (try clear HO439)
                  (try clear HO446)
                  (try clear BK413)
                  (try clear BK425)
                  (try clear BK431)
                  (try clear BK442)
                  (try clear BK449)
                  (try clear HB)
                  generalize ((w70.setCell ⟨gb449, 0, none⟩ (.slice Ao71 t444.length co71)).setCell ⟨gb449, 1, none⟩ (.int .i64 t447)) = w74 at n0_ n1_ n2_ n3_ n4_ n5_ n6_ n7_ n8_ n9_ n10_ n11_ n12_ ⊢
                  have HO_8 := n0_
                  have HO_14 := n1_
                  have HO_414000 := n2_
                  have HO_426000 := n3_
                  have HO_432000 := n4_
                  have HO439 := n5_
                  have HO446 := n6_
                  have BK413 := n7_
                  have BK425 := n8_
                  have BK431 := n9_
                  have BK442 := n10_
                  have BK449 := n11_
                  have HB := n12_
                  clear n0_ n1_ n2_ n3_ n4_ n5_ n6_ n7_ n8_ n9_ n10_ n11_ n12_
                  have hnb75 := NB425_449.out
                  have hnc75 := NB449_425.out
                  have hcz76_0 : w74.cell? ⟨gb425, 0, none⟩ = some (.slice Ao24 t420.length co24) := (blk_cell BK425.out 0).trans rfl
                  have hcz76_1 : w74.cell? ⟨gb425, 1, none⟩ = some (.int .i64 t423) := (blk_cell BK425.out 1).trans rfl
                  have hfz76_0 := blk_frozen BK425.out 0
                  have hfz76_1 := blk_frozen BK425.out 1
                  obtain ⟨Ao77, co77, eo77⟩ := Kd.S_slice HO_14.out
                  subst eo77
                  obtain ⟨Ao78, co78, eo78⟩ := Kd.S_slice HO_8.out
                  subst eo78
                  have q79 : ((t409.length : Int) : Int) ≤ ((x14_8.length : Int) : Int) := of_decide_eq_true (by first | (with_reducible assumption) | assumption)
                  obtain ⟨i079, hi079, _, hsz79, _⟩ := info_parts info27
                  have hroom79 : x14_8.length ≤ co77 := (Kd.S_reads' HO_14.out).2.1
                  have hC79 : Kd.C (Kd.slice 3 (Kd.int .i64)) _ Ao77 x14_8.length x14_8 := (Kd.S_reads' HO_14.out).2.2
                  have hcut79 := cut_to (P := Try.prog) 35 27 .i64 Try.underlying35 hi079 Ao77 x14_8.length co77 (t409.length : Int) (of_decide_eq_true (by first | (with_reducible assumption) | assumption)) q79 hroom79
                  have hr79 := Kd.C_take (m := ((t409.length : Int) : Int).toNat) hC79 (by omega)
                  have hy79 : y450.length = ((t409.length : Int) : Int).toNat := (by rw [Ny450.out, List.length_take]; omega)
                  rw [← Ny450.out] at hr79
                  rw [← hy79] at hcut79
                  have HR453 := Aside0.mk hr79
                  have HC453 := Aside0.mk (show y450.length ≤ co77 from by omega)
                  clear hr79 hC79 hroom79 hi079 hsz79
                  have KY79 := Aside0.mk hy79
                  clear hy79
                  have KL79 := Aside0.mk (show ((t409.length : Int) : Int).toNat ≤ x14_8.length from by omega)
                  replace q79 := eq_true q79
                  try go_wp2_with (first | (go_at_call 16; (with_reducible refine (foretellkeep_sameLists.calls kj8 _ _ y450 _ _ t409 true _ ?side1 ?side2 ?side3 ?side4 A51.out).mono ?_); (case side1 => repeat (first | exact (by repeat (first | (with_reducible exact HR453.out) | (with_reducible refine Kd.C_alloc ?_ _) | (with_reducible refine Kd.C_drewN ?_ _) | (with_reducible refine Kd.C_drew ?_) | exact HR453.out)) | (with_reducible refine Kd.C_alloc ?_ _) | (with_reducible refine Kd.C_drewN ?_ _) | (with_reducible refine Kd.C_drew ?_))); (case side2 => exact HC453.out); (case side3 => repeat (first | exact (Kd.S_reads' HO_8.out).2.2 | (with_reducible refine Kd.C_alloc ?_ _) | (with_reducible refine Kd.C_drewN ?_ _) | (with_reducible refine Kd.C_drew ?_))); (case side4 => exact (Kd.S_reads' HO_8.out).2.1); rintro e w' ⟨rfl, ⟨nd, rfl⟩⟩; have hcv80 := fun (c_ : Nat) => Kd.C_string (P := Try.prog) (c := c_) Try.underlying22 Try.underlying5 Try.underlying9 (Kd.R_reads' HO_426000.out).2.2; have hcw80 := fun (c_ m_ : Nat) => Kd.C_string (P := Try.prog) (c := c_) Try.underlying22 Try.underlying5 Try.underlying9 (Kd.C_drewN (Kd.R_reads' HO_426000.out).2.2 m_); have hnb81 := NB431_413.out; have hnc81 := NB413_431.out; have hnb82 := NB431_449.out; have hnc82 := NB449_431.out; have hcz83_0 : w74.cell? ⟨gb431, 0, none⟩ = some (.slice Ao29 t426.length co29) := (blk_cell BK431.out 0).trans rfl; have hcz83_1 : w74.cell? ⟨gb431, 1, none⟩ = some (.int .i64 t429) := (blk_cell BK431.out 1).trans rfl; have hfz83_0 := blk_frozen BK431.out 0; have hfz83_1 := blk_frozen BK431.out 1; have hcv84 := fun (c_ : Nat) => Kd.C_string (P := Try.prog) (c := c_) Try.underlying22 Try.underlying5 Try.underlying9 (Kd.R_reads' HO_432000.out).2.2; have hcw84 := fun (c_ m_ : Nat) => Kd.C_string (P := Try.prog) (c := c_) Try.underlying22 Try.underlying5 Try.underlying9 (Kd.C_drewN (Kd.R_reads' HO_432000.out).2.2 m_); have hnb85 := NB449_413.out; have hnc85 := NB413_449.out; have hnb86 := NB449_442.out; have hnc86 := NB442_449.out; have hcz87_0 : w74.cell? ⟨gb449, 0, none⟩ = some (.slice Ao71 t444.length co71) := (blk_cell BK449.out 0).trans rfl; have hcz87_1 : w74.cell? ⟨gb449, 1, none⟩ = some (.int .i64 t447) := (blk_cell BK449.out 1).trans rfl; have hfz87_0 := blk_frozen BK449.out 0; have hfz87_1 := blk_frozen BK449.out 1; have hcv88 := fun (c_ : Nat) => Kd.C_string (P := Try.prog) (c := c_) Try.underlying22 Try.underlying5 Try.underlying9 (Kd.V_reads' HO446.out).2.2; have hcw88 := fun (c_ m_ : Nat) => Kd.C_string (P := Try.prog) (c := c_) Try.underlying22 Try.underlying5 Try.underlying9 (Kd.C_drewN (Kd.V_reads' HO446.out).2.2 m_); have hcv89 := fun (c_ : Nat) => Kd.C_string (P := Try.prog) (c := c_) Try.underlying22 Try.underlying5 Try.underlying9 (Kd.R_reads' HO_426000.out).2.2; have hcw89 := fun (c_ m_ : Nat) => Kd.C_string (P := Try.prog) (c := c_) Try.underlying22 Try.underlying5 Try.underlying9 (Kd.C_drewN (Kd.R_reads' HO_426000.out).2.2 m_)))
                  go_ret
                  exact ⟨by first | rfl | (simp [errW_none, errW_some] <;> rfl) | (simp [*, errW_none, errW_some] <;> rfl), by repeat (first | (with_reducible first | exact HB.out | apply below_alloc | apply pw_below_drewN | apply below_drew1 | refine below_set ?_ GE413.out | refine below_set ?_ GE425.out | refine below_set ?_ GE431.out | refine below_set ?_ GE442.out | refine below_set ?_ GE449.out) | exact HB.out)⟩
                 ·
                  rw [if_neg c55] at H
                  have c55b0 : ((t409.length : Int) == 0) = false := beq_eq_false_iff_ne.mpr c55
                  have c55b1 : ((t409.length : Int) != 0) = true := bne_iff_ne.mpr c55
                  have c55b2 : ¬ (t409 = []) := fun h_ => c55 (by rw [h_]; rfl)
                  obtain rfl := Option.some.inj H
                  have hnb90 := NB425_413.out
                  have hnc90 := NB413_425.out
                  have hnb91 := NB425_431.out
                  have hnc91 := NB431_425.out
                  have hcz92_0 : wc.cell? ⟨gb425, 0, none⟩ = some (.slice Ao24 t420.length co24) := (blk_cell BK425.out 0).trans rfl
                  have hcz92_1 : wc.cell? ⟨gb425, 1, none⟩ = some (.int .i64 t423) := (blk_cell BK425.out 1).trans rfl
                  have hfz92_0 := blk_frozen BK425.out 0
                  have hfz92_1 := blk_frozen BK425.out 1
                  try go_wp2_with (first | ((with_reducible refine gate_callee (f := 17) rfl ?_); refine goesL_ (some 51) rfl rfl Try.func17 (by kernel_rfl) rfl #[.agg #[.slice Ao24 t420.length co24, .int .i64 t423]] rfl (by (try simp only [List.map_toArray, List.map_cons, List.map_nil]); first | done | rfl | (simp only [List.length_drop, List.length_take]; rfl)) ?_; (with_reducible refine (tape_Sync.calls _ _ t420 t423 t437 t440 t441 _ ?side1 ?side2 A38.out).mono ?_); (case side1 => repeat (first | exact (Kd.R_reads' HO_426000.out).2.2 | (with_reducible refine Kd.C_alloc ?_ _) | (with_reducible refine Kd.C_drewN ?_ _) | (with_reducible refine Kd.C_drew ?_))); (case side2 => exact (Kd.R_reads' HO_426000.out).2.1); rintro e w93 ⟨v438, rfl, ho0, hb⟩; refine ⟨_, rfl, ?_⟩; have n0_ := Aside0.mk (Kd.S_below (by (with_reducible repeat (first | apply Kd.S_alloc | apply Kd.S_drewN | apply Kd.S_drew)); exact HO_8.out) hb); have n1_ := Aside0.mk (Kd.S_below (by (with_reducible repeat (first | apply Kd.S_alloc | apply Kd.S_drewN | apply Kd.S_drew)); exact HO_14.out) hb); have n2_ := Aside0.mk (Kd.R_elder' (by (with_reducible repeat (first | apply Kd.R_alloc | apply Kd.R_drewN | apply Kd.R_drew)); exact HO_414000.out) (Kd.R_base ho0) hb); have n3_ := Aside0.mk (Kd.R_elder' (by (with_reducible repeat (first | apply Kd.R_alloc | apply Kd.R_drewN | apply Kd.R_drew)); exact HO_426000.out) (Kd.R_base ho0) hb); have n4_ := Aside0.mk (Kd.R_elder' (by (with_reducible repeat (first | apply Kd.R_alloc | apply Kd.R_drewN | apply Kd.R_drew)); exact HO_432000.out) (Kd.R_base ho0) hb); have n5_ := Aside0.mk (Kd.R_lower (Kd.R_new' (Kd.R_new' (Kd.R_new' ho0 (Kd.R_lt (by (with_reducible repeat (first | apply Kd.R_alloc | apply Kd.R_drewN | apply Kd.R_drew)); exact HO_414000.out))) (Kd.R_lt (by (with_reducible repeat (first | apply Kd.R_alloc | apply Kd.R_drewN | apply Kd.R_drew)); exact HO_426000.out))) (Kd.R_lt (by (with_reducible repeat (first | apply Kd.R_alloc | apply Kd.R_drewN | apply Kd.R_drew)); exact HO_432000.out))) (below_size (by repeat (first | (with_reducible first | exact HB.out | apply below_alloc | apply pw_below_drewN | apply below_drew1 | refine below_set ?_ GE413.out | refine below_set ?_ GE425.out | refine below_set ?_ GE431.out) | exact HB.out)))); have n6_ := Aside0.mk (blk_below (g := gb413) (o := .cells #[.slice Ao19 y417.length co19, .int .i64 t408] 30 (0, 0)) (by (with_reducible repeat (first | refine blk_drewN ?_ _ | refine blk_drew ?_ | refine blk_alloc ?_ _)); exact BK413.out) hb); have n7_ := Aside0.mk (blk_below (g := gb425) (o := .cells #[.slice Ao24 t420.length co24, .int .i64 t423] 30 (0, 0)) (by (with_reducible repeat (first | refine blk_drewN ?_ _ | refine blk_drew ?_ | refine blk_alloc ?_ _)); exact BK425.out) hb); have n8_ := Aside0.mk (blk_below (g := gb431) (o := .cells #[.slice Ao29 t426.length co29, .int .i64 t429] 30 (0, 0)) (by (with_reducible repeat (first | refine blk_drewN ?_ _ | refine blk_drew ?_ | refine blk_alloc ?_ _)); exact BK431.out) hb); have n9_ := Aside0.mk (below_step (by repeat (first | (with_reducible first | exact HB.out | apply below_alloc | apply pw_below_drewN | apply below_drew1 | refine below_set ?_ GE413.out | refine below_set ?_ GE425.out | refine below_set ?_ GE431.out) | exact HB.out)) hb); clear HO_8; clear HO_14; clear HO_414000; clear HO_426000; clear HO_432000; clear BK413; clear BK425; clear BK431; clear HB; have HO_8 := n0_; have HO_14 := n1_; have HO_414000 := n2_; have HO_426000 := n3_; have HO_432000 := n4_; have HO439 := n5_; have BK413 := n6_; have BK425 := n7_; have BK431 := n8_; have HB := n9_; clear n0_ n1_ n2_ n3_ n4_ n5_ n6_ n7_ n8_ n9_; (try clear hb); (try clear hb2); (try clear hk); (try clear hi); (try clear ho0)) | ((with_reducible refine gate_dst (N := 17) rfl ?_); (try (refine gate_guard (by rfl) ?_; dsimp only)); refine box_event ?hg (N := 17) ?hd (cs := #[.slice none 0 0, .int .i64 0]) (t := 30) ?hr ?_; (case hd => rfl); (case hg => rfl); (case hr => first | (go_simp; done) | (go_simp; rfl)); intro gb442 hg w94 hbox hb; have n0_ := Aside0.mk (Kd.S_below (by (with_reducible repeat (first | apply Kd.S_alloc | apply Kd.S_drewN | apply Kd.S_drew)); exact HO_8.out) hb); have n1_ := Aside0.mk (Kd.S_below (by (with_reducible repeat (first | apply Kd.S_alloc | apply Kd.S_drewN | apply Kd.S_drew)); exact HO_14.out) hb); have n2_ := Aside0.mk (Kd.R_below (by (with_reducible repeat (first | apply Kd.R_alloc | apply Kd.R_drewN | apply Kd.R_drew)); exact HO_414000.out) hb); have n3_ := Aside0.mk (Kd.R_below (by (with_reducible repeat (first | apply Kd.R_alloc | apply Kd.R_drewN | apply Kd.R_drew)); exact HO_426000.out) hb); have n4_ := Aside0.mk (Kd.R_below (by (with_reducible repeat (first | apply Kd.R_alloc | apply Kd.R_drewN | apply Kd.R_drew)); exact HO_432000.out) hb); have n5_ := Aside0.mk (Kd.R_below (by (with_reducible repeat (first | apply Kd.R_alloc | apply Kd.R_drewN | apply Kd.R_drew)); exact HO439.out) hb); have n6_ := Aside0.mk (blk_below (g := gb413) (o := .cells #[.slice Ao19 y417.length co19, .int .i64 t408] 30 (0, 0)) (by (with_reducible repeat (first | refine blk_drewN ?_ _ | refine blk_drew ?_ | refine blk_alloc ?_ _)); exact BK413.out) hb); have n7_ := Aside0.mk (blk_below (g := gb425) (o := .cells #[.slice Ao24 t420.length co24, .int .i64 t423] 30 (0, 0)) (by (with_reducible repeat (first | refine blk_drewN ?_ _ | refine blk_drew ?_ | refine blk_alloc ?_ _)); exact BK425.out) hb); have n8_ := Aside0.mk (blk_below (g := gb431) (o := .cells #[.slice Ao29 t426.length co29, .int .i64 t429] 30 (0, 0)) (by (with_reducible repeat (first | refine blk_drewN ?_ _ | refine blk_drew ?_ | refine blk_alloc ?_ _)); exact BK431.out) hb); have n9_ := Aside0.mk (below_step (by repeat (first | (with_reducible first | exact HB.out | apply below_alloc | apply pw_below_drewN | apply below_drew1 | refine below_set ?_ GE413.out | refine below_set ?_ GE425.out | refine below_set ?_ GE431.out) | exact HB.out)) hb); have n10_ := Aside0.mk (hbox); have n11_ := Aside0.mk ((by rw [hg]; exact (below_size (by repeat (first | (with_reducible first | exact HB.out | apply below_alloc | apply pw_below_drewN | apply below_drew1 | refine below_set ?_ GE413.out | refine below_set ?_ GE425.out | refine below_set ?_ GE431.out) | exact HB.out))) : w.heap.size ≤ gb442)); have n12_ := Aside0.mk ((by rw [hg]; exact (below_size (by repeat (first | (with_reducible first | exact HB.out | apply below_alloc | apply pw_below_drewN | apply below_drew1 | refine below_set ?_ GE413.out | refine below_set ?_ GE425.out | refine below_set ?_ GE431.out) | exact HB.out))) : w.heap.size ≤ gb442)); have n13_ := Aside0.mk ((by rw [hg]; exact Nat.ne_of_lt (blk_lt (g := gb413) (o := .cells #[.slice Ao19 y417.length co19, .int .i64 t408] 30 (0, 0)) (by (with_reducible repeat (first | refine blk_drewN ?_ _ | refine blk_drew ?_ | refine blk_alloc ?_ _)); exact BK413.out)) : gb413 ≠ gb442)); have n14_ := Aside0.mk ((by rw [hg]; exact Nat.ne_of_gt (blk_lt (g := gb413) (o := .cells #[.slice Ao19 y417.length co19, .int .i64 t408] 30 (0, 0)) (by (with_reducible repeat (first | refine blk_drewN ?_ _ | refine blk_drew ?_ | refine blk_alloc ?_ _)); exact BK413.out)) : gb442 ≠ gb413)); have n15_ := Aside0.mk ((by rw [hg]; exact Nat.ne_of_lt (blk_lt (g := gb425) (o := .cells #[.slice Ao24 t420.length co24, .int .i64 t423] 30 (0, 0)) (by (with_reducible repeat (first | refine blk_drewN ?_ _ | refine blk_drew ?_ | refine blk_alloc ?_ _)); exact BK425.out)) : gb425 ≠ gb442)); have n16_ := Aside0.mk ((by rw [hg]; exact Nat.ne_of_gt (blk_lt (g := gb425) (o := .cells #[.slice Ao24 t420.length co24, .int .i64 t423] 30 (0, 0)) (by (with_reducible repeat (first | refine blk_drewN ?_ _ | refine blk_drew ?_ | refine blk_alloc ?_ _)); exact BK425.out)) : gb442 ≠ gb425)); have n17_ := Aside0.mk ((by rw [hg]; exact Nat.ne_of_lt (blk_lt (g := gb431) (o := .cells #[.slice Ao29 t426.length co29, .int .i64 t429] 30 (0, 0)) (by (with_reducible repeat (first | refine blk_drewN ?_ _ | refine blk_drew ?_ | refine blk_alloc ?_ _)); exact BK431.out)) : gb431 ≠ gb442)); have n18_ := Aside0.mk ((by rw [hg]; exact Nat.ne_of_gt (blk_lt (g := gb431) (o := .cells #[.slice Ao29 t426.length co29, .int .i64 t429] 30 (0, 0)) (by (with_reducible repeat (first | refine blk_drewN ?_ _ | refine blk_drew ?_ | refine blk_alloc ?_ _)); exact BK431.out)) : gb442 ≠ gb431)); clear HO_8; clear HO_14; clear HO_414000; clear HO_426000; clear HO_432000; clear HO439; clear BK413; clear BK425; clear BK431; clear HB; have HO_8 := n0_; have HO_14 := n1_; have HO_414000 := n2_; have HO_426000 := n3_; have HO_432000 := n4_; have HO439 := n5_; have BK413 := n6_; have BK425 := n7_; have BK431 := n8_; have HB := n9_; have BK442 := n10_; have GW442 := n11_; have GE442 := n12_; have NB413_442 := n13_; have NB442_413 := n14_; have NB425_442 := n15_; have NB442_425 := n16_; have NB431_442 := n17_; have NB442_431 := n18_; clear n0_ n1_ n2_ n3_ n4_ n5_ n6_ n7_ n8_ n9_ n10_ n11_ n12_ n13_ n14_ n15_ n16_ n17_ n18_; clear hb hbox hg; obtain ⟨Ao95, co95, eo95⟩ := Kd.R_slice HO439.out; subst eo95; have hnb96 := NB442_413.out; have hnc96 := NB413_442.out; have hnb97 := NB442_425.out; have hnc97 := NB425_442.out; have hnb98 := NB442_431.out; have hnc98 := NB431_442.out; have hcz99_0 : w94.cell? ⟨gb442, 0, none⟩ = some (.slice none 0 0) := (blk_cell BK442.out 0).trans rfl; have hcz99_1 : w94.cell? ⟨gb442, 1, none⟩ = some (.int .i64 0) := (blk_cell BK442.out 1).trans rfl; have hfz99_0 := blk_frozen BK442.out 0; have hfz99_1 := blk_frozen BK442.out 1))
                  have n0_ : Aside0 (Kd.S (Kd.slice 3 (Kd.int .i64)) 27 ((w94.setCell ⟨gb442, 0, none⟩ (.slice Ao95 t437.length co95)).setCell ⟨gb442, 1, none⟩ (.int .i64 t440)) w.heap.size (fun _ => True) v410 t409) := ⟨by (with_reducible repeat (first | apply Kd.S_alloc | apply Kd.S_drewN | apply Kd.S_drew)); exact Kd.S_mono (Kd.S_far (p := ⟨gb442, 1, none⟩) (Kd.S_far (p := ⟨gb442, 0, none⟩) (Kd.S_types HO_8.out BK442.out (by decide)) (fun _ hk => hk.2) (.slice Ao95 t437.length co95)) (fun _ hk => hk.2) (.int .i64 t440)) (fun _ hk => trivial)⟩
                  have n1_ : Aside0 (Kd.S (Kd.slice 3 (Kd.int .i64)) 27 ((w94.setCell ⟨gb442, 0, none⟩ (.slice Ao95 t437.length co95)).setCell ⟨gb442, 1, none⟩ (.int .i64 t440)) w.heap.size (fun _ => True) u14 x14_8) := ⟨by (with_reducible repeat (first | apply Kd.S_alloc | apply Kd.S_drewN | apply Kd.S_drew)); exact Kd.S_mono (Kd.S_far (p := ⟨gb442, 1, none⟩) (Kd.S_far (p := ⟨gb442, 0, none⟩) (Kd.S_types HO_14.out BK442.out (by decide)) (fun _ hk => hk.2) (.slice Ao95 t437.length co95)) (fun _ hk => hk.2) (.int .i64 t440)) (fun _ hk => trivial)⟩
                  have n2_ : Aside0 (Kd.R (Kd.int .u8) 5 ((w94.setCell ⟨gb442, 0, none⟩ (.slice Ao95 t437.length co95)).setCell ⟨gb442, 1, none⟩ (.int .i64 t440)) w.heap.size (fun k_ => some k_ ≠ (.slice Ao24 t420.length co24 : Value).ownBlock ∧ some k_ ≠ (.slice Ao29 t426.length co29 : Value).ownBlock ∧ some k_ ≠ (.slice Ao95 t437.length co95 : Value).ownBlock) (.slice Ao19 y417.length co19) y417) := ⟨by (with_reducible repeat (first | apply Kd.R_alloc | apply Kd.R_drewN | apply Kd.R_drew)); exact Kd.R_mono (Kd.R_far (p := ⟨gb442, 1, none⟩) (Kd.R_far (p := ⟨gb442, 0, none⟩) (Kd.R_types HO_414000.out BK442.out (by decide)) (fun _ hk => hk.2) (.slice Ao95 t437.length co95)) (fun _ hk => hk.2) (.int .i64 t440)) (fun _ hk => ⟨hk.1.1.1, ⟨hk.1.1.2, hk.1.2⟩⟩)⟩
                  have n3_ : Aside0 (Kd.R (Kd.int .u8) 5 ((w94.setCell ⟨gb442, 0, none⟩ (.slice Ao95 t437.length co95)).setCell ⟨gb442, 1, none⟩ (.int .i64 t440)) w.heap.size (fun k_ => some k_ ≠ (.slice Ao19 y417.length co19 : Value).ownBlock ∧ some k_ ≠ (.slice Ao29 t426.length co29 : Value).ownBlock ∧ some k_ ≠ (.slice Ao95 t437.length co95 : Value).ownBlock) (.slice Ao24 t420.length co24) t420) := ⟨by (with_reducible repeat (first | apply Kd.R_alloc | apply Kd.R_drewN | apply Kd.R_drew)); exact Kd.R_mono (Kd.R_far (p := ⟨gb442, 1, none⟩) (Kd.R_far (p := ⟨gb442, 0, none⟩) (Kd.R_types HO_426000.out BK442.out (by decide)) (fun _ hk => hk.2) (.slice Ao95 t437.length co95)) (fun _ hk => hk.2) (.int .i64 t440)) (fun _ hk => ⟨hk.1.1.1, ⟨hk.1.1.2, hk.1.2⟩⟩)⟩
                  have n4_ : Aside0 (Kd.R (Kd.int .u8) 5 ((w94.setCell ⟨gb442, 0, none⟩ (.slice Ao95 t437.length co95)).setCell ⟨gb442, 1, none⟩ (.int .i64 t440)) w.heap.size (fun k_ => some k_ ≠ (.slice Ao19 y417.length co19 : Value).ownBlock ∧ some k_ ≠ (.slice Ao24 t420.length co24 : Value).ownBlock ∧ some k_ ≠ (.slice Ao95 t437.length co95 : Value).ownBlock) (.slice Ao29 t426.length co29) t426) := ⟨by (with_reducible repeat (first | apply Kd.R_alloc | apply Kd.R_drewN | apply Kd.R_drew)); exact Kd.R_mono (Kd.R_far (p := ⟨gb442, 1, none⟩) (Kd.R_far (p := ⟨gb442, 0, none⟩) (Kd.R_types HO_432000.out BK442.out (by decide)) (fun _ hk => hk.2) (.slice Ao95 t437.length co95)) (fun _ hk => hk.2) (.int .i64 t440)) (fun _ hk => ⟨hk.1.1.1, ⟨hk.1.1.2, hk.1.2⟩⟩)⟩
                  have n5_ : Aside0 (Kd.R (Kd.int .u8) 5 ((w94.setCell ⟨gb442, 0, none⟩ (.slice Ao95 t437.length co95)).setCell ⟨gb442, 1, none⟩ (.int .i64 t440)) w.heap.size (fun k_ => some k_ ≠ (.slice Ao19 y417.length co19 : Value).ownBlock ∧ some k_ ≠ (.slice Ao24 t420.length co24 : Value).ownBlock ∧ some k_ ≠ (.slice Ao29 t426.length co29 : Value).ownBlock) (.slice Ao95 t437.length co95) t437) := ⟨by (with_reducible repeat (first | apply Kd.R_alloc | apply Kd.R_drewN | apply Kd.R_drew)); exact Kd.R_mono (Kd.R_far (p := ⟨gb442, 1, none⟩) (Kd.R_far (p := ⟨gb442, 0, none⟩) (Kd.R_types HO439.out BK442.out (by decide)) (fun _ hk => hk.2) (.slice Ao95 t437.length co95)) (fun _ hk => hk.2) (.int .i64 t440)) (fun _ hk => ⟨hk.1.1.1.2, ⟨hk.1.1.2, hk.1.2⟩⟩)⟩
                  have n6_ : Aside0 (((w94.setCell ⟨gb442, 0, none⟩ (.slice Ao95 t437.length co95)).setCell ⟨gb442, 1, none⟩ (.int .i64 t440)).heap[gb413]? = some (.cells #[.slice Ao19 y417.length co19, .int .i64 t408] 30 (0, 0))) := ⟨by (with_reducible repeat (first | refine blk_drewN ?_ _ | refine blk_drew ?_ | refine blk_alloc ?_ _)); refine blk_far ?_ NB413_442.out _; (with_reducible repeat (first | refine blk_drewN ?_ _ | refine blk_drew ?_ | refine blk_alloc ?_ _)); refine blk_far ?_ NB413_442.out _; (with_reducible repeat (first | refine blk_drewN ?_ _ | refine blk_drew ?_ | refine blk_alloc ?_ _)); exact BK413.out⟩
                  have n7_ : Aside0 (((w94.setCell ⟨gb442, 0, none⟩ (.slice Ao95 t437.length co95)).setCell ⟨gb442, 1, none⟩ (.int .i64 t440)).heap[gb425]? = some (.cells #[.slice Ao24 t420.length co24, .int .i64 t423] 30 (0, 0))) := ⟨by (with_reducible repeat (first | refine blk_drewN ?_ _ | refine blk_drew ?_ | refine blk_alloc ?_ _)); refine blk_far ?_ NB425_442.out _; (with_reducible repeat (first | refine blk_drewN ?_ _ | refine blk_drew ?_ | refine blk_alloc ?_ _)); refine blk_far ?_ NB425_442.out _; (with_reducible repeat (first | refine blk_drewN ?_ _ | refine blk_drew ?_ | refine blk_alloc ?_ _)); exact BK425.out⟩
                  have n8_ : Aside0 (((w94.setCell ⟨gb442, 0, none⟩ (.slice Ao95 t437.length co95)).setCell ⟨gb442, 1, none⟩ (.int .i64 t440)).heap[gb431]? = some (.cells #[.slice Ao29 t426.length co29, .int .i64 t429] 30 (0, 0))) := ⟨by (with_reducible repeat (first | refine blk_drewN ?_ _ | refine blk_drew ?_ | refine blk_alloc ?_ _)); refine blk_far ?_ NB431_442.out _; (with_reducible repeat (first | refine blk_drewN ?_ _ | refine blk_drew ?_ | refine blk_alloc ?_ _)); refine blk_far ?_ NB431_442.out _; (with_reducible repeat (first | refine blk_drewN ?_ _ | refine blk_drew ?_ | refine blk_alloc ?_ _)); exact BK431.out⟩
                  have n9_ : Aside0 (((w94.setCell ⟨gb442, 0, none⟩ (.slice Ao95 t437.length co95)).setCell ⟨gb442, 1, none⟩ (.int .i64 t440)).heap[gb442]? = some (.cells #[.slice Ao95 t437.length co95, .int .i64 t440] 30 (0, 0))) := ⟨by (with_reducible repeat (first | refine blk_drewN ?_ _ | refine blk_drew ?_ | refine blk_alloc ?_ _)); refine blk_put (cs := #[.slice Ao95 t437.length co95, .int .i64 0]) ?_ 1 _ rfl; (with_reducible repeat (first | refine blk_drewN ?_ _ | refine blk_drew ?_ | refine blk_alloc ?_ _)); refine blk_put (cs := #[.slice none 0 0, .int .i64 0]) ?_ 0 _ rfl; (with_reducible repeat (first | refine blk_drewN ?_ _ | refine blk_drew ?_ | refine blk_alloc ?_ _)); exact BK442.out⟩
                  have n10_ : Aside0 (Below w.heap.size w ((w94.setCell ⟨gb442, 0, none⟩ (.slice Ao95 t437.length co95)).setCell ⟨gb442, 1, none⟩ (.int .i64 t440))) := ⟨by repeat (first | (with_reducible first | exact HB.out | apply below_alloc | apply pw_below_drewN | apply below_drew1 | refine below_set ?_ GE413.out | refine below_set ?_ GE425.out | refine below_set ?_ GE431.out | refine below_set ?_ GE442.out) | exact HB.out)⟩
                  (try clear HO_8)
                  (try clear HO_14)
                  (try clear HO_414000)
                  (try clear HO_426000)
                  (try clear HO_432000)
                  (try clear HO439)
                  (try clear BK413)
                  (try clear BK425)
                  (try clear BK431)
                  (try clear BK442)
                  (try clear HB)
                  generalize ((w94.setCell ⟨gb442, 0, none⟩ (.slice Ao95 t437.length co95)).setCell ⟨gb442, 1, none⟩ (.int .i64 t440)) = w100 at n0_ n1_ n2_ n3_ n4_ n5_ n6_ n7_ n8_ n9_ n10_ ⊢
                  have HO_8 := n0_
                  have HO_14 := n1_
                  have HO_414000 := n2_
                  have HO_426000 := n3_
                  have HO_432000 := n4_
                  have HO439 := n5_
                  have BK413 := n6_
                  have BK425 := n7_
                  have BK431 := n8_
                  have BK442 := n9_
                  have HB := n10_
                  clear n0_ n1_ n2_ n3_ n4_ n5_ n6_ n7_ n8_ n9_ n10_
                  have n0_ := Aside0.mk (Kd.S_drew HO_8.out)
                  have n1_ := Aside0.mk (Kd.S_drew HO_14.out)
                  have n2_ := Aside0.mk (Kd.R_drew HO_414000.out)
                  have n3_ := Aside0.mk (Kd.R_drew HO_426000.out)
                  have n4_ := Aside0.mk (Kd.R_drew HO_432000.out)
                  have n5_ := Aside0.mk (Kd.R_drew HO439.out)
                  have n6_ := Aside0.mk (blk_drew BK413.out)
                  have n7_ := Aside0.mk (blk_drew BK425.out)
                  have n8_ := Aside0.mk (blk_drew BK431.out)
                  have n9_ := Aside0.mk (blk_drew BK442.out)
                  have n10_ := Aside0.mk (below_drew1 HB.out)
                  clear HO_8
                  clear HO_14
                  clear HO_414000
                  clear HO_426000
                  clear HO_432000
                  clear HO439
                  clear BK413
                  clear BK425
                  clear BK431
                  clear BK442
                  clear HB
                  have HO_8 := n0_
                  have HO_14 := n1_
                  have HO_414000 := n2_
                  have HO_426000 := n3_
                  have HO_432000 := n4_
                  have HO439 := n5_
                  have BK413 := n6_
                  have BK425 := n7_
                  have BK431 := n8_
                  have BK442 := n9_
                  have HB := n10_
                  clear n0_ n1_ n2_ n3_ n4_ n5_ n6_ n7_ n8_ n9_ n10_
                  refine start_ (n := 10) (S := fun w' => w'.cell? ⟨gb442, 0, none⟩ = some (.slice Ao95 t437.length co95) ∧ w'.cell? ⟨gb442, 1, none⟩ = some (.int .i64 t440)) (ds := []) #[false, false, false, false, false, false, false, false, false, false] (by kernel_rfl) rfl rfl ⟨(blk_cell BK442.out 0).trans rfl, (blk_cell BK442.out 1).trans rfl⟩ (fun hHeld => ?_); refine with_tabW foretellkeep_TapeAgain.tab7 foretellkeep_TapeAgain.bits7 (fun HT_ HW_ => ?_)
                  generalize w100.drew = w101 at HO_8 HO_14 HO_414000 HO_426000 HO_432000 HO439 BK413 BK425 BK431 BK442 HB hHeld ⊢
                  refine pure_ (i := 1) (N := some 56) (v := ?_) (a' := ?_) #[false, true, false, false, false, false, false, false, false, false] rfl rfl (any_of HT_.out (by kernel_rfl)) (fun _ _ _ h => h) (Or.inl ⟨by rfl, ?_⟩) ?_ ?_
                  rotate_left
                  ·
                   intro w'
                   go_simp
                   with_reducible rfl
                  rotate_left
                  ·
                   simp only [Act.put, List.setIfInBounds_toArray, List.set_cons_zero, List.set_cons_succ, i64_w, i32_w]
                   rfl
                  refine take_ (i := 0) (N := some 55) (v := ?_) (a' := ?_) #[true, true, false, false, false, false, false, false, false, false] rfl rfl (take_ofW HT_.out HW_.out (by kernel_rfl)) (fun _ _ _ h => h) (Or.inl ⟨by rfl, ?_⟩) hHeld ?_ ?_
                  rotate_left
                  ·
                   rintro w' ⟨s0, s1⟩
                   go_simp
                   with_reducible rfl
                  rotate_left
                  ·
                   simp only [Act.put, List.setIfInBounds_toArray, List.set_cons_zero, List.set_cons_succ, i64_w, i32_w]
                   rfl
                  refine join_ (σ := Value × Nat) 2 #[true, true, true, true, true, true, true, true, false, false] (fun s_ => [(57, .int .i64 t443), (58, .tuple #[.agg #[s_.1, .int .i64 t447], .int .i64 t448]), (19, .pointer (some ⟨s_.2, 0, none⟩)), (54, .tuple #[.agg #[s_.1, .int .i64 t447], .int .i64 t448]), (59, .agg #[s_.1, .int .i64 t447]), (60, .int .i64 t448)]) (fun s_ w' => (w'.cell? ⟨gb442, 0, none⟩ = some (.slice Ao95 t437.length co95) ∧ w'.cell? ⟨gb442, 1, none⟩ = some (.int .i64 t440)) ∧ (Kd.R (Kd.int .u8) 5 w' w.heap.size (fun k_ => some k_ ≠ (.slice Ao19 y417.length co19 : Value).ownBlock ∧ some k_ ≠ (.slice Ao24 t420.length co24 : Value).ownBlock ∧ some k_ ≠ (.slice Ao29 t426.length co29 : Value).ownBlock) (.slice Ao95 t437.length co95) t437) ∧ (Kd.V (Kd.int .u8) 5 w' w.heap.size (fun k_ => some k_ ≠ (.slice Ao95 t437.length co95 : Value).ownBlock ∧ some k_ ≠ (u14 : Value).ownBlock ∧ some k_ ≠ (.slice Ao19 y417.length co19 : Value).ownBlock ∧ some k_ ≠ (.slice Ao24 t420.length co24 : Value).ownBlock ∧ some k_ ≠ (.slice Ao29 t426.length co29 : Value).ownBlock ∧ some k_ ≠ (v410 : Value).ownBlock ∧ k_ ≠ gb413 ∧ k_ ≠ gb425 ∧ k_ ≠ gb431 ∧ k_ ≠ gb442 ∧ k_ ≠ s_.2) s_.1 t444) ∧ (Kd.S (Kd.slice 3 (Kd.int .i64)) 27 w' w.heap.size (fun _ => True) u14 x14_8) ∧ (Kd.R (Kd.int .u8) 5 w' w.heap.size (fun k_ => some k_ ≠ (.slice Ao95 t437.length co95 : Value).ownBlock ∧ some k_ ≠ (.slice Ao24 t420.length co24 : Value).ownBlock ∧ some k_ ≠ (.slice Ao29 t426.length co29 : Value).ownBlock) (.slice Ao19 y417.length co19) y417) ∧ (Kd.R (Kd.int .u8) 5 w' w.heap.size (fun k_ => some k_ ≠ (.slice Ao95 t437.length co95 : Value).ownBlock ∧ some k_ ≠ (.slice Ao19 y417.length co19 : Value).ownBlock ∧ some k_ ≠ (.slice Ao29 t426.length co29 : Value).ownBlock) (.slice Ao24 t420.length co24) t420) ∧ (Kd.R (Kd.int .u8) 5 w' w.heap.size (fun k_ => some k_ ≠ (.slice Ao95 t437.length co95 : Value).ownBlock ∧ some k_ ≠ (.slice Ao19 y417.length co19 : Value).ownBlock ∧ some k_ ≠ (.slice Ao24 t420.length co24 : Value).ownBlock) (.slice Ao29 t426.length co29) t426) ∧ (Kd.S (Kd.slice 3 (Kd.int .i64)) 27 w' w.heap.size (fun _ => True) v410 t409) ∧ (w'.heap[gb413]? = some (.cells #[.slice Ao19 y417.length co19, .int .i64 t408] 30 (0, 0))) ∧ (w'.heap[gb425]? = some (.cells #[.slice Ao24 t420.length co24, .int .i64 t423] 30 (0, 0))) ∧ (w'.heap[gb431]? = some (.cells #[.slice Ao29 t426.length co29, .int .i64 t429] 30 (0, 0))) ∧ (w'.heap[gb442]? = some (.cells #[.slice Ao95 t437.length co95, .int .i64 t440] 30 (0, 0))) ∧ (w'.heap[s_.2]? = some (.cells #[.slice none 0 0, .int .i64 0] 30 (0, 0))) ∧ (w.heap.size ≤ s_.2) ∧ (w.heap.size ≤ s_.2) ∧ (gb413 ≠ s_.2) ∧ (s_.2 ≠ gb413) ∧ (gb425 ≠ s_.2) ∧ (s_.2 ≠ gb425) ∧ (gb431 ≠ s_.2) ∧ (s_.2 ≠ gb431) ∧ (gb442 ≠ s_.2) ∧ (s_.2 ≠ gb442) ∧ (Below w.heap.size w w')) ?_ ?_
                  rotate_left
                  ·
                   intro hCont
                   refine two_ (i := 2) (j := 7) (Ni := some 57) (Nj := some 19) #[true, true, true, false, false, false, false, false, false, false] #[true, true, false, false, false, false, false, true, false, false] rfl rfl rfl rfl (two_of HT_.out (by kernel_rfl)) (by decide) (by decide) (fun K hK => ?_) (fun K hK => ?_)
                   ·
                    skip
                    refine goes_ Try.func11 (by kernel_rfl) rfl #[.int .i64 a2, .int .i64 50] (by rfl) rfl rfl (by (try simp only [List.map_toArray, List.map_cons, List.map_nil]); first | done | rfl | (simp only [List.length_drop, List.length_take]; rfl)) ?_
                    with_reducible refine (foretellkeep_picked.calls a2 50 t443 _ A39.out).mono ?_
                    rintro e w' ⟨rfl, ⟨nd, rfl⟩⟩
                    refine ⟨_, rfl, ?_⟩
                    refine hK.out _ _ ⟨(blk_cell BK442.out 0).trans rfl, (blk_cell BK442.out 1).trans rfl⟩ (fun hHeld => ?_)
                    clear hK K
                    refine norm_ (a' := ?_) ?_ ?_
                    rotate_left
                    ·
                     show Act.put _ (some 57) _ = _
                     simp only [Act.put, List.setIfInBounds_toArray, List.set_cons_zero, List.set_cons_succ, i64_w, i32_w]
                     rfl
                    refine two_ (i := 3) (j := 7) (Ni := some 58) (Nj := some 19) #[true, true, true, true, false, false, false, false, false, false] #[true, true, true, false, false, false, false, true, false, false] rfl rfl rfl rfl (two_of HT_.out (by kernel_rfl)) (by decide) (by decide) (fun K hK => ?_) (fun K hK => ?_)
                    ·
                     skip
                     refine goes_ Try.func18 (by kernel_rfl) rfl #[.agg #[.slice Ao95 t437.length co95, .int .i64 t440], .int .i64 t443] (by rfl) rfl rfl (by (try simp only [List.map_toArray, List.map_cons, List.map_nil]); first | done | rfl | (simp only [List.length_drop, List.length_take]; rfl)) ?_
                     with_reducible refine (tape_Crash.calls _ _ t437 t440 t443 t444 t447 t448 _ ?side1 ?side2 A40.out).mono ?_
                     (case side1 => repeat (first | exact (Kd.R_reads' HO439.out).2.2 | (with_reducible refine Kd.C_alloc ?_ _) | (with_reducible refine Kd.C_drewN ?_ _) | (with_reducible refine Kd.C_drew ?_)))
                     (case side2 => exact (Kd.R_reads' HO439.out).2.1)
                     rintro e w102 ⟨v445, rfl, ho0, hb⟩
                     refine ⟨_, rfl, ?_⟩
                     have n0_ := Aside0.mk (Kd.S_below (by (with_reducible repeat (first | apply Kd.S_alloc | apply Kd.S_drewN | apply Kd.S_drew)); exact HO_8.out) hb)
                     have n1_ := Aside0.mk (Kd.S_below (by (with_reducible repeat (first | apply Kd.S_alloc | apply Kd.S_drewN | apply Kd.S_drew)); exact HO_14.out) hb)
                     have n2_ := Aside0.mk (Kd.R_below (by (with_reducible repeat (first | apply Kd.R_alloc | apply Kd.R_drewN | apply Kd.R_drew)); exact HO_414000.out) hb)
                     have n3_ := Aside0.mk (Kd.R_below (by (with_reducible repeat (first | apply Kd.R_alloc | apply Kd.R_drewN | apply Kd.R_drew)); exact HO_426000.out) hb)
                     have n4_ := Aside0.mk (Kd.R_below (by (with_reducible repeat (first | apply Kd.R_alloc | apply Kd.R_drewN | apply Kd.R_drew)); exact HO_432000.out) hb)
                     have n5_ := Aside0.mk (Kd.R_below (by (with_reducible repeat (first | apply Kd.R_alloc | apply Kd.R_drewN | apply Kd.R_drew)); exact HO439.out) hb)
                     have n6_ := Aside0.mk (Kd.V_lower (Kd.V_mono (ok' := fun k_ => some k_ ≠ (v410 : Value).ownBlock ∧ some k_ ≠ (u14 : Value).ownBlock ∧ some k_ ≠ (.slice Ao19 y417.length co19 : Value).ownBlock ∧ some k_ ≠ (.slice Ao24 t420.length co24 : Value).ownBlock ∧ some k_ ≠ (.slice Ao29 t426.length co29 : Value).ownBlock ∧ some k_ ≠ (.slice Ao95 t437.length co95 : Value).ownBlock ∧ k_ ≠ gb413 ∧ k_ ≠ gb425 ∧ k_ ≠ gb431 ∧ k_ ≠ gb442) ho0 (fun k_ hk_ => ⟨(Kd.fresh' (Kd.S_lt (by (with_reducible repeat (first | apply Kd.S_alloc | apply Kd.S_drewN | apply Kd.S_drew)); exact HO_8.out)) k_ hk_), (Kd.fresh' (Kd.S_lt (by (with_reducible repeat (first | apply Kd.S_alloc | apply Kd.S_drewN | apply Kd.S_drew)); exact HO_14.out)) k_ hk_), (Kd.fresh' (Kd.R_lt (by (with_reducible repeat (first | apply Kd.R_alloc | apply Kd.R_drewN | apply Kd.R_drew)); exact HO_414000.out)) k_ hk_), (Kd.fresh' (Kd.R_lt (by (with_reducible repeat (first | apply Kd.R_alloc | apply Kd.R_drewN | apply Kd.R_drew)); exact HO_426000.out)) k_ hk_), (Kd.fresh' (Kd.R_lt (by (with_reducible repeat (first | apply Kd.R_alloc | apply Kd.R_drewN | apply Kd.R_drew)); exact HO_432000.out)) k_ hk_), (Kd.fresh' (Kd.R_lt (by (with_reducible repeat (first | apply Kd.R_alloc | apply Kd.R_drewN | apply Kd.R_drew)); exact HO439.out)) k_ hk_), (Kd.freshB (g := gb413) (o := .cells #[.slice Ao19 y417.length co19, .int .i64 t408] 30 (0, 0)) (by (with_reducible repeat (first | refine blk_drewN ?_ _ | refine blk_drew ?_ | refine blk_alloc ?_ _)); exact BK413.out) k_ hk_), (Kd.freshB (g := gb425) (o := .cells #[.slice Ao24 t420.length co24, .int .i64 t423] 30 (0, 0)) (by (with_reducible repeat (first | refine blk_drewN ?_ _ | refine blk_drew ?_ | refine blk_alloc ?_ _)); exact BK425.out) k_ hk_), (Kd.freshB (g := gb431) (o := .cells #[.slice Ao29 t426.length co29, .int .i64 t429] 30 (0, 0)) (by (with_reducible repeat (first | refine blk_drewN ?_ _ | refine blk_drew ?_ | refine blk_alloc ?_ _)); exact BK431.out) k_ hk_), (Kd.freshB (g := gb442) (o := .cells #[.slice Ao95 t437.length co95, .int .i64 t440] 30 (0, 0)) (by (with_reducible repeat (first | refine blk_drewN ?_ _ | refine blk_drew ?_ | refine blk_alloc ?_ _)); exact BK442.out) k_ hk_)⟩)) (below_size (by repeat (first | (with_reducible first | exact HB.out | apply below_alloc | apply pw_below_drewN | apply below_drew1 | refine below_set ?_ GE413.out | refine below_set ?_ GE425.out | refine below_set ?_ GE431.out | refine below_set ?_ GE442.out) | exact HB.out))))
                     have n7_ := Aside0.mk (blk_below (g := gb413) (o := .cells #[.slice Ao19 y417.length co19, .int .i64 t408] 30 (0, 0)) (by (with_reducible repeat (first | refine blk_drewN ?_ _ | refine blk_drew ?_ | refine blk_alloc ?_ _)); exact BK413.out) hb)
                     have n8_ := Aside0.mk (blk_below (g := gb425) (o := .cells #[.slice Ao24 t420.length co24, .int .i64 t423] 30 (0, 0)) (by (with_reducible repeat (first | refine blk_drewN ?_ _ | refine blk_drew ?_ | refine blk_alloc ?_ _)); exact BK425.out) hb)
                     have n9_ := Aside0.mk (blk_below (g := gb431) (o := .cells #[.slice Ao29 t426.length co29, .int .i64 t429] 30 (0, 0)) (by (with_reducible repeat (first | refine blk_drewN ?_ _ | refine blk_drew ?_ | refine blk_alloc ?_ _)); exact BK431.out) hb)
                     have n10_ := Aside0.mk (blk_below (g := gb442) (o := .cells #[.slice Ao95 t437.length co95, .int .i64 t440] 30 (0, 0)) (by (with_reducible repeat (first | refine blk_drewN ?_ _ | refine blk_drew ?_ | refine blk_alloc ?_ _)); exact BK442.out) hb)
                     have n11_ := Aside0.mk (below_step (by repeat (first | (with_reducible first | exact HB.out | apply below_alloc | apply pw_below_drewN | apply below_drew1 | refine below_set ?_ GE413.out | refine below_set ?_ GE425.out | refine below_set ?_ GE431.out | refine below_set ?_ GE442.out) | exact HB.out)) hb)
                     clear HO_8
                     clear HO_14
                     clear HO_414000
                     clear HO_426000
                     clear HO_432000
                     clear HO439
                     clear BK413
                     clear BK425
                     clear BK431
                     clear BK442
                     clear HB
                     have HO_8 := n0_
                     have HO_14 := n1_
                     have HO_414000 := n2_
                     have HO_426000 := n3_
                     have HO_432000 := n4_
                     have HO439 := n5_
                     have HO446 := n6_
                     have BK413 := n7_
                     have BK425 := n8_
                     have BK431 := n9_
                     have BK442 := n10_
                     have HB := n11_
                     clear n0_ n1_ n2_ n3_ n4_ n5_ n6_ n7_ n8_ n9_ n10_ n11_
                     (try clear hb)
                     (try clear hb2)
                     (try clear hk)
                     (try clear hi)
                     (try clear ho0)
                     refine hK.out _ _ ⟨(blk_cell BK442.out 0).trans rfl, (blk_cell BK442.out 1).trans rfl⟩ (fun hHeld => ?_)
                     clear hK K
                     refine norm_ (a' := ?_) ?_ ?_
                     rotate_left
                     ·
                      show Act.put _ (some 58) _ = _
                      simp only [Act.put, List.setIfInBounds_toArray, List.set_cons_zero, List.set_cons_succ, i64_w, i32_w]
                      rfl
                     refine pure_ (i := 4) (N := some 54) (v := ?_) (a' := ?_) #[true, true, true, true, true, false, false, false, false, false] rfl rfl (any_of HT_.out (by kernel_rfl)) (fun _ _ _ h => h) (Or.inl ⟨by rfl, ?_⟩) ?_ ?_
                     rotate_left
                     ·
                      intro w'
                      go_simp
                      with_reducible rfl
                     rotate_left
                     ·
                      simp only [Act.put, List.setIfInBounds_toArray, List.set_cons_zero, List.set_cons_succ, i64_w, i32_w]
                      rfl
                     refine pure_ (i := 5) (N := some 59) (v := ?_) (a' := ?_) #[true, true, true, true, true, true, false, false, false, false] rfl rfl (any_of HT_.out (by kernel_rfl)) (fun _ _ _ h => h) (Or.inl ⟨by rfl, ?_⟩) ?_ ?_
                     rotate_left
                     ·
                      intro w'
                      go_simp
                      with_reducible rfl
                     rotate_left
                     ·
                      simp only [Act.put, List.setIfInBounds_toArray, List.set_cons_zero, List.set_cons_succ, i64_w, i32_w]
                      rfl
                     refine pure_ (i := 6) (N := some 60) (v := ?_) (a' := ?_) #[true, true, true, true, true, true, true, false, false, false] rfl rfl (any_of HT_.out (by kernel_rfl)) (fun _ _ _ h => h) (Or.inl ⟨by rfl, ?_⟩) ?_ ?_
                     rotate_left
                     ·
                      intro w'
                      go_simp
                      with_reducible rfl
                     rotate_left
                     ·
                      simp only [Act.put, List.setIfInBounds_toArray, List.set_cons_zero, List.set_cons_succ, i64_w, i32_w]
                      rfl
                     refine one_ (i := 7) (N := some 19) #[true, true, true, true, true, true, true, true, false, false] rfl rfl (one_of HT_.out (by kernel_rfl)) (by decide) (fun K hK => ?_)
                     refine box_step ?hg (N := 19) ?hd (cs := #[.slice none 0 0, .int .i64 0]) (t := 30) ?hr ?_; (case hd => rfl); (case hg => rfl); (case hr => first | (go_simp; done) | (go_simp; rfl))
                     intro gb449 hg w103 hbox hb
                     have n0_ := Aside0.mk (Kd.S_below (by (with_reducible repeat (first | apply Kd.S_alloc | apply Kd.S_drewN | apply Kd.S_drew)); exact HO_8.out) hb)
                     have n1_ := Aside0.mk (Kd.S_below (by (with_reducible repeat (first | apply Kd.S_alloc | apply Kd.S_drewN | apply Kd.S_drew)); exact HO_14.out) hb)
                     have n2_ := Aside0.mk (Kd.R_below (by (with_reducible repeat (first | apply Kd.R_alloc | apply Kd.R_drewN | apply Kd.R_drew)); exact HO_414000.out) hb)
                     have n3_ := Aside0.mk (Kd.R_below (by (with_reducible repeat (first | apply Kd.R_alloc | apply Kd.R_drewN | apply Kd.R_drew)); exact HO_426000.out) hb)
                     have n4_ := Aside0.mk (Kd.R_below (by (with_reducible repeat (first | apply Kd.R_alloc | apply Kd.R_drewN | apply Kd.R_drew)); exact HO_432000.out) hb)
                     have n5_ := Aside0.mk (Kd.R_below (by (with_reducible repeat (first | apply Kd.R_alloc | apply Kd.R_drewN | apply Kd.R_drew)); exact HO439.out) hb)
                     have n6_ := Aside0.mk (Kd.V_below (Kd.V_elderB (by (with_reducible repeat (first | apply Kd.V_alloc | apply Kd.V_drewN | apply Kd.V_drew)); exact HO446.out) gb449 (Nat.le_of_eq hg.symm)) hb)
                     have n7_ := Aside0.mk (blk_below (g := gb413) (o := .cells #[.slice Ao19 y417.length co19, .int .i64 t408] 30 (0, 0)) (by (with_reducible repeat (first | refine blk_drewN ?_ _ | refine blk_drew ?_ | refine blk_alloc ?_ _)); exact BK413.out) hb)
                     have n8_ := Aside0.mk (blk_below (g := gb425) (o := .cells #[.slice Ao24 t420.length co24, .int .i64 t423] 30 (0, 0)) (by (with_reducible repeat (first | refine blk_drewN ?_ _ | refine blk_drew ?_ | refine blk_alloc ?_ _)); exact BK425.out) hb)
                     have n9_ := Aside0.mk (blk_below (g := gb431) (o := .cells #[.slice Ao29 t426.length co29, .int .i64 t429] 30 (0, 0)) (by (with_reducible repeat (first | refine blk_drewN ?_ _ | refine blk_drew ?_ | refine blk_alloc ?_ _)); exact BK431.out) hb)
                     have n10_ := Aside0.mk (blk_below (g := gb442) (o := .cells #[.slice Ao95 t437.length co95, .int .i64 t440] 30 (0, 0)) (by (with_reducible repeat (first | refine blk_drewN ?_ _ | refine blk_drew ?_ | refine blk_alloc ?_ _)); exact BK442.out) hb)
                     have n11_ := Aside0.mk (below_step (by repeat (first | (with_reducible first | exact HB.out | apply below_alloc | apply pw_below_drewN | apply below_drew1 | refine below_set ?_ GE413.out | refine below_set ?_ GE425.out | refine below_set ?_ GE431.out | refine below_set ?_ GE442.out) | exact HB.out)) hb)
                     have n12_ := Aside0.mk (hbox)
                     have n13_ := Aside0.mk ((by rw [hg]; exact (below_size (by repeat (first | (with_reducible first | exact HB.out | apply below_alloc | apply pw_below_drewN | apply below_drew1 | refine below_set ?_ GE413.out | refine below_set ?_ GE425.out | refine below_set ?_ GE431.out | refine below_set ?_ GE442.out) | exact HB.out))) : w.heap.size ≤ gb449))
                     have n14_ := Aside0.mk ((by rw [hg]; exact (below_size (by repeat (first | (with_reducible first | exact HB.out | apply below_alloc | apply pw_below_drewN | apply below_drew1 | refine below_set ?_ GE413.out | refine below_set ?_ GE425.out | refine below_set ?_ GE431.out | refine below_set ?_ GE442.out) | exact HB.out))) : w.heap.size ≤ gb449))
                     have n15_ := Aside0.mk ((by rw [hg]; exact Nat.ne_of_lt (blk_lt (g := gb413) (o := .cells #[.slice Ao19 y417.length co19, .int .i64 t408] 30 (0, 0)) (by (with_reducible repeat (first | refine blk_drewN ?_ _ | refine blk_drew ?_ | refine blk_alloc ?_ _)); exact BK413.out)) : gb413 ≠ gb449))
                     have n16_ := Aside0.mk ((by rw [hg]; exact Nat.ne_of_gt (blk_lt (g := gb413) (o := .cells #[.slice Ao19 y417.length co19, .int .i64 t408] 30 (0, 0)) (by (with_reducible repeat (first | refine blk_drewN ?_ _ | refine blk_drew ?_ | refine blk_alloc ?_ _)); exact BK413.out)) : gb449 ≠ gb413))
                     have n17_ := Aside0.mk ((by rw [hg]; exact Nat.ne_of_lt (blk_lt (g := gb425) (o := .cells #[.slice Ao24 t420.length co24, .int .i64 t423] 30 (0, 0)) (by (with_reducible repeat (first | refine blk_drewN ?_ _ | refine blk_drew ?_ | refine blk_alloc ?_ _)); exact BK425.out)) : gb425 ≠ gb449))
                     have n18_ := Aside0.mk ((by rw [hg]; exact Nat.ne_of_gt (blk_lt (g := gb425) (o := .cells #[.slice Ao24 t420.length co24, .int .i64 t423] 30 (0, 0)) (by (with_reducible repeat (first | refine blk_drewN ?_ _ | refine blk_drew ?_ | refine blk_alloc ?_ _)); exact BK425.out)) : gb449 ≠ gb425))
                     have n19_ := Aside0.mk ((by rw [hg]; exact Nat.ne_of_lt (blk_lt (g := gb431) (o := .cells #[.slice Ao29 t426.length co29, .int .i64 t429] 30 (0, 0)) (by (with_reducible repeat (first | refine blk_drewN ?_ _ | refine blk_drew ?_ | refine blk_alloc ?_ _)); exact BK431.out)) : gb431 ≠ gb449))
                     have n20_ := Aside0.mk ((by rw [hg]; exact Nat.ne_of_gt (blk_lt (g := gb431) (o := .cells #[.slice Ao29 t426.length co29, .int .i64 t429] 30 (0, 0)) (by (with_reducible repeat (first | refine blk_drewN ?_ _ | refine blk_drew ?_ | refine blk_alloc ?_ _)); exact BK431.out)) : gb449 ≠ gb431))
                     have n21_ := Aside0.mk ((by rw [hg]; exact Nat.ne_of_lt (blk_lt (g := gb442) (o := .cells #[.slice Ao95 t437.length co95, .int .i64 t440] 30 (0, 0)) (by (with_reducible repeat (first | refine blk_drewN ?_ _ | refine blk_drew ?_ | refine blk_alloc ?_ _)); exact BK442.out)) : gb442 ≠ gb449))
                     have n22_ := Aside0.mk ((by rw [hg]; exact Nat.ne_of_gt (blk_lt (g := gb442) (o := .cells #[.slice Ao95 t437.length co95, .int .i64 t440] 30 (0, 0)) (by (with_reducible repeat (first | refine blk_drewN ?_ _ | refine blk_drew ?_ | refine blk_alloc ?_ _)); exact BK442.out)) : gb449 ≠ gb442))
                     clear HO_8
                     clear HO_14
                     clear HO_414000
                     clear HO_426000
                     clear HO_432000
                     clear HO439
                     clear HO446
                     clear BK413
                     clear BK425
                     clear BK431
                     clear BK442
                     clear HB
                     have HO_8 := n0_
                     have HO_14 := n1_
                     have HO_414000 := n2_
                     have HO_426000 := n3_
                     have HO_432000 := n4_
                     have HO439 := n5_
                     have HO446 := n6_
                     have BK413 := n7_
                     have BK425 := n8_
                     have BK431 := n9_
                     have BK442 := n10_
                     have HB := n11_
                     have BK449 := n12_
                     have GW449 := n13_
                     have GE449 := n14_
                     have NB413_449 := n15_
                     have NB449_413 := n16_
                     have NB425_449 := n17_
                     have NB449_425 := n18_
                     have NB431_449 := n19_
                     have NB449_431 := n20_
                     have NB442_449 := n21_
                     have NB449_442 := n22_
                     clear n0_ n1_ n2_ n3_ n4_ n5_ n6_ n7_ n8_ n9_ n10_ n11_ n12_ n13_ n14_ n15_ n16_ n17_ n18_ n19_ n20_ n21_ n22_
                     clear hb hbox hg
                     refine hK.out _ _ ⟨(blk_cell BK442.out 0).trans rfl, (blk_cell BK442.out 1).trans rfl⟩ (fun hHeld => ?_)
                     clear hK K
                     refine norm_ (a' := ?_) ?_ ?_
                     rotate_left
                     ·
                      show Act.put _ (some 19) _ = _
                      simp only [Act.put, List.setIfInBounds_toArray, List.set_cons_zero, List.set_cons_succ, i64_w, i32_w]
                      rfl
                     exact norm_ (by simp only [putAll, Act.put, List.setIfInBounds_toArray, List.set_cons_zero, List.set_cons_succ]) (hCont (v445, gb449) _ ⟨hHeld, (by (with_reducible repeat (first | apply Kd.R_alloc | apply Kd.R_drewN | apply Kd.R_drew)); exact HO439.out), (by (with_reducible repeat (first | apply Kd.V_alloc | apply Kd.V_drewN | apply Kd.V_drew)); exact Kd.V_mono HO446.out (fun _ hk => ⟨hk.1.2.2.2.2.2.1, ⟨hk.1.2.1, ⟨hk.1.2.2.1, ⟨hk.1.2.2.2.1, ⟨hk.1.2.2.2.2.1, ⟨hk.1.1, ⟨hk.1.2.2.2.2.2.2.1, ⟨hk.1.2.2.2.2.2.2.2.1, ⟨hk.1.2.2.2.2.2.2.2.2.1, ⟨hk.1.2.2.2.2.2.2.2.2.2, hk.2⟩⟩⟩⟩⟩⟩⟩⟩⟩⟩)), (by (with_reducible repeat (first | apply Kd.S_alloc | apply Kd.S_drewN | apply Kd.S_drew)); exact HO_14.out), (by (with_reducible repeat (first | apply Kd.R_alloc | apply Kd.R_drewN | apply Kd.R_drew)); exact Kd.R_mono HO_414000.out (fun _ hk => ⟨hk.2.2, ⟨hk.1, hk.2.1⟩⟩)), (by (with_reducible repeat (first | apply Kd.R_alloc | apply Kd.R_drewN | apply Kd.R_drew)); exact Kd.R_mono HO_426000.out (fun _ hk => ⟨hk.2.2, ⟨hk.1, hk.2.1⟩⟩)), (by (with_reducible repeat (first | apply Kd.R_alloc | apply Kd.R_drewN | apply Kd.R_drew)); exact Kd.R_mono HO_432000.out (fun _ hk => ⟨hk.2.2, ⟨hk.1, hk.2.1⟩⟩)), (by (with_reducible repeat (first | apply Kd.S_alloc | apply Kd.S_drewN | apply Kd.S_drew)); exact HO_8.out), (by (with_reducible repeat (first | refine blk_drewN ?_ _ | refine blk_drew ?_ | refine blk_alloc ?_ _)); exact BK413.out), (by (with_reducible repeat (first | refine blk_drewN ?_ _ | refine blk_drew ?_ | refine blk_alloc ?_ _)); exact BK425.out), (by (with_reducible repeat (first | refine blk_drewN ?_ _ | refine blk_drew ?_ | refine blk_alloc ?_ _)); exact BK431.out), (by (with_reducible repeat (first | refine blk_drewN ?_ _ | refine blk_drew ?_ | refine blk_alloc ?_ _)); exact BK442.out), (by (with_reducible repeat (first | refine blk_drewN ?_ _ | refine blk_drew ?_ | refine blk_alloc ?_ _)); exact BK449.out), GW449.out, GE449.out, NB413_449.out, NB449_413.out, NB425_449.out, NB449_425.out, NB431_449.out, NB449_431.out, NB442_449.out, NB449_442.out, (by repeat (first | (with_reducible first | exact HB.out | apply below_alloc | apply pw_below_drewN | apply below_drew1 | refine below_set ?_ GE413.out | refine below_set ?_ GE425.out | refine below_set ?_ GE431.out | refine below_set ?_ GE442.out | refine below_set ?_ GE449.out) | exact HB.out))⟩)
                    ·
                     skip
                     refine box_step ?hg (N := 19) ?hd (cs := #[.slice none 0 0, .int .i64 0]) (t := 30) ?hr ?_; (case hd => rfl); (case hg => rfl); (case hr => first | (go_simp; done) | (go_simp; rfl))
                     intro gb449 hg w102 hbox hb
                     have n0_ := Aside0.mk (Kd.S_below (by (with_reducible repeat (first | apply Kd.S_alloc | apply Kd.S_drewN | apply Kd.S_drew)); exact HO_8.out) hb)
                     have n1_ := Aside0.mk (Kd.S_below (by (with_reducible repeat (first | apply Kd.S_alloc | apply Kd.S_drewN | apply Kd.S_drew)); exact HO_14.out) hb)
                     have n2_ := Aside0.mk (Kd.R_below (by (with_reducible repeat (first | apply Kd.R_alloc | apply Kd.R_drewN | apply Kd.R_drew)); exact HO_414000.out) hb)
                     have n3_ := Aside0.mk (Kd.R_below (by (with_reducible repeat (first | apply Kd.R_alloc | apply Kd.R_drewN | apply Kd.R_drew)); exact HO_426000.out) hb)
                     have n4_ := Aside0.mk (Kd.R_below (by (with_reducible repeat (first | apply Kd.R_alloc | apply Kd.R_drewN | apply Kd.R_drew)); exact HO_432000.out) hb)
                     have n5_ := Aside0.mk (Kd.R_below (by (with_reducible repeat (first | apply Kd.R_alloc | apply Kd.R_drewN | apply Kd.R_drew)); exact HO439.out) hb)
                     have n6_ := Aside0.mk (blk_below (g := gb413) (o := .cells #[.slice Ao19 y417.length co19, .int .i64 t408] 30 (0, 0)) (by (with_reducible repeat (first | refine blk_drewN ?_ _ | refine blk_drew ?_ | refine blk_alloc ?_ _)); exact BK413.out) hb)
                     have n7_ := Aside0.mk (blk_below (g := gb425) (o := .cells #[.slice Ao24 t420.length co24, .int .i64 t423] 30 (0, 0)) (by (with_reducible repeat (first | refine blk_drewN ?_ _ | refine blk_drew ?_ | refine blk_alloc ?_ _)); exact BK425.out) hb)
                     have n8_ := Aside0.mk (blk_below (g := gb431) (o := .cells #[.slice Ao29 t426.length co29, .int .i64 t429] 30 (0, 0)) (by (with_reducible repeat (first | refine blk_drewN ?_ _ | refine blk_drew ?_ | refine blk_alloc ?_ _)); exact BK431.out) hb)
                     have n9_ := Aside0.mk (blk_below (g := gb442) (o := .cells #[.slice Ao95 t437.length co95, .int .i64 t440] 30 (0, 0)) (by (with_reducible repeat (first | refine blk_drewN ?_ _ | refine blk_drew ?_ | refine blk_alloc ?_ _)); exact BK442.out) hb)
                     have n10_ := Aside0.mk (below_step (by repeat (first | (with_reducible first | exact HB.out | apply below_alloc | apply pw_below_drewN | apply below_drew1 | refine below_set ?_ GE413.out | refine below_set ?_ GE425.out | refine below_set ?_ GE431.out | refine below_set ?_ GE442.out) | exact HB.out)) hb)
                     have n11_ := Aside0.mk (hbox)
                     have n12_ := Aside0.mk ((by rw [hg]; exact (below_size (by repeat (first | (with_reducible first | exact HB.out | apply below_alloc | apply pw_below_drewN | apply below_drew1 | refine below_set ?_ GE413.out | refine below_set ?_ GE425.out | refine below_set ?_ GE431.out | refine below_set ?_ GE442.out) | exact HB.out))) : w.heap.size ≤ gb449))
                     have n13_ := Aside0.mk ((by rw [hg]; exact (below_size (by repeat (first | (with_reducible first | exact HB.out | apply below_alloc | apply pw_below_drewN | apply below_drew1 | refine below_set ?_ GE413.out | refine below_set ?_ GE425.out | refine below_set ?_ GE431.out | refine below_set ?_ GE442.out) | exact HB.out))) : w.heap.size ≤ gb449))
                     have n14_ := Aside0.mk ((by rw [hg]; exact Nat.ne_of_lt (blk_lt (g := gb413) (o := .cells #[.slice Ao19 y417.length co19, .int .i64 t408] 30 (0, 0)) (by (with_reducible repeat (first | refine blk_drewN ?_ _ | refine blk_drew ?_ | refine blk_alloc ?_ _)); exact BK413.out)) : gb413 ≠ gb449))
                     have n15_ := Aside0.mk ((by rw [hg]; exact Nat.ne_of_gt (blk_lt (g := gb413) (o := .cells #[.slice Ao19 y417.length co19, .int .i64 t408] 30 (0, 0)) (by (with_reducible repeat (first | refine blk_drewN ?_ _ | refine blk_drew ?_ | refine blk_alloc ?_ _)); exact BK413.out)) : gb449 ≠ gb413))
                     have n16_ := Aside0.mk ((by rw [hg]; exact Nat.ne_of_lt (blk_lt (g := gb425) (o := .cells #[.slice Ao24 t420.length co24, .int .i64 t423] 30 (0, 0)) (by (with_reducible repeat (first | refine blk_drewN ?_ _ | refine blk_drew ?_ | refine blk_alloc ?_ _)); exact BK425.out)) : gb425 ≠ gb449))
                     have n17_ := Aside0.mk ((by rw [hg]; exact Nat.ne_of_gt (blk_lt (g := gb425) (o := .cells #[.slice Ao24 t420.length co24, .int .i64 t423] 30 (0, 0)) (by (with_reducible repeat (first | refine blk_drewN ?_ _ | refine blk_drew ?_ | refine blk_alloc ?_ _)); exact BK425.out)) : gb449 ≠ gb425))
                     have n18_ := Aside0.mk ((by rw [hg]; exact Nat.ne_of_lt (blk_lt (g := gb431) (o := .cells #[.slice Ao29 t426.length co29, .int .i64 t429] 30 (0, 0)) (by (with_reducible repeat (first | refine blk_drewN ?_ _ | refine blk_drew ?_ | refine blk_alloc ?_ _)); exact BK431.out)) : gb431 ≠ gb449))
                     have n19_ := Aside0.mk ((by rw [hg]; exact Nat.ne_of_gt (blk_lt (g := gb431) (o := .cells #[.slice Ao29 t426.length co29, .int .i64 t429] 30 (0, 0)) (by (with_reducible repeat (first | refine blk_drewN ?_ _ | refine blk_drew ?_ | refine blk_alloc ?_ _)); exact BK431.out)) : gb449 ≠ gb431))
                     have n20_ := Aside0.mk ((by rw [hg]; exact Nat.ne_of_lt (blk_lt (g := gb442) (o := .cells #[.slice Ao95 t437.length co95, .int .i64 t440] 30 (0, 0)) (by (with_reducible repeat (first | refine blk_drewN ?_ _ | refine blk_drew ?_ | refine blk_alloc ?_ _)); exact BK442.out)) : gb442 ≠ gb449))
                     have n21_ := Aside0.mk ((by rw [hg]; exact Nat.ne_of_gt (blk_lt (g := gb442) (o := .cells #[.slice Ao95 t437.length co95, .int .i64 t440] 30 (0, 0)) (by (with_reducible repeat (first | refine blk_drewN ?_ _ | refine blk_drew ?_ | refine blk_alloc ?_ _)); exact BK442.out)) : gb449 ≠ gb442))
                     clear HO_8
                     clear HO_14
                     clear HO_414000
                     clear HO_426000
                     clear HO_432000
                     clear HO439
                     clear BK413
                     clear BK425
                     clear BK431
                     clear BK442
                     clear HB
                     have HO_8 := n0_
                     have HO_14 := n1_
                     have HO_414000 := n2_
                     have HO_426000 := n3_
                     have HO_432000 := n4_
                     have HO439 := n5_
                     have BK413 := n6_
                     have BK425 := n7_
                     have BK431 := n8_
                     have BK442 := n9_
                     have HB := n10_
                     have BK449 := n11_
                     have GW449 := n12_
                     have GE449 := n13_
                     have NB413_449 := n14_
                     have NB449_413 := n15_
                     have NB425_449 := n16_
                     have NB449_425 := n17_
                     have NB431_449 := n18_
                     have NB449_431 := n19_
                     have NB442_449 := n20_
                     have NB449_442 := n21_
                     clear n0_ n1_ n2_ n3_ n4_ n5_ n6_ n7_ n8_ n9_ n10_ n11_ n12_ n13_ n14_ n15_ n16_ n17_ n18_ n19_ n20_ n21_
                     clear hb hbox hg
                     refine hK.out _ _ ⟨(blk_cell BK442.out 0).trans rfl, (blk_cell BK442.out 1).trans rfl⟩ (fun hHeld => ?_)
                     clear hK K
                     refine norm_ (a' := ?_) ?_ ?_
                     rotate_left
                     ·
                      show Act.put _ (some 19) _ = _
                      simp only [Act.put, List.setIfInBounds_toArray, List.set_cons_zero, List.set_cons_succ, i64_w, i32_w]
                      rfl
                     refine one_ (i := 3) (N := some 58) #[true, true, true, true, false, false, false, true, false, false] rfl rfl (one_of HT_.out (by kernel_rfl)) (by decide) (fun K hK => ?_)
                     refine goes_ Try.func18 (by kernel_rfl) rfl #[.agg #[.slice Ao95 t437.length co95, .int .i64 t440], .int .i64 t443] (by rfl) rfl rfl (by (try simp only [List.map_toArray, List.map_cons, List.map_nil]); first | done | rfl | (simp only [List.length_drop, List.length_take]; rfl)) ?_
                     with_reducible refine (tape_Crash.calls _ _ t437 t440 t443 t444 t447 t448 _ ?side1 ?side2 A40.out).mono ?_
                     (case side1 => repeat (first | exact (Kd.R_reads' HO439.out).2.2 | (with_reducible refine Kd.C_alloc ?_ _) | (with_reducible refine Kd.C_drewN ?_ _) | (with_reducible refine Kd.C_drew ?_)))
                     (case side2 => exact (Kd.R_reads' HO439.out).2.1)
                     rintro e w103 ⟨v445, rfl, ho0, hb⟩
                     refine ⟨_, rfl, ?_⟩
                     have n0_ := Aside0.mk (Kd.S_below (by (with_reducible repeat (first | apply Kd.S_alloc | apply Kd.S_drewN | apply Kd.S_drew)); exact HO_8.out) hb)
                     have n1_ := Aside0.mk (Kd.S_below (by (with_reducible repeat (first | apply Kd.S_alloc | apply Kd.S_drewN | apply Kd.S_drew)); exact HO_14.out) hb)
                     have n2_ := Aside0.mk (Kd.R_below (by (with_reducible repeat (first | apply Kd.R_alloc | apply Kd.R_drewN | apply Kd.R_drew)); exact HO_414000.out) hb)
                     have n3_ := Aside0.mk (Kd.R_below (by (with_reducible repeat (first | apply Kd.R_alloc | apply Kd.R_drewN | apply Kd.R_drew)); exact HO_426000.out) hb)
                     have n4_ := Aside0.mk (Kd.R_below (by (with_reducible repeat (first | apply Kd.R_alloc | apply Kd.R_drewN | apply Kd.R_drew)); exact HO_432000.out) hb)
                     have n5_ := Aside0.mk (Kd.R_below (by (with_reducible repeat (first | apply Kd.R_alloc | apply Kd.R_drewN | apply Kd.R_drew)); exact HO439.out) hb)
                     have n6_ := Aside0.mk (Kd.V_lower (Kd.V_mono (ok' := fun k_ => some k_ ≠ (v410 : Value).ownBlock ∧ some k_ ≠ (u14 : Value).ownBlock ∧ some k_ ≠ (.slice Ao19 y417.length co19 : Value).ownBlock ∧ some k_ ≠ (.slice Ao24 t420.length co24 : Value).ownBlock ∧ some k_ ≠ (.slice Ao29 t426.length co29 : Value).ownBlock ∧ some k_ ≠ (.slice Ao95 t437.length co95 : Value).ownBlock ∧ k_ ≠ gb413 ∧ k_ ≠ gb425 ∧ k_ ≠ gb431 ∧ k_ ≠ gb442 ∧ k_ ≠ gb449) ho0 (fun k_ hk_ => ⟨(Kd.fresh' (Kd.S_lt (by (with_reducible repeat (first | apply Kd.S_alloc | apply Kd.S_drewN | apply Kd.S_drew)); exact HO_8.out)) k_ hk_), (Kd.fresh' (Kd.S_lt (by (with_reducible repeat (first | apply Kd.S_alloc | apply Kd.S_drewN | apply Kd.S_drew)); exact HO_14.out)) k_ hk_), (Kd.fresh' (Kd.R_lt (by (with_reducible repeat (first | apply Kd.R_alloc | apply Kd.R_drewN | apply Kd.R_drew)); exact HO_414000.out)) k_ hk_), (Kd.fresh' (Kd.R_lt (by (with_reducible repeat (first | apply Kd.R_alloc | apply Kd.R_drewN | apply Kd.R_drew)); exact HO_426000.out)) k_ hk_), (Kd.fresh' (Kd.R_lt (by (with_reducible repeat (first | apply Kd.R_alloc | apply Kd.R_drewN | apply Kd.R_drew)); exact HO_432000.out)) k_ hk_), (Kd.fresh' (Kd.R_lt (by (with_reducible repeat (first | apply Kd.R_alloc | apply Kd.R_drewN | apply Kd.R_drew)); exact HO439.out)) k_ hk_), (Kd.freshB (g := gb413) (o := .cells #[.slice Ao19 y417.length co19, .int .i64 t408] 30 (0, 0)) (by (with_reducible repeat (first | refine blk_drewN ?_ _ | refine blk_drew ?_ | refine blk_alloc ?_ _)); exact BK413.out) k_ hk_), (Kd.freshB (g := gb425) (o := .cells #[.slice Ao24 t420.length co24, .int .i64 t423] 30 (0, 0)) (by (with_reducible repeat (first | refine blk_drewN ?_ _ | refine blk_drew ?_ | refine blk_alloc ?_ _)); exact BK425.out) k_ hk_), (Kd.freshB (g := gb431) (o := .cells #[.slice Ao29 t426.length co29, .int .i64 t429] 30 (0, 0)) (by (with_reducible repeat (first | refine blk_drewN ?_ _ | refine blk_drew ?_ | refine blk_alloc ?_ _)); exact BK431.out) k_ hk_), (Kd.freshB (g := gb442) (o := .cells #[.slice Ao95 t437.length co95, .int .i64 t440] 30 (0, 0)) (by (with_reducible repeat (first | refine blk_drewN ?_ _ | refine blk_drew ?_ | refine blk_alloc ?_ _)); exact BK442.out) k_ hk_), (Kd.freshB (g := gb449) (o := .cells #[.slice none 0 0, .int .i64 0] 30 (0, 0)) (by (with_reducible repeat (first | refine blk_drewN ?_ _ | refine blk_drew ?_ | refine blk_alloc ?_ _)); exact BK449.out) k_ hk_)⟩)) (below_size (by repeat (first | (with_reducible first | exact HB.out | apply below_alloc | apply pw_below_drewN | apply below_drew1 | refine below_set ?_ GE413.out | refine below_set ?_ GE425.out | refine below_set ?_ GE431.out | refine below_set ?_ GE442.out | refine below_set ?_ GE449.out) | exact HB.out))))
                     have n7_ := Aside0.mk (blk_below (g := gb413) (o := .cells #[.slice Ao19 y417.length co19, .int .i64 t408] 30 (0, 0)) (by (with_reducible repeat (first | refine blk_drewN ?_ _ | refine blk_drew ?_ | refine blk_alloc ?_ _)); exact BK413.out) hb)
                     have n8_ := Aside0.mk (blk_below (g := gb425) (o := .cells #[.slice Ao24 t420.length co24, .int .i64 t423] 30 (0, 0)) (by (with_reducible repeat (first | refine blk_drewN ?_ _ | refine blk_drew ?_ | refine blk_alloc ?_ _)); exact BK425.out) hb)
                     have n9_ := Aside0.mk (blk_below (g := gb431) (o := .cells #[.slice Ao29 t426.length co29, .int .i64 t429] 30 (0, 0)) (by (with_reducible repeat (first | refine blk_drewN ?_ _ | refine blk_drew ?_ | refine blk_alloc ?_ _)); exact BK431.out) hb)
                     have n10_ := Aside0.mk (blk_below (g := gb442) (o := .cells #[.slice Ao95 t437.length co95, .int .i64 t440] 30 (0, 0)) (by (with_reducible repeat (first | refine blk_drewN ?_ _ | refine blk_drew ?_ | refine blk_alloc ?_ _)); exact BK442.out) hb)
                     have n11_ := Aside0.mk (blk_below (g := gb449) (o := .cells #[.slice none 0 0, .int .i64 0] 30 (0, 0)) (by (with_reducible repeat (first | refine blk_drewN ?_ _ | refine blk_drew ?_ | refine blk_alloc ?_ _)); exact BK449.out) hb)
                     have n12_ := Aside0.mk (below_step (by repeat (first | (with_reducible first | exact HB.out | apply below_alloc | apply pw_below_drewN | apply below_drew1 | refine below_set ?_ GE413.out | refine below_set ?_ GE425.out | refine below_set ?_ GE431.out | refine below_set ?_ GE442.out | refine below_set ?_ GE449.out) | exact HB.out)) hb)
                     clear HO_8
                     clear HO_14
                     clear HO_414000
                     clear HO_426000
                     clear HO_432000
                     clear HO439
                     clear BK413
                     clear BK425
                     clear BK431
                     clear BK442
                     clear BK449
                     clear HB
                     have HO_8 := n0_
                     have HO_14 := n1_
                     have HO_414000 := n2_
                     have HO_426000 := n3_
                     have HO_432000 := n4_
                     have HO439 := n5_
                     have HO446 := n6_
                     have BK413 := n7_
                     have BK425 := n8_
                     have BK431 := n9_
                     have BK442 := n10_
                     have BK449 := n11_
                     have HB := n12_
                     clear n0_ n1_ n2_ n3_ n4_ n5_ n6_ n7_ n8_ n9_ n10_ n11_ n12_
                     (try clear hb)
                     (try clear hb2)
                     (try clear hk)
                     (try clear hi)
                     (try clear ho0)
                     refine hK.out _ _ ⟨(blk_cell BK442.out 0).trans rfl, (blk_cell BK442.out 1).trans rfl⟩ (fun hHeld => ?_)
                     clear hK K
                     refine norm_ (a' := ?_) ?_ ?_
                     rotate_left
                     ·
                      show Act.put _ (some 58) _ = _
                      simp only [Act.put, List.setIfInBounds_toArray, List.set_cons_zero, List.set_cons_succ, i64_w, i32_w]
                      rfl
                     refine pure_ (i := 4) (N := some 54) (v := ?_) (a' := ?_) #[true, true, true, true, true, false, false, true, false, false] rfl rfl (any_of HT_.out (by kernel_rfl)) (fun _ _ _ h => h) (Or.inl ⟨by rfl, ?_⟩) ?_ ?_
                     rotate_left
                     ·
                      intro w'
                      go_simp
                      with_reducible rfl
                     rotate_left
                     ·
                      simp only [Act.put, List.setIfInBounds_toArray, List.set_cons_zero, List.set_cons_succ, i64_w, i32_w]
                      rfl
                     refine pure_ (i := 5) (N := some 59) (v := ?_) (a' := ?_) #[true, true, true, true, true, true, false, true, false, false] rfl rfl (any_of HT_.out (by kernel_rfl)) (fun _ _ _ h => h) (Or.inl ⟨by rfl, ?_⟩) ?_ ?_
                     rotate_left
                     ·
                      intro w'
                      go_simp
                      with_reducible rfl
                     rotate_left
                     ·
                      simp only [Act.put, List.setIfInBounds_toArray, List.set_cons_zero, List.set_cons_succ, i64_w, i32_w]
                      rfl
                     refine pure_ (i := 6) (N := some 60) (v := ?_) (a' := ?_) #[true, true, true, true, true, true, true, true, false, false] rfl rfl (any_of HT_.out (by kernel_rfl)) (fun _ _ _ h => h) (Or.inl ⟨by rfl, ?_⟩) ?_ ?_
                     rotate_left
                     ·
                      intro w'
                      go_simp
                      with_reducible rfl
                     rotate_left
                     ·
                      simp only [Act.put, List.setIfInBounds_toArray, List.set_cons_zero, List.set_cons_succ, i64_w, i32_w]
                      rfl
                     exact norm_ (by simp only [putAll, Act.put, List.setIfInBounds_toArray, List.set_cons_zero, List.set_cons_succ]) (hCont (v445, gb449) _ ⟨hHeld, (by (with_reducible repeat (first | apply Kd.R_alloc | apply Kd.R_drewN | apply Kd.R_drew)); exact HO439.out), (by (with_reducible repeat (first | apply Kd.V_alloc | apply Kd.V_drewN | apply Kd.V_drew)); exact Kd.V_mono HO446.out (fun _ hk => ⟨hk.2.2.2.2.2.1, ⟨hk.2.1, ⟨hk.2.2.1, ⟨hk.2.2.2.1, ⟨hk.2.2.2.2.1, ⟨hk.1, ⟨hk.2.2.2.2.2.2.1, ⟨hk.2.2.2.2.2.2.2.1, ⟨hk.2.2.2.2.2.2.2.2.1, ⟨hk.2.2.2.2.2.2.2.2.2.1, hk.2.2.2.2.2.2.2.2.2.2⟩⟩⟩⟩⟩⟩⟩⟩⟩⟩)), (by (with_reducible repeat (first | apply Kd.S_alloc | apply Kd.S_drewN | apply Kd.S_drew)); exact HO_14.out), (by (with_reducible repeat (first | apply Kd.R_alloc | apply Kd.R_drewN | apply Kd.R_drew)); exact Kd.R_mono HO_414000.out (fun _ hk => ⟨hk.2.2, ⟨hk.1, hk.2.1⟩⟩)), (by (with_reducible repeat (first | apply Kd.R_alloc | apply Kd.R_drewN | apply Kd.R_drew)); exact Kd.R_mono HO_426000.out (fun _ hk => ⟨hk.2.2, ⟨hk.1, hk.2.1⟩⟩)), (by (with_reducible repeat (first | apply Kd.R_alloc | apply Kd.R_drewN | apply Kd.R_drew)); exact Kd.R_mono HO_432000.out (fun _ hk => ⟨hk.2.2, ⟨hk.1, hk.2.1⟩⟩)), (by (with_reducible repeat (first | apply Kd.S_alloc | apply Kd.S_drewN | apply Kd.S_drew)); exact HO_8.out), (by (with_reducible repeat (first | refine blk_drewN ?_ _ | refine blk_drew ?_ | refine blk_alloc ?_ _)); exact BK413.out), (by (with_reducible repeat (first | refine blk_drewN ?_ _ | refine blk_drew ?_ | refine blk_alloc ?_ _)); exact BK425.out), (by (with_reducible repeat (first | refine blk_drewN ?_ _ | refine blk_drew ?_ | refine blk_alloc ?_ _)); exact BK431.out), (by (with_reducible repeat (first | refine blk_drewN ?_ _ | refine blk_drew ?_ | refine blk_alloc ?_ _)); exact BK442.out), (by (with_reducible repeat (first | refine blk_drewN ?_ _ | refine blk_drew ?_ | refine blk_alloc ?_ _)); exact BK449.out), GW449.out, GE449.out, NB413_449.out, NB449_413.out, NB425_449.out, NB449_425.out, NB431_449.out, NB449_431.out, NB442_449.out, NB449_442.out, (by repeat (first | (with_reducible first | exact HB.out | apply below_alloc | apply pw_below_drewN | apply below_drew1 | refine below_set ?_ GE413.out | refine below_set ?_ GE425.out | refine below_set ?_ GE431.out | refine below_set ?_ GE442.out | refine below_set ?_ GE449.out) | exact HB.out))⟩)
                   ·
                    skip
                    refine box_step ?hg (N := 19) ?hd (cs := #[.slice none 0 0, .int .i64 0]) (t := 30) ?hr ?_; (case hd => rfl); (case hg => rfl); (case hr => first | (go_simp; done) | (go_simp; rfl))
                    intro gb449 hg w102 hbox hb
                    have n0_ := Aside0.mk (Kd.S_below (by (with_reducible repeat (first | apply Kd.S_alloc | apply Kd.S_drewN | apply Kd.S_drew)); exact HO_8.out) hb)
                    have n1_ := Aside0.mk (Kd.S_below (by (with_reducible repeat (first | apply Kd.S_alloc | apply Kd.S_drewN | apply Kd.S_drew)); exact HO_14.out) hb)
                    have n2_ := Aside0.mk (Kd.R_below (by (with_reducible repeat (first | apply Kd.R_alloc | apply Kd.R_drewN | apply Kd.R_drew)); exact HO_414000.out) hb)
                    have n3_ := Aside0.mk (Kd.R_below (by (with_reducible repeat (first | apply Kd.R_alloc | apply Kd.R_drewN | apply Kd.R_drew)); exact HO_426000.out) hb)
                    have n4_ := Aside0.mk (Kd.R_below (by (with_reducible repeat (first | apply Kd.R_alloc | apply Kd.R_drewN | apply Kd.R_drew)); exact HO_432000.out) hb)
                    have n5_ := Aside0.mk (Kd.R_below (by (with_reducible repeat (first | apply Kd.R_alloc | apply Kd.R_drewN | apply Kd.R_drew)); exact HO439.out) hb)
                    have n6_ := Aside0.mk (blk_below (g := gb413) (o := .cells #[.slice Ao19 y417.length co19, .int .i64 t408] 30 (0, 0)) (by (with_reducible repeat (first | refine blk_drewN ?_ _ | refine blk_drew ?_ | refine blk_alloc ?_ _)); exact BK413.out) hb)
                    have n7_ := Aside0.mk (blk_below (g := gb425) (o := .cells #[.slice Ao24 t420.length co24, .int .i64 t423] 30 (0, 0)) (by (with_reducible repeat (first | refine blk_drewN ?_ _ | refine blk_drew ?_ | refine blk_alloc ?_ _)); exact BK425.out) hb)
                    have n8_ := Aside0.mk (blk_below (g := gb431) (o := .cells #[.slice Ao29 t426.length co29, .int .i64 t429] 30 (0, 0)) (by (with_reducible repeat (first | refine blk_drewN ?_ _ | refine blk_drew ?_ | refine blk_alloc ?_ _)); exact BK431.out) hb)
                    have n9_ := Aside0.mk (blk_below (g := gb442) (o := .cells #[.slice Ao95 t437.length co95, .int .i64 t440] 30 (0, 0)) (by (with_reducible repeat (first | refine blk_drewN ?_ _ | refine blk_drew ?_ | refine blk_alloc ?_ _)); exact BK442.out) hb)
                    have n10_ := Aside0.mk (below_step (by repeat (first | (with_reducible first | exact HB.out | apply below_alloc | apply pw_below_drewN | apply below_drew1 | refine below_set ?_ GE413.out | refine below_set ?_ GE425.out | refine below_set ?_ GE431.out | refine below_set ?_ GE442.out) | exact HB.out)) hb)
                    have n11_ := Aside0.mk (hbox)
                    have n12_ := Aside0.mk ((by rw [hg]; exact (below_size (by repeat (first | (with_reducible first | exact HB.out | apply below_alloc | apply pw_below_drewN | apply below_drew1 | refine below_set ?_ GE413.out | refine below_set ?_ GE425.out | refine below_set ?_ GE431.out | refine below_set ?_ GE442.out) | exact HB.out))) : w.heap.size ≤ gb449))
                    have n13_ := Aside0.mk ((by rw [hg]; exact (below_size (by repeat (first | (with_reducible first | exact HB.out | apply below_alloc | apply pw_below_drewN | apply below_drew1 | refine below_set ?_ GE413.out | refine below_set ?_ GE425.out | refine below_set ?_ GE431.out | refine below_set ?_ GE442.out) | exact HB.out))) : w.heap.size ≤ gb449))
                    have n14_ := Aside0.mk ((by rw [hg]; exact Nat.ne_of_lt (blk_lt (g := gb413) (o := .cells #[.slice Ao19 y417.length co19, .int .i64 t408] 30 (0, 0)) (by (with_reducible repeat (first | refine blk_drewN ?_ _ | refine blk_drew ?_ | refine blk_alloc ?_ _)); exact BK413.out)) : gb413 ≠ gb449))
                    have n15_ := Aside0.mk ((by rw [hg]; exact Nat.ne_of_gt (blk_lt (g := gb413) (o := .cells #[.slice Ao19 y417.length co19, .int .i64 t408] 30 (0, 0)) (by (with_reducible repeat (first | refine blk_drewN ?_ _ | refine blk_drew ?_ | refine blk_alloc ?_ _)); exact BK413.out)) : gb449 ≠ gb413))
                    have n16_ := Aside0.mk ((by rw [hg]; exact Nat.ne_of_lt (blk_lt (g := gb425) (o := .cells #[.slice Ao24 t420.length co24, .int .i64 t423] 30 (0, 0)) (by (with_reducible repeat (first | refine blk_drewN ?_ _ | refine blk_drew ?_ | refine blk_alloc ?_ _)); exact BK425.out)) : gb425 ≠ gb449))
                    have n17_ := Aside0.mk ((by rw [hg]; exact Nat.ne_of_gt (blk_lt (g := gb425) (o := .cells #[.slice Ao24 t420.length co24, .int .i64 t423] 30 (0, 0)) (by (with_reducible repeat (first | refine blk_drewN ?_ _ | refine blk_drew ?_ | refine blk_alloc ?_ _)); exact BK425.out)) : gb449 ≠ gb425))
                    have n18_ := Aside0.mk ((by rw [hg]; exact Nat.ne_of_lt (blk_lt (g := gb431) (o := .cells #[.slice Ao29 t426.length co29, .int .i64 t429] 30 (0, 0)) (by (with_reducible repeat (first | refine blk_drewN ?_ _ | refine blk_drew ?_ | refine blk_alloc ?_ _)); exact BK431.out)) : gb431 ≠ gb449))
                    have n19_ := Aside0.mk ((by rw [hg]; exact Nat.ne_of_gt (blk_lt (g := gb431) (o := .cells #[.slice Ao29 t426.length co29, .int .i64 t429] 30 (0, 0)) (by (with_reducible repeat (first | refine blk_drewN ?_ _ | refine blk_drew ?_ | refine blk_alloc ?_ _)); exact BK431.out)) : gb449 ≠ gb431))
                    have n20_ := Aside0.mk ((by rw [hg]; exact Nat.ne_of_lt (blk_lt (g := gb442) (o := .cells #[.slice Ao95 t437.length co95, .int .i64 t440] 30 (0, 0)) (by (with_reducible repeat (first | refine blk_drewN ?_ _ | refine blk_drew ?_ | refine blk_alloc ?_ _)); exact BK442.out)) : gb442 ≠ gb449))
                    have n21_ := Aside0.mk ((by rw [hg]; exact Nat.ne_of_gt (blk_lt (g := gb442) (o := .cells #[.slice Ao95 t437.length co95, .int .i64 t440] 30 (0, 0)) (by (with_reducible repeat (first | refine blk_drewN ?_ _ | refine blk_drew ?_ | refine blk_alloc ?_ _)); exact BK442.out)) : gb449 ≠ gb442))
                    clear HO_8
                    clear HO_14
                    clear HO_414000
                    clear HO_426000
                    clear HO_432000
                    clear HO439
                    clear BK413
                    clear BK425
                    clear BK431
                    clear BK442
                    clear HB
                    have HO_8 := n0_
                    have HO_14 := n1_
                    have HO_414000 := n2_
                    have HO_426000 := n3_
                    have HO_432000 := n4_
                    have HO439 := n5_
                    have BK413 := n6_
                    have BK425 := n7_
                    have BK431 := n8_
                    have BK442 := n9_
                    have HB := n10_
                    have BK449 := n11_
                    have GW449 := n12_
                    have GE449 := n13_
                    have NB413_449 := n14_
                    have NB449_413 := n15_
                    have NB425_449 := n16_
                    have NB449_425 := n17_
                    have NB431_449 := n18_
                    have NB449_431 := n19_
                    have NB442_449 := n20_
                    have NB449_442 := n21_
                    clear n0_ n1_ n2_ n3_ n4_ n5_ n6_ n7_ n8_ n9_ n10_ n11_ n12_ n13_ n14_ n15_ n16_ n17_ n18_ n19_ n20_ n21_
                    clear hb hbox hg
                    refine hK.out _ _ ⟨(blk_cell BK442.out 0).trans rfl, (blk_cell BK442.out 1).trans rfl⟩ (fun hHeld => ?_)
                    clear hK K
                    refine norm_ (a' := ?_) ?_ ?_
                    rotate_left
                    ·
                     show Act.put _ (some 19) _ = _
                     simp only [Act.put, List.setIfInBounds_toArray, List.set_cons_zero, List.set_cons_succ, i64_w, i32_w]
                     rfl
                    refine one_ (i := 2) (N := some 57) #[true, true, true, false, false, false, false, true, false, false] rfl rfl (one_of HT_.out (by kernel_rfl)) (by decide) (fun K hK => ?_)
                    refine goes_ Try.func11 (by kernel_rfl) rfl #[.int .i64 a2, .int .i64 50] (by rfl) rfl rfl (by (try simp only [List.map_toArray, List.map_cons, List.map_nil]); first | done | rfl | (simp only [List.length_drop, List.length_take]; rfl)) ?_
                    with_reducible refine (foretellkeep_picked.calls a2 50 t443 _ A39.out).mono ?_
                    rintro e w' ⟨rfl, ⟨nd, rfl⟩⟩
                    refine ⟨_, rfl, ?_⟩
                    refine hK.out _ _ ⟨(blk_cell BK442.out 0).trans rfl, (blk_cell BK442.out 1).trans rfl⟩ (fun hHeld => ?_)
                    clear hK K
                    refine norm_ (a' := ?_) ?_ ?_
                    rotate_left
                    ·
                     show Act.put _ (some 57) _ = _
                     simp only [Act.put, List.setIfInBounds_toArray, List.set_cons_zero, List.set_cons_succ, i64_w, i32_w]
                     rfl
                    refine one_ (i := 3) (N := some 58) #[true, true, true, true, false, false, false, true, false, false] rfl rfl (one_of HT_.out (by kernel_rfl)) (by decide) (fun K hK => ?_)
                    refine goes_ Try.func18 (by kernel_rfl) rfl #[.agg #[.slice Ao95 t437.length co95, .int .i64 t440], .int .i64 t443] (by rfl) rfl rfl (by (try simp only [List.map_toArray, List.map_cons, List.map_nil]); first | done | rfl | (simp only [List.length_drop, List.length_take]; rfl)) ?_
                    with_reducible refine (tape_Crash.calls _ _ t437 t440 t443 t444 t447 t448 _ ?side1 ?side2 A40.out).mono ?_
                    (case side1 => repeat (first | exact (Kd.R_reads' HO439.out).2.2 | (with_reducible refine Kd.C_alloc ?_ _) | (with_reducible refine Kd.C_drewN ?_ _) | (with_reducible refine Kd.C_drew ?_)))
                    (case side2 => exact (Kd.R_reads' HO439.out).2.1)
                    rintro e w103 ⟨v445, rfl, ho0, hb⟩
                    refine ⟨_, rfl, ?_⟩
                    have n0_ := Aside0.mk (Kd.S_below (by (with_reducible repeat (first | apply Kd.S_alloc | apply Kd.S_drewN | apply Kd.S_drew)); exact HO_8.out) hb)
                    have n1_ := Aside0.mk (Kd.S_below (by (with_reducible repeat (first | apply Kd.S_alloc | apply Kd.S_drewN | apply Kd.S_drew)); exact HO_14.out) hb)
                    have n2_ := Aside0.mk (Kd.R_below (by (with_reducible repeat (first | apply Kd.R_alloc | apply Kd.R_drewN | apply Kd.R_drew)); exact HO_414000.out) hb)
                    have n3_ := Aside0.mk (Kd.R_below (by (with_reducible repeat (first | apply Kd.R_alloc | apply Kd.R_drewN | apply Kd.R_drew)); exact HO_426000.out) hb)
                    have n4_ := Aside0.mk (Kd.R_below (by (with_reducible repeat (first | apply Kd.R_alloc | apply Kd.R_drewN | apply Kd.R_drew)); exact HO_432000.out) hb)
                    have n5_ := Aside0.mk (Kd.R_below (by (with_reducible repeat (first | apply Kd.R_alloc | apply Kd.R_drewN | apply Kd.R_drew)); exact HO439.out) hb)
                    have n6_ := Aside0.mk (Kd.V_lower (Kd.V_mono (ok' := fun k_ => some k_ ≠ (v410 : Value).ownBlock ∧ some k_ ≠ (u14 : Value).ownBlock ∧ some k_ ≠ (.slice Ao19 y417.length co19 : Value).ownBlock ∧ some k_ ≠ (.slice Ao24 t420.length co24 : Value).ownBlock ∧ some k_ ≠ (.slice Ao29 t426.length co29 : Value).ownBlock ∧ some k_ ≠ (.slice Ao95 t437.length co95 : Value).ownBlock ∧ k_ ≠ gb413 ∧ k_ ≠ gb425 ∧ k_ ≠ gb431 ∧ k_ ≠ gb442 ∧ k_ ≠ gb449) ho0 (fun k_ hk_ => ⟨(Kd.fresh' (Kd.S_lt (by (with_reducible repeat (first | apply Kd.S_alloc | apply Kd.S_drewN | apply Kd.S_drew)); exact HO_8.out)) k_ hk_), (Kd.fresh' (Kd.S_lt (by (with_reducible repeat (first | apply Kd.S_alloc | apply Kd.S_drewN | apply Kd.S_drew)); exact HO_14.out)) k_ hk_), (Kd.fresh' (Kd.R_lt (by (with_reducible repeat (first | apply Kd.R_alloc | apply Kd.R_drewN | apply Kd.R_drew)); exact HO_414000.out)) k_ hk_), (Kd.fresh' (Kd.R_lt (by (with_reducible repeat (first | apply Kd.R_alloc | apply Kd.R_drewN | apply Kd.R_drew)); exact HO_426000.out)) k_ hk_), (Kd.fresh' (Kd.R_lt (by (with_reducible repeat (first | apply Kd.R_alloc | apply Kd.R_drewN | apply Kd.R_drew)); exact HO_432000.out)) k_ hk_), (Kd.fresh' (Kd.R_lt (by (with_reducible repeat (first | apply Kd.R_alloc | apply Kd.R_drewN | apply Kd.R_drew)); exact HO439.out)) k_ hk_), (Kd.freshB (g := gb413) (o := .cells #[.slice Ao19 y417.length co19, .int .i64 t408] 30 (0, 0)) (by (with_reducible repeat (first | refine blk_drewN ?_ _ | refine blk_drew ?_ | refine blk_alloc ?_ _)); exact BK413.out) k_ hk_), (Kd.freshB (g := gb425) (o := .cells #[.slice Ao24 t420.length co24, .int .i64 t423] 30 (0, 0)) (by (with_reducible repeat (first | refine blk_drewN ?_ _ | refine blk_drew ?_ | refine blk_alloc ?_ _)); exact BK425.out) k_ hk_), (Kd.freshB (g := gb431) (o := .cells #[.slice Ao29 t426.length co29, .int .i64 t429] 30 (0, 0)) (by (with_reducible repeat (first | refine blk_drewN ?_ _ | refine blk_drew ?_ | refine blk_alloc ?_ _)); exact BK431.out) k_ hk_), (Kd.freshB (g := gb442) (o := .cells #[.slice Ao95 t437.length co95, .int .i64 t440] 30 (0, 0)) (by (with_reducible repeat (first | refine blk_drewN ?_ _ | refine blk_drew ?_ | refine blk_alloc ?_ _)); exact BK442.out) k_ hk_), (Kd.freshB (g := gb449) (o := .cells #[.slice none 0 0, .int .i64 0] 30 (0, 0)) (by (with_reducible repeat (first | refine blk_drewN ?_ _ | refine blk_drew ?_ | refine blk_alloc ?_ _)); exact BK449.out) k_ hk_)⟩)) (below_size (by repeat (first | (with_reducible first | exact HB.out | apply below_alloc | apply pw_below_drewN | apply below_drew1 | refine below_set ?_ GE413.out | refine below_set ?_ GE425.out | refine below_set ?_ GE431.out | refine below_set ?_ GE442.out | refine below_set ?_ GE449.out) | exact HB.out))))
                    have n7_ := Aside0.mk (blk_below (g := gb413) (o := .cells #[.slice Ao19 y417.length co19, .int .i64 t408] 30 (0, 0)) (by (with_reducible repeat (first | refine blk_drewN ?_ _ | refine blk_drew ?_ | refine blk_alloc ?_ _)); exact BK413.out) hb)
                    have n8_ := Aside0.mk (blk_below (g := gb425) (o := .cells #[.slice Ao24 t420.length co24, .int .i64 t423] 30 (0, 0)) (by (with_reducible repeat (first | refine blk_drewN ?_ _ | refine blk_drew ?_ | refine blk_alloc ?_ _)); exact BK425.out) hb)
                    have n9_ := Aside0.mk (blk_below (g := gb431) (o := .cells #[.slice Ao29 t426.length co29, .int .i64 t429] 30 (0, 0)) (by (with_reducible repeat (first | refine blk_drewN ?_ _ | refine blk_drew ?_ | refine blk_alloc ?_ _)); exact BK431.out) hb)
                    have n10_ := Aside0.mk (blk_below (g := gb442) (o := .cells #[.slice Ao95 t437.length co95, .int .i64 t440] 30 (0, 0)) (by (with_reducible repeat (first | refine blk_drewN ?_ _ | refine blk_drew ?_ | refine blk_alloc ?_ _)); exact BK442.out) hb)
                    have n11_ := Aside0.mk (blk_below (g := gb449) (o := .cells #[.slice none 0 0, .int .i64 0] 30 (0, 0)) (by (with_reducible repeat (first | refine blk_drewN ?_ _ | refine blk_drew ?_ | refine blk_alloc ?_ _)); exact BK449.out) hb)
                    have n12_ := Aside0.mk (below_step (by repeat (first | (with_reducible first | exact HB.out | apply below_alloc | apply pw_below_drewN | apply below_drew1 | refine below_set ?_ GE413.out | refine below_set ?_ GE425.out | refine below_set ?_ GE431.out | refine below_set ?_ GE442.out | refine below_set ?_ GE449.out) | exact HB.out)) hb)
                    clear HO_8
                    clear HO_14
                    clear HO_414000
                    clear HO_426000
                    clear HO_432000
                    clear HO439
                    clear BK413
                    clear BK425
                    clear BK431
                    clear BK442
                    clear BK449
                    clear HB
                    have HO_8 := n0_
                    have HO_14 := n1_
                    have HO_414000 := n2_
                    have HO_426000 := n3_
                    have HO_432000 := n4_
                    have HO439 := n5_
                    have HO446 := n6_
                    have BK413 := n7_
                    have BK425 := n8_
                    have BK431 := n9_
                    have BK442 := n10_
                    have BK449 := n11_
                    have HB := n12_
                    clear n0_ n1_ n2_ n3_ n4_ n5_ n6_ n7_ n8_ n9_ n10_ n11_ n12_
                    (try clear hb)
                    (try clear hb2)
                    (try clear hk)
                    (try clear hi)
                    (try clear ho0)
                    refine hK.out _ _ ⟨(blk_cell BK442.out 0).trans rfl, (blk_cell BK442.out 1).trans rfl⟩ (fun hHeld => ?_)
                    clear hK K
                    refine norm_ (a' := ?_) ?_ ?_
                    rotate_left
                    ·
                     show Act.put _ (some 58) _ = _
                     simp only [Act.put, List.setIfInBounds_toArray, List.set_cons_zero, List.set_cons_succ, i64_w, i32_w]
                     rfl
                    refine pure_ (i := 4) (N := some 54) (v := ?_) (a' := ?_) #[true, true, true, true, true, false, false, true, false, false] rfl rfl (any_of HT_.out (by kernel_rfl)) (fun _ _ _ h => h) (Or.inl ⟨by rfl, ?_⟩) ?_ ?_
                    rotate_left
                    ·
                     intro w'
                     go_simp
                     with_reducible rfl
                    rotate_left
                    ·
                     simp only [Act.put, List.setIfInBounds_toArray, List.set_cons_zero, List.set_cons_succ, i64_w, i32_w]
                     rfl
                    refine pure_ (i := 5) (N := some 59) (v := ?_) (a' := ?_) #[true, true, true, true, true, true, false, true, false, false] rfl rfl (any_of HT_.out (by kernel_rfl)) (fun _ _ _ h => h) (Or.inl ⟨by rfl, ?_⟩) ?_ ?_
                    rotate_left
                    ·
                     intro w'
                     go_simp
                     with_reducible rfl
                    rotate_left
                    ·
                     simp only [Act.put, List.setIfInBounds_toArray, List.set_cons_zero, List.set_cons_succ, i64_w, i32_w]
                     rfl
                    refine pure_ (i := 6) (N := some 60) (v := ?_) (a' := ?_) #[true, true, true, true, true, true, true, true, false, false] rfl rfl (any_of HT_.out (by kernel_rfl)) (fun _ _ _ h => h) (Or.inl ⟨by rfl, ?_⟩) ?_ ?_
                    rotate_left
                    ·
                     intro w'
                     go_simp
                     with_reducible rfl
                    rotate_left
                    ·
                     simp only [Act.put, List.setIfInBounds_toArray, List.set_cons_zero, List.set_cons_succ, i64_w, i32_w]
                     rfl
                    exact norm_ (by simp only [putAll, Act.put, List.setIfInBounds_toArray, List.set_cons_zero, List.set_cons_succ]) (hCont (v445, gb449) _ ⟨hHeld, (by (with_reducible repeat (first | apply Kd.R_alloc | apply Kd.R_drewN | apply Kd.R_drew)); exact HO439.out), (by (with_reducible repeat (first | apply Kd.V_alloc | apply Kd.V_drewN | apply Kd.V_drew)); exact Kd.V_mono HO446.out (fun _ hk => ⟨hk.2.2.2.2.2.1, ⟨hk.2.1, ⟨hk.2.2.1, ⟨hk.2.2.2.1, ⟨hk.2.2.2.2.1, ⟨hk.1, ⟨hk.2.2.2.2.2.2.1, ⟨hk.2.2.2.2.2.2.2.1, ⟨hk.2.2.2.2.2.2.2.2.1, ⟨hk.2.2.2.2.2.2.2.2.2.1, hk.2.2.2.2.2.2.2.2.2.2⟩⟩⟩⟩⟩⟩⟩⟩⟩⟩)), (by (with_reducible repeat (first | apply Kd.S_alloc | apply Kd.S_drewN | apply Kd.S_drew)); exact HO_14.out), (by (with_reducible repeat (first | apply Kd.R_alloc | apply Kd.R_drewN | apply Kd.R_drew)); exact Kd.R_mono HO_414000.out (fun _ hk => ⟨hk.2.2, ⟨hk.1, hk.2.1⟩⟩)), (by (with_reducible repeat (first | apply Kd.R_alloc | apply Kd.R_drewN | apply Kd.R_drew)); exact Kd.R_mono HO_426000.out (fun _ hk => ⟨hk.2.2, ⟨hk.1, hk.2.1⟩⟩)), (by (with_reducible repeat (first | apply Kd.R_alloc | apply Kd.R_drewN | apply Kd.R_drew)); exact Kd.R_mono HO_432000.out (fun _ hk => ⟨hk.2.2, ⟨hk.1, hk.2.1⟩⟩)), (by (with_reducible repeat (first | apply Kd.S_alloc | apply Kd.S_drewN | apply Kd.S_drew)); exact HO_8.out), (by (with_reducible repeat (first | refine blk_drewN ?_ _ | refine blk_drew ?_ | refine blk_alloc ?_ _)); exact BK413.out), (by (with_reducible repeat (first | refine blk_drewN ?_ _ | refine blk_drew ?_ | refine blk_alloc ?_ _)); exact BK425.out), (by (with_reducible repeat (first | refine blk_drewN ?_ _ | refine blk_drew ?_ | refine blk_alloc ?_ _)); exact BK431.out), (by (with_reducible repeat (first | refine blk_drewN ?_ _ | refine blk_drew ?_ | refine blk_alloc ?_ _)); exact BK442.out), (by (with_reducible repeat (first | refine blk_drewN ?_ _ | refine blk_drew ?_ | refine blk_alloc ?_ _)); exact BK449.out), GW449.out, GE449.out, NB413_449.out, NB449_413.out, NB425_449.out, NB449_425.out, NB431_449.out, NB449_431.out, NB442_449.out, NB449_442.out, (by repeat (first | (with_reducible first | exact HB.out | apply below_alloc | apply pw_below_drewN | apply below_drew1 | refine below_set ?_ GE413.out | refine below_set ?_ GE425.out | refine below_set ?_ GE431.out | refine below_set ?_ GE442.out | refine below_set ?_ GE449.out) | exact HB.out))⟩)
                  rintro ⟨v445, gb449⟩ w104 ⟨hS_, h0_, h1_, h2_, h3_, h4_, h5_, h6_, h7_, h8_, h9_, h10_, h11_, h12_, h13_, h14_, h15_, h16_, h17_, h18_, h19_, h20_, h21_, h22_⟩
                  have n0_ : Aside0 (Kd.R (Kd.int .u8) 5 w104 w.heap.size (fun k_ => some k_ ≠ (.slice Ao19 y417.length co19 : Value).ownBlock ∧ some k_ ≠ (.slice Ao24 t420.length co24 : Value).ownBlock ∧ some k_ ≠ (.slice Ao29 t426.length co29 : Value).ownBlock) (.slice Ao95 t437.length co95) t437) := ⟨h0_⟩
                  have n1_ : Aside0 (Kd.V (Kd.int .u8) 5 w104 w.heap.size (fun k_ => some k_ ≠ (.slice Ao95 t437.length co95 : Value).ownBlock ∧ some k_ ≠ (u14 : Value).ownBlock ∧ some k_ ≠ (.slice Ao19 y417.length co19 : Value).ownBlock ∧ some k_ ≠ (.slice Ao24 t420.length co24 : Value).ownBlock ∧ some k_ ≠ (.slice Ao29 t426.length co29 : Value).ownBlock ∧ some k_ ≠ (v410 : Value).ownBlock ∧ k_ ≠ gb413 ∧ k_ ≠ gb425 ∧ k_ ≠ gb431 ∧ k_ ≠ gb442 ∧ k_ ≠ gb449) v445 t444) := ⟨h1_⟩
                  have n2_ : Aside0 (Kd.S (Kd.slice 3 (Kd.int .i64)) 27 w104 w.heap.size (fun _ => True) u14 x14_8) := ⟨h2_⟩
                  have n3_ : Aside0 (Kd.R (Kd.int .u8) 5 w104 w.heap.size (fun k_ => some k_ ≠ (.slice Ao95 t437.length co95 : Value).ownBlock ∧ some k_ ≠ (.slice Ao24 t420.length co24 : Value).ownBlock ∧ some k_ ≠ (.slice Ao29 t426.length co29 : Value).ownBlock) (.slice Ao19 y417.length co19) y417) := ⟨h3_⟩
                  have n4_ : Aside0 (Kd.R (Kd.int .u8) 5 w104 w.heap.size (fun k_ => some k_ ≠ (.slice Ao95 t437.length co95 : Value).ownBlock ∧ some k_ ≠ (.slice Ao19 y417.length co19 : Value).ownBlock ∧ some k_ ≠ (.slice Ao29 t426.length co29 : Value).ownBlock) (.slice Ao24 t420.length co24) t420) := ⟨h4_⟩
                  have n5_ : Aside0 (Kd.R (Kd.int .u8) 5 w104 w.heap.size (fun k_ => some k_ ≠ (.slice Ao95 t437.length co95 : Value).ownBlock ∧ some k_ ≠ (.slice Ao19 y417.length co19 : Value).ownBlock ∧ some k_ ≠ (.slice Ao24 t420.length co24 : Value).ownBlock) (.slice Ao29 t426.length co29) t426) := ⟨h5_⟩
                  have n6_ : Aside0 (Kd.S (Kd.slice 3 (Kd.int .i64)) 27 w104 w.heap.size (fun _ => True) v410 t409) := ⟨h6_⟩
                  have n7_ : Aside0 (w104.heap[gb413]? = some (.cells #[.slice Ao19 y417.length co19, .int .i64 t408] 30 (0, 0))) := ⟨h7_⟩
                  have n8_ : Aside0 (w104.heap[gb425]? = some (.cells #[.slice Ao24 t420.length co24, .int .i64 t423] 30 (0, 0))) := ⟨h8_⟩
                  have n9_ : Aside0 (w104.heap[gb431]? = some (.cells #[.slice Ao29 t426.length co29, .int .i64 t429] 30 (0, 0))) := ⟨h9_⟩
                  have n10_ : Aside0 (w104.heap[gb442]? = some (.cells #[.slice Ao95 t437.length co95, .int .i64 t440] 30 (0, 0))) := ⟨h10_⟩
                  have n11_ : Aside0 (w104.heap[gb449]? = some (.cells #[.slice none 0 0, .int .i64 0] 30 (0, 0))) := ⟨h11_⟩
                  have n12_ : Aside0 (w.heap.size ≤ gb449) := ⟨h12_⟩
                  have n13_ : Aside0 (w.heap.size ≤ gb449) := ⟨h13_⟩
                  have n14_ : Aside0 (gb413 ≠ gb449) := ⟨h14_⟩
                  have n15_ : Aside0 (gb449 ≠ gb413) := ⟨h15_⟩
                  have n16_ : Aside0 (gb425 ≠ gb449) := ⟨h16_⟩
                  have n17_ : Aside0 (gb449 ≠ gb425) := ⟨h17_⟩
                  have n18_ : Aside0 (gb431 ≠ gb449) := ⟨h18_⟩
                  have n19_ : Aside0 (gb449 ≠ gb431) := ⟨h19_⟩
                  have n20_ : Aside0 (gb442 ≠ gb449) := ⟨h20_⟩
                  have n21_ : Aside0 (gb449 ≠ gb442) := ⟨h21_⟩
                  have n22_ : Aside0 (Below w.heap.size w w104) := ⟨h22_⟩
                  clear HO_8
                  clear HO_14
                  clear HO_414000
                  clear HO_426000
                  clear HO_432000
                  clear HO439
                  clear BK413
                  clear BK425
                  clear BK431
                  clear BK442
                  clear HB
                  clear h0_ h1_ h2_ h3_ h4_ h5_ h6_ h7_ h8_ h9_ h10_ h11_ h12_ h13_ h14_ h15_ h16_ h17_ h18_ h19_ h20_ h21_ h22_
                  have HO439 := n0_
                  have HO446 := n1_
                  have HO_14 := n2_
                  have HO_414000 := n3_
                  have HO_426000 := n4_
                  have HO_432000 := n5_
                  have HO_8 := n6_
                  have BK413 := n7_
                  have BK425 := n8_
                  have BK431 := n9_
                  have BK442 := n10_
                  have BK449 := n11_
                  have GW449 := n12_
                  have GE449 := n13_
                  have NB413_449 := n14_
                  have NB449_413 := n15_
                  have NB425_449 := n16_
                  have NB449_425 := n17_
                  have NB431_449 := n18_
                  have NB449_431 := n19_
                  have NB442_449 := n20_
                  have NB449_442 := n21_
                  have HB := n22_
                  clear n0_ n1_ n2_ n3_ n4_ n5_ n6_ n7_ n8_ n9_ n10_ n11_ n12_ n13_ n14_ n15_ n16_ n17_ n18_ n19_ n20_ n21_ n22_
                  have hHeld : w104.cell? ⟨gb442, 0, none⟩ = some (.slice Ao95 t437.length co95) ∧ w104.cell? ⟨gb442, 1, none⟩ = some (.int .i64 t440) := hS_
                  obtain ⟨Ao105, co105, eo105⟩ := Kd.V_slice HO446.out
                  (first | subst eo105 | (injection eo105 with f1_ f2_ f3_; have f4_ := f1_.symm; have f5_ := f3_.symm; clear f1_ f2_ f3_; subst f4_; subst f5_))
                  refine norm_ (a' := ?_) ?_ ?_
                  rotate_left
                  ·
                   simp only [putAll, Act.put, List.setIfInBounds_toArray, List.set_cons_zero, List.set_cons_succ]
                   rfl
                  refine one_ (i := 8) (N := none) #[true, true, true, true, true, true, true, true, true, false] rfl rfl (one_of HT_.out (by kernel_rfl)) (by decide) (fun K hK => ?_)
                  have hs106 : w104.cell? ⟨gb449, 0, none⟩ = some (.slice none 0 0) := (blk_cell BK449.out 0).trans rfl
                  have hfs106 := blk_frozen BK449.out 0
                  have hns106_0 := NB413_449.out
                  have hns106_1 := NB425_449.out
                  have hns106_2 := NB431_449.out
                  have hns106_3 := NB442_449.out
                  have hms106_0 := NB449_413.out
                  have hms106_1 := NB449_425.out
                  have hms106_2 := NB449_431.out
                  have hms106_3 := NB449_442.out
                  have hs107 : w104.cell? ⟨gb449, 1, none⟩ = some (.int .i64 0) := (blk_cell BK449.out 1).trans rfl
                  have hfs107 := blk_frozen BK449.out 1
                  have hns107_0 := NB413_449.out
                  have hns107_1 := NB425_449.out
                  have hns107_2 := NB431_449.out
                  have hns107_3 := NB442_449.out
                  have hms107_0 := NB449_413.out
                  have hms107_1 := NB449_425.out
                  have hms107_2 := NB449_431.out
                  have hms107_3 := NB449_442.out
                  refine skip_ (w1 := ?_) (by rfl) rfl ?_ ?_
                  rotate_left
                  ·
                   go_simp
                   rfl
                  refine hK.out _ _ ⟨((cell_far (p := ⟨gb449, _, none⟩) NB442_449.out _).trans (((cell_far (p := ⟨gb449, _, none⟩) NB442_449.out _).trans (hHeld.1)))), ((cell_far (p := ⟨gb449, _, none⟩) NB442_449.out _).trans (((cell_far (p := ⟨gb449, _, none⟩) NB442_449.out _).trans (hHeld.2))))⟩ (fun hHeld => ?_)
                  clear hK K
                  refine pure_ (i := 9) (N := some 20) (v := ?_) (a' := ?_) #[true, true, true, true, true, true, true, true, true, true] rfl rfl (any_of HT_.out (by kernel_rfl)) (fun _ _ _ h => h) (Or.inl ⟨by rfl, ?_⟩) ?_ ?_
                  rotate_left
                  ·
                   intro w'
                   go_simp
                   with_reducible rfl
                  rotate_left
                  ·
                   simp only [Act.put, List.setIfInBounds_toArray, List.set_cons_zero, List.set_cons_succ, i64_w, i32_w]
                   rfl
                  refine done_ (done_of HT_.out (by kernel_rfl)) ?_
                  have n0_ : Aside0 (Kd.S (Kd.slice 3 (Kd.int .i64)) 27 ((w104.setCell ⟨gb449, 0, none⟩ (.slice Ao105 t444.length co105)).setCell ⟨gb449, 1, none⟩ (.int .i64 t447)) w.heap.size (fun _ => True) v410 t409) := ⟨by (with_reducible repeat (first | apply Kd.S_alloc | apply Kd.S_drewN | apply Kd.S_drew)); exact Kd.S_mono (Kd.S_far (p := ⟨gb449, 1, none⟩) (Kd.S_far (p := ⟨gb449, 0, none⟩) (Kd.S_types HO_8.out BK449.out (by decide)) (fun _ hk => hk.2) (.slice Ao105 t444.length co105)) (fun _ hk => hk.2) (.int .i64 t447)) (fun _ hk => trivial)⟩
                  have n1_ : Aside0 (Kd.S (Kd.slice 3 (Kd.int .i64)) 27 ((w104.setCell ⟨gb449, 0, none⟩ (.slice Ao105 t444.length co105)).setCell ⟨gb449, 1, none⟩ (.int .i64 t447)) w.heap.size (fun _ => True) u14 x14_8) := ⟨by (with_reducible repeat (first | apply Kd.S_alloc | apply Kd.S_drewN | apply Kd.S_drew)); exact Kd.S_mono (Kd.S_far (p := ⟨gb449, 1, none⟩) (Kd.S_far (p := ⟨gb449, 0, none⟩) (Kd.S_types HO_14.out BK449.out (by decide)) (fun _ hk => hk.2) (.slice Ao105 t444.length co105)) (fun _ hk => hk.2) (.int .i64 t447)) (fun _ hk => trivial)⟩
                  have n2_ : Aside0 (Kd.R (Kd.int .u8) 5 ((w104.setCell ⟨gb449, 0, none⟩ (.slice Ao105 t444.length co105)).setCell ⟨gb449, 1, none⟩ (.int .i64 t447)) w.heap.size (fun k_ => some k_ ≠ (.slice Ao24 t420.length co24 : Value).ownBlock ∧ some k_ ≠ (.slice Ao29 t426.length co29 : Value).ownBlock ∧ some k_ ≠ (.slice Ao95 t437.length co95 : Value).ownBlock) (.slice Ao19 y417.length co19) y417) := ⟨by (with_reducible repeat (first | apply Kd.R_alloc | apply Kd.R_drewN | apply Kd.R_drew)); exact Kd.R_mono (Kd.R_far (p := ⟨gb449, 1, none⟩) (Kd.R_far (p := ⟨gb449, 0, none⟩) (Kd.R_types HO_414000.out BK449.out (by decide)) (fun _ hk => hk.2) (.slice Ao105 t444.length co105)) (fun _ hk => hk.2) (.int .i64 t447)) (fun _ hk => ⟨hk.1.2.1, ⟨hk.1.2.2, hk.1.1⟩⟩)⟩
                  have n3_ : Aside0 (Kd.R (Kd.int .u8) 5 ((w104.setCell ⟨gb449, 0, none⟩ (.slice Ao105 t444.length co105)).setCell ⟨gb449, 1, none⟩ (.int .i64 t447)) w.heap.size (fun k_ => some k_ ≠ (.slice Ao19 y417.length co19 : Value).ownBlock ∧ some k_ ≠ (.slice Ao29 t426.length co29 : Value).ownBlock ∧ some k_ ≠ (.slice Ao95 t437.length co95 : Value).ownBlock) (.slice Ao24 t420.length co24) t420) := ⟨by (with_reducible repeat (first | apply Kd.R_alloc | apply Kd.R_drewN | apply Kd.R_drew)); exact Kd.R_mono (Kd.R_far (p := ⟨gb449, 1, none⟩) (Kd.R_far (p := ⟨gb449, 0, none⟩) (Kd.R_types HO_426000.out BK449.out (by decide)) (fun _ hk => hk.2) (.slice Ao105 t444.length co105)) (fun _ hk => hk.2) (.int .i64 t447)) (fun _ hk => ⟨hk.1.2.1, ⟨hk.1.2.2, hk.1.1⟩⟩)⟩
                  have n4_ : Aside0 (Kd.R (Kd.int .u8) 5 ((w104.setCell ⟨gb449, 0, none⟩ (.slice Ao105 t444.length co105)).setCell ⟨gb449, 1, none⟩ (.int .i64 t447)) w.heap.size (fun k_ => some k_ ≠ (.slice Ao19 y417.length co19 : Value).ownBlock ∧ some k_ ≠ (.slice Ao24 t420.length co24 : Value).ownBlock ∧ some k_ ≠ (.slice Ao95 t437.length co95 : Value).ownBlock) (.slice Ao29 t426.length co29) t426) := ⟨by (with_reducible repeat (first | apply Kd.R_alloc | apply Kd.R_drewN | apply Kd.R_drew)); exact Kd.R_mono (Kd.R_far (p := ⟨gb449, 1, none⟩) (Kd.R_far (p := ⟨gb449, 0, none⟩) (Kd.R_types HO_432000.out BK449.out (by decide)) (fun _ hk => hk.2) (.slice Ao105 t444.length co105)) (fun _ hk => hk.2) (.int .i64 t447)) (fun _ hk => ⟨hk.1.2.1, ⟨hk.1.2.2, hk.1.1⟩⟩)⟩
                  have n5_ : Aside0 (Kd.R (Kd.int .u8) 5 ((w104.setCell ⟨gb449, 0, none⟩ (.slice Ao105 t444.length co105)).setCell ⟨gb449, 1, none⟩ (.int .i64 t447)) w.heap.size (fun k_ => some k_ ≠ (.slice Ao19 y417.length co19 : Value).ownBlock ∧ some k_ ≠ (.slice Ao24 t420.length co24 : Value).ownBlock ∧ some k_ ≠ (.slice Ao29 t426.length co29 : Value).ownBlock) (.slice Ao95 t437.length co95) t437) := ⟨by (with_reducible repeat (first | apply Kd.R_alloc | apply Kd.R_drewN | apply Kd.R_drew)); exact Kd.R_mono (Kd.R_far (p := ⟨gb449, 1, none⟩) (Kd.R_far (p := ⟨gb449, 0, none⟩) (Kd.R_types HO439.out BK449.out (by decide)) (fun _ hk => hk.2) (.slice Ao105 t444.length co105)) (fun _ hk => hk.2) (.int .i64 t447)) (fun _ hk => ⟨hk.1.1, ⟨hk.1.2.1, hk.1.2.2⟩⟩)⟩
                  have n6_ : Aside0 (Kd.V (Kd.int .u8) 5 ((w104.setCell ⟨gb449, 0, none⟩ (.slice Ao105 t444.length co105)).setCell ⟨gb449, 1, none⟩ (.int .i64 t447)) w.heap.size (fun k_ => some k_ ≠ (v410 : Value).ownBlock ∧ some k_ ≠ (u14 : Value).ownBlock ∧ some k_ ≠ (.slice Ao19 y417.length co19 : Value).ownBlock ∧ some k_ ≠ (.slice Ao24 t420.length co24 : Value).ownBlock ∧ some k_ ≠ (.slice Ao29 t426.length co29 : Value).ownBlock ∧ some k_ ≠ (.slice Ao95 t437.length co95 : Value).ownBlock ∧ k_ ≠ gb413 ∧ k_ ≠ gb425 ∧ k_ ≠ gb431 ∧ k_ ≠ gb442 ∧ k_ ≠ gb449) (.slice Ao105 t444.length co105) t444) := ⟨by (with_reducible repeat (first | apply Kd.V_alloc | apply Kd.V_drewN | apply Kd.V_drew)); exact Kd.V_mono (Kd.V_far (p := ⟨gb449, 1, none⟩) (Kd.V_far (p := ⟨gb449, 0, none⟩) (Kd.V_mono HO446.out (fun k_ hk => (⟨hk, hk.2.2.2.2.2.2.2.2.2.2⟩ : _ ∧ k_ ≠ gb449))) (fun _ hk => hk.2) (.slice Ao105 t444.length co105)) (fun _ hk => hk.2) (.int .i64 t447)) (fun _ hk => ⟨hk.1.2.2.2.2.2.1, ⟨hk.1.2.1, ⟨hk.1.2.2.1, ⟨hk.1.2.2.2.1, ⟨hk.1.2.2.2.2.1, ⟨hk.1.1, ⟨hk.1.2.2.2.2.2.2.1, ⟨hk.1.2.2.2.2.2.2.2.1, ⟨hk.1.2.2.2.2.2.2.2.2.1, ⟨hk.1.2.2.2.2.2.2.2.2.2.1, hk.1.2.2.2.2.2.2.2.2.2.2⟩⟩⟩⟩⟩⟩⟩⟩⟩⟩)⟩
                  have n7_ : Aside0 (((w104.setCell ⟨gb449, 0, none⟩ (.slice Ao105 t444.length co105)).setCell ⟨gb449, 1, none⟩ (.int .i64 t447)).heap[gb413]? = some (.cells #[.slice Ao19 y417.length co19, .int .i64 t408] 30 (0, 0))) := ⟨by (with_reducible repeat (first | refine blk_drewN ?_ _ | refine blk_drew ?_ | refine blk_alloc ?_ _)); refine blk_far ?_ NB413_449.out _; (with_reducible repeat (first | refine blk_drewN ?_ _ | refine blk_drew ?_ | refine blk_alloc ?_ _)); refine blk_far ?_ NB413_449.out _; (with_reducible repeat (first | refine blk_drewN ?_ _ | refine blk_drew ?_ | refine blk_alloc ?_ _)); exact BK413.out⟩
                  have n8_ : Aside0 (((w104.setCell ⟨gb449, 0, none⟩ (.slice Ao105 t444.length co105)).setCell ⟨gb449, 1, none⟩ (.int .i64 t447)).heap[gb425]? = some (.cells #[.slice Ao24 t420.length co24, .int .i64 t423] 30 (0, 0))) := ⟨by (with_reducible repeat (first | refine blk_drewN ?_ _ | refine blk_drew ?_ | refine blk_alloc ?_ _)); refine blk_far ?_ NB425_449.out _; (with_reducible repeat (first | refine blk_drewN ?_ _ | refine blk_drew ?_ | refine blk_alloc ?_ _)); refine blk_far ?_ NB425_449.out _; (with_reducible repeat (first | refine blk_drewN ?_ _ | refine blk_drew ?_ | refine blk_alloc ?_ _)); exact BK425.out⟩
                  have n9_ : Aside0 (((w104.setCell ⟨gb449, 0, none⟩ (.slice Ao105 t444.length co105)).setCell ⟨gb449, 1, none⟩ (.int .i64 t447)).heap[gb431]? = some (.cells #[.slice Ao29 t426.length co29, .int .i64 t429] 30 (0, 0))) := ⟨by (with_reducible repeat (first | refine blk_drewN ?_ _ | refine blk_drew ?_ | refine blk_alloc ?_ _)); refine blk_far ?_ NB431_449.out _; (with_reducible repeat (first | refine blk_drewN ?_ _ | refine blk_drew ?_ | refine blk_alloc ?_ _)); refine blk_far ?_ NB431_449.out _; (with_reducible repeat (first | refine blk_drewN ?_ _ | refine blk_drew ?_ | refine blk_alloc ?_ _)); exact BK431.out⟩
                  have n10_ : Aside0 (((w104.setCell ⟨gb449, 0, none⟩ (.slice Ao105 t444.length co105)).setCell ⟨gb449, 1, none⟩ (.int .i64 t447)).heap[gb442]? = some (.cells #[.slice Ao95 t437.length co95, .int .i64 t440] 30 (0, 0))) := ⟨by (with_reducible repeat (first | refine blk_drewN ?_ _ | refine blk_drew ?_ | refine blk_alloc ?_ _)); refine blk_far ?_ NB442_449.out _; (with_reducible repeat (first | refine blk_drewN ?_ _ | refine blk_drew ?_ | refine blk_alloc ?_ _)); refine blk_far ?_ NB442_449.out _; (with_reducible repeat (first | refine blk_drewN ?_ _ | refine blk_drew ?_ | refine blk_alloc ?_ _)); exact BK442.out⟩
                  have n11_ : Aside0 (((w104.setCell ⟨gb449, 0, none⟩ (.slice Ao105 t444.length co105)).setCell ⟨gb449, 1, none⟩ (.int .i64 t447)).heap[gb449]? = some (.cells #[.slice Ao105 t444.length co105, .int .i64 t447] 30 (0, 0))) := ⟨by (with_reducible repeat (first | refine blk_drewN ?_ _ | refine blk_drew ?_ | refine blk_alloc ?_ _)); refine blk_put (cs := #[.slice Ao105 t444.length co105, .int .i64 0]) ?_ 1 _ rfl; (with_reducible repeat (first | refine blk_drewN ?_ _ | refine blk_drew ?_ | refine blk_alloc ?_ _)); refine blk_put (cs := #[.slice none 0 0, .int .i64 0]) ?_ 0 _ rfl; (with_reducible repeat (first | refine blk_drewN ?_ _ | refine blk_drew ?_ | refine blk_alloc ?_ _)); exact BK449.out⟩
                  have n12_ : Aside0 (Below w.heap.size w ((w104.setCell ⟨gb449, 0, none⟩ (.slice Ao105 t444.length co105)).setCell ⟨gb449, 1, none⟩ (.int .i64 t447))) := ⟨by repeat (first | (with_reducible first | exact HB.out | apply below_alloc | apply pw_below_drewN | apply below_drew1 | refine below_set ?_ GE413.out | refine below_set ?_ GE425.out | refine below_set ?_ GE431.out | refine below_set ?_ GE442.out | refine below_set ?_ GE449.out) | exact HB.out)⟩
                  (try clear HO_8)
                  (try clear HO_14)
                  (try clear HO_414000)
                  (try clear HO_426000)
                  (try clear HO_432000)
                  (try clear HO439)
                  (try clear HO446)
                  (try clear BK413)
                  (try clear BK425)
                  (try clear BK431)
                  (try clear BK442)
                  (try clear BK449)
                  (try clear HB)
                  generalize ((w104.setCell ⟨gb449, 0, none⟩ (.slice Ao105 t444.length co105)).setCell ⟨gb449, 1, none⟩ (.int .i64 t447)) = w108 at n0_ n1_ n2_ n3_ n4_ n5_ n6_ n7_ n8_ n9_ n10_ n11_ n12_ ⊢
                  have HO_8 := n0_
                  have HO_14 := n1_
                  have HO_414000 := n2_
                  have HO_426000 := n3_
                  have HO_432000 := n4_
                  have HO439 := n5_
                  have HO446 := n6_
                  have BK413 := n7_
                  have BK425 := n8_
                  have BK431 := n9_
                  have BK442 := n10_
                  have BK449 := n11_
                  have HB := n12_
                  clear n0_ n1_ n2_ n3_ n4_ n5_ n6_ n7_ n8_ n9_ n10_ n11_ n12_
                  have hnb109 := NB425_449.out
                  have hnc109 := NB449_425.out
                  have hcz110_0 : w108.cell? ⟨gb425, 0, none⟩ = some (.slice Ao24 t420.length co24) := (blk_cell BK425.out 0).trans rfl
                  have hcz110_1 : w108.cell? ⟨gb425, 1, none⟩ = some (.int .i64 t423) := (blk_cell BK425.out 1).trans rfl
                  have hfz110_0 := blk_frozen BK425.out 0
                  have hfz110_1 := blk_frozen BK425.out 1
                  obtain ⟨Ao111, co111, eo111⟩ := Kd.S_slice HO_14.out
                  subst eo111
                  obtain ⟨Ao112, co112, eo112⟩ := Kd.S_slice HO_8.out
                  subst eo112
                  have q113 : ((t409.length : Int) : Int) ≤ ((x14_8.length : Int) : Int) := of_decide_eq_true (by first | (with_reducible assumption) | assumption)
                  obtain ⟨i0113, hi0113, _, hsz113, _⟩ := info_parts info27
                  have hroom113 : x14_8.length ≤ co111 := (Kd.S_reads' HO_14.out).2.1
                  have hC113 : Kd.C (Kd.slice 3 (Kd.int .i64)) _ Ao111 x14_8.length x14_8 := (Kd.S_reads' HO_14.out).2.2
                  have hcut113 := cut_to (P := Try.prog) 35 27 .i64 Try.underlying35 hi0113 Ao111 x14_8.length co111 (t409.length : Int) (of_decide_eq_true (by first | (with_reducible assumption) | assumption)) q113 hroom113
                  have hr113 := Kd.C_take (m := ((t409.length : Int) : Int).toNat) hC113 (by omega)
                  have hy113 : y450.length = ((t409.length : Int) : Int).toNat := (by rw [Ny450.out, List.length_take]; omega)
                  rw [← Ny450.out] at hr113
                  rw [← hy113] at hcut113
                  have HR453 := Aside0.mk hr113
                  have HC453 := Aside0.mk (show y450.length ≤ co111 from by omega)
                  clear hr113 hC113 hroom113 hi0113 hsz113
                  have KY113 := Aside0.mk hy113
                  clear hy113
                  have KL113 := Aside0.mk (show ((t409.length : Int) : Int).toNat ≤ x14_8.length from by omega)
                  replace q113 := eq_true q113
                  try go_wp2_with (first | (go_at_call 16; (with_reducible refine (foretellkeep_sameLists.calls kj8 _ _ y450 _ _ t409 true _ ?side1 ?side2 ?side3 ?side4 A51.out).mono ?_); (case side1 => repeat (first | exact (by repeat (first | (with_reducible exact HR453.out) | (with_reducible refine Kd.C_alloc ?_ _) | (with_reducible refine Kd.C_drewN ?_ _) | (with_reducible refine Kd.C_drew ?_) | exact HR453.out)) | (with_reducible refine Kd.C_alloc ?_ _) | (with_reducible refine Kd.C_drewN ?_ _) | (with_reducible refine Kd.C_drew ?_))); (case side2 => exact HC453.out); (case side3 => repeat (first | exact (Kd.S_reads' HO_8.out).2.2 | (with_reducible refine Kd.C_alloc ?_ _) | (with_reducible refine Kd.C_drewN ?_ _) | (with_reducible refine Kd.C_drew ?_))); (case side4 => exact (Kd.S_reads' HO_8.out).2.1); rintro e w' ⟨rfl, ⟨nd, rfl⟩⟩; have hcv114 := fun (c_ : Nat) => Kd.C_string (P := Try.prog) (c := c_) Try.underlying22 Try.underlying5 Try.underlying9 (Kd.R_reads' HO_426000.out).2.2; have hcw114 := fun (c_ m_ : Nat) => Kd.C_string (P := Try.prog) (c := c_) Try.underlying22 Try.underlying5 Try.underlying9 (Kd.C_drewN (Kd.R_reads' HO_426000.out).2.2 m_); have hnb115 := NB431_413.out; have hnc115 := NB413_431.out; have hnb116 := NB431_449.out; have hnc116 := NB449_431.out; have hcz117_0 : w108.cell? ⟨gb431, 0, none⟩ = some (.slice Ao29 t426.length co29) := (blk_cell BK431.out 0).trans rfl; have hcz117_1 : w108.cell? ⟨gb431, 1, none⟩ = some (.int .i64 t429) := (blk_cell BK431.out 1).trans rfl; have hfz117_0 := blk_frozen BK431.out 0; have hfz117_1 := blk_frozen BK431.out 1; have hcv118 := fun (c_ : Nat) => Kd.C_string (P := Try.prog) (c := c_) Try.underlying22 Try.underlying5 Try.underlying9 (Kd.R_reads' HO_432000.out).2.2; have hcw118 := fun (c_ m_ : Nat) => Kd.C_string (P := Try.prog) (c := c_) Try.underlying22 Try.underlying5 Try.underlying9 (Kd.C_drewN (Kd.R_reads' HO_432000.out).2.2 m_); have hnb119 := NB449_413.out; have hnc119 := NB413_449.out; have hnb120 := NB449_442.out; have hnc120 := NB442_449.out; have hcz121_0 : w108.cell? ⟨gb449, 0, none⟩ = some (.slice Ao105 t444.length co105) := (blk_cell BK449.out 0).trans rfl; have hcz121_1 : w108.cell? ⟨gb449, 1, none⟩ = some (.int .i64 t447) := (blk_cell BK449.out 1).trans rfl; have hfz121_0 := blk_frozen BK449.out 0; have hfz121_1 := blk_frozen BK449.out 1; have hcv122 := fun (c_ : Nat) => Kd.C_string (P := Try.prog) (c := c_) Try.underlying22 Try.underlying5 Try.underlying9 (Kd.V_reads' HO446.out).2.2; have hcw122 := fun (c_ m_ : Nat) => Kd.C_string (P := Try.prog) (c := c_) Try.underlying22 Try.underlying5 Try.underlying9 (Kd.C_drewN (Kd.V_reads' HO446.out).2.2 m_); have hcv123 := fun (c_ : Nat) => Kd.C_string (P := Try.prog) (c := c_) Try.underlying22 Try.underlying5 Try.underlying9 (Kd.R_reads' HO_426000.out).2.2; have hcw123 := fun (c_ m_ : Nat) => Kd.C_string (P := Try.prog) (c := c_) Try.underlying22 Try.underlying5 Try.underlying9 (Kd.C_drewN (Kd.R_reads' HO_426000.out).2.2 m_)))
                  go_ret
                  exact ⟨by first | rfl | (simp [errW_none, errW_some] <;> rfl) | (simp [*, errW_none, errW_some] <;> rfl), by repeat (first | (with_reducible first | exact HB.out | apply below_alloc | apply pw_below_drewN | apply below_drew1 | refine below_set ?_ GE413.out | refine below_set ?_ GE425.out | refine below_set ?_ GE431.out | refine below_set ?_ GE442.out | refine below_set ?_ GE449.out) | exact HB.out)⟩
                ·
                 rw [if_neg c54] at H
                 exact absurd ((Option.some.inj H).trans hr_.out) (by decide)
               ·
                rw [if_neg c53] at H
                exact absurd ((Option.some.inj H).trans hr_.out) (by decide)
              ·
               replace c52 := Bool.eq_false_iff.mpr c52
               subst c52
               have H1 : (some false) = some r := by rw [if_neg (show ¬ (false = true) by decide)] at H; exact H
               clear H
               have H := H1
               clear H1
               exact absurd ((Option.some.inj H).trans hr_.out) (by decide)
             ·
              rw [if_neg c50] at H
              exact absurd H (by simp)
            ·
             rw [if_neg c49] at H
             exact absurd H (by simp)
           ·
            rw [if_neg c48] at H
            exact absurd ((Option.some.inj H).trans hr_.out) (by decide)
          ·
           rw [if_neg c47] at H
           exact absurd ((Option.some.inj H).trans hr_.out) (by decide)
         ·
          rw [if_neg c46] at H
          exact absurd ((Option.some.inj H).trans hr_.out) (by decide)
        ·
         rw [if_neg c45] at H
         exact absurd ((Option.some.inj H).trans hr_.out) (by decide)
       ·
        rw [if_neg c44] at H
        exact absurd ((Option.some.inj H).trans hr_.out) (by decide)
      ·
       rw [if_neg c43] at H
       exact absurd ((Option.some.inj H).trans hr_.out) (by decide)
     ·
      rw [if_neg c42] at H
      exact absurd ((Option.some.inj H).trans hr_.out) (by decide)
    ·
     replace c41 := Bool.eq_false_iff.mpr c41
     subst c41
     have H1 : (some false) = some r := by rw [if_neg (show ¬ (false = true) by decide)] at H; exact H
     clear H
     have H := H1
     clear H1
     exact absurd ((Option.some.inj H).trans hr_.out) (by decide)
 ·
  rw [if_neg c6] at H
  exact absurd H (by simp)

end Go.Proofs.Ytaologjglealoaa.P
