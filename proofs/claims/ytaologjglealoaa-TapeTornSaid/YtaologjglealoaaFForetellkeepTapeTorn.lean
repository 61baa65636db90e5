-- a walk, laid out by a program of this repo over the seat's translation
import Derived.Test.YtaologjglealoaaF0
import Derived.Test.YtaologjglealoaaFForetellkeepPicked
import Derived.Test.YtaologjglealoaaFForetellkeepTaped
import Derived.Test.YtaologjglealoaaFTapeRead
import Derived.Test.YtaologjglealoaaFForetellkeepSameLists
namespace Go.Proofs.Ytaologjglealoaa.P
open Go.RowKit Go.Proofs.YtaologjglealoaaW.PrintWords Go.Proofs.YtaologjglealoaaW.PrintLast Go.Proofs.YtaologjglealoaaW.PrintMore Go.Proofs.Ytaologjglealoaa.G
attribute [local go_sem] max2_int min2_int max_two min_two max_three min_three max_four min_four   -- for this text's walks alone
set_option linter.unusedVariables false
set_option linter.unusedSimpArgs false

/-! ### foretellkeep_TapeTorn: function 6 -/
def foretellkeep_TapeTorn.f (k : Nat) (l0 : List (List Int)) (a1 : Int) : Option (Bool) := (foretellkeep_taped.f k l0).bind fun bt274 => ((foretellkeep_picked.f a1 (wrap64 ((bt274.1.length : Int) + 1))).bind fun t283 => (if 0 ≤ t283 then (if t283 ≤ (bt274.1.length : Int) then ((tape_Read.f k (bt274.1.take (t283 : Int).toNat) 0).bind fun bt289 => (if bt274.2.2.2 = true then (if bt289.2.2 = 0 then (if bt289.2.1 ≤ t283 then (if (bt289.1.length : Int) ≤ (bt274.2.2.1.length : Int) then (if 0 ≤ (bt289.1.length : Int) then ((foretellkeep_sameLists.f k bt289.1 (bt274.2.2.1.take ((bt289.1.length : Int) : Int).toNat)).bind fun t299 => (if t299 = true then (some (((bt289.1.length : Int) == (bt274.2.2.1.length : Int)) == (t283 == (bt274.1.length : Int)))) else (some false))) else (none)) else (some false)) else (some false)) else (some false)) else (some false))) else (none)) else (none)))
theorem foretellkeep_TapeTorn.mono : ∀ a0 a1 k, LeO (foretellkeep_TapeTorn.f k a0 a1) (foretellkeep_TapeTorn.f (k + 1) a0 a1) := by
  intro a0 a1 k
  unfold foretellkeep_TapeTorn.f
  repeat' first
      | (with_reducible exact foretellkeep_sameLists.mono _ _ _)
      | (with_reducible exact foretellkeep_taped.mono _ _)
      | (with_reducible exact tape_Read.mono _ _ _)
      | (with_reducible exact LeO.refl _)
      | (with_reducible exact LeO.none _)
      | (with_reducible refine LeO.ite ?_ ?_)
      | (with_reducible refine LeO.bind ?_ (fun _ => ?_))
      | exact foretellkeep_sameLists.mono _ _ _
      | exact foretellkeep_taped.mono _ _
      | exact tape_Read.mono _ _ _
      | exact LeO.none _
      | refine LeO.ite ?_ ?_
      | refine LeO.bind ?_ (fun _ => ?_)
set_option maxHeartbeats 8000000 in
set_option maxRecDepth 100000 in
theorem foretellkeep_TapeTorn.calls (k : Nat) (A0 : Option Addr) (c0 : Nat) (l0 : List (List Int)) (a1 : Int) (r : Bool) (w : World) (hr0 : Kd.C (Kd.slice 3 (Kd.int .i64)) w A0 l0.length l0) (hc0 : l0.length ≤ c0) (hr_ : Aside0 (r = true)) (h : foretellkeep_TapeTorn.f k l0 a1 = some r) :
    Calls Try.prog 6 #[.slice A0 l0.length c0, .int .i64 a1] w fun e w' => e = .returned (.bool r) ∧ Below w.heap.size w w' := by
  have hu30 := Try.underlying30
  have HR0 := Aside0.mk hr0
  have HC0 := Aside0.mk hc0
  clear hr0 hc0
  have HB := Aside0.mk (Below.refl w.heap.size w)
  have H : ((foretellkeep_taped.f k l0).bind fun bt274 => ((foretellkeep_picked.f a1 (wrap64 ((bt274.1.length : Int) + 1))).bind fun t283 => (if 0 ≤ t283 then (if t283 ≤ (bt274.1.length : Int) then ((tape_Read.f k (bt274.1.take (t283 : Int).toNat) 0).bind fun bt289 => (if bt274.2.2.2 = true then (if bt289.2.2 = 0 then (if bt289.2.1 ≤ t283 then (if (bt289.1.length : Int) ≤ (bt274.2.2.1.length : Int) then (if 0 ≤ (bt289.1.length : Int) then ((foretellkeep_sameLists.f k bt289.1 (bt274.2.2.1.take ((bt289.1.length : Int) : Int).toNat)).bind fun t299 => (if t299 = true then (some (((bt289.1.length : Int) == (bt274.2.2.1.length : Int)) == (t283 == (bt274.1.length : Int)))) else (some false))) else (none)) else (some false)) else (some false)) else (some false)) else (some false))) else (none)) else (none)))) = some r := h
  clear h
  replace H := Option.bind_eq_some_iff.mp H
  obtain ⟨⟨t274, t277, t278, t281⟩, A30, H⟩ := H
  replace H : ((foretellkeep_picked.f a1 (wrap64 ((t274.length : Int) + 1))).bind fun t283 => (if 0 ≤ t283 then (if t283 ≤ (t274.length : Int) then ((tape_Read.f k (t274.take (t283 : Int).toNat) 0).bind fun bt289 => (if t281 = true then (if bt289.2.2 = 0 then (if bt289.2.1 ≤ t283 then (if (bt289.1.length : Int) ≤ (t278.length : Int) then (if 0 ≤ (bt289.1.length : Int) then ((foretellkeep_sameLists.f k bt289.1 (t278.take ((bt289.1.length : Int) : Int).toNat)).bind fun t299 => (if t299 = true then (some (((bt289.1.length : Int) == (t278.length : Int)) == (t283 == (t274.length : Int)))) else (some false))) else (none)) else (some false)) else (some false)) else (some false)) else (some false))) else (none)) else (none))) = some r := H
  have A3 := Aside0.mk A30
  clear A30
  replace H := Option.bind_eq_some_iff.mp H
  obtain ⟨t283, A40, H⟩ := H
  replace H : (if 0 ≤ t283 then (if t283 ≤ (t274.length : Int) then ((tape_Read.f k (t274.take (t283 : Int).toNat) 0).bind fun bt289 => (if t281 = true then (if bt289.2.2 = 0 then (if bt289.2.1 ≤ t283 then (if (bt289.1.length : Int) ≤ (t278.length : Int) then (if 0 ≤ (bt289.1.length : Int) then ((foretellkeep_sameLists.f k bt289.1 (t278.take ((bt289.1.length : Int) : Int).toNat)).bind fun t299 => (if t299 = true then (some (((bt289.1.length : Int) == (t278.length : Int)) == (t283 == (t274.length : Int)))) else (some false))) else (none)) else (some false)) else (some false)) else (some false)) else (some false))) else (none)) else (none)) = some r := H
  have A4 := Aside0.mk A40
  clear A40
  by_cases c5 : 0 ≤ t283
  · rw [if_pos c5] at H
    have c5b0 := eq_true c5
    have c5b1 : decide (0 ≤ t283) = true := decide_eq_true c5
    clear c5
    by_cases c6 : t283 ≤ (t274.length : Int)
    · rw [if_pos c6] at H
      have c6b0 := eq_true c6
      have c6b1 : decide (t283 ≤ (t274.length : Int)) = true := decide_eq_true c6
      clear c6
      obtain ⟨y284, hy284⟩ : ∃ y_ : List Int, y_ = (t274.take (t283 : Int).toNat) := ⟨_, rfl⟩
      replace H : ((tape_Read.f k y284 0).bind fun bt289 => (if t281 = true then (if bt289.2.2 = 0 then (if bt289.2.1 ≤ t283 then (if (bt289.1.length : Int) ≤ (t278.length : Int) then (if 0 ≤ (bt289.1.length : Int) then ((foretellkeep_sameLists.f k bt289.1 (t278.take ((bt289.1.length : Int) : Int).toNat)).bind fun t299 => (if t299 = true then (some (((bt289.1.length : Int) == (t278.length : Int)) == (t283 == (t274.length : Int)))) else (some false))) else (none)) else (some false)) else (some false)) else (some false)) else (some false))) = some r := by first | (rw [hy284]; with_reducible exact H) | (have H2_ := (Option.bind_some _ _).symm.trans H; rw [hy284]; with_reducible exact H2_) | (have H2_ := (Option.bind_some _ _).symm.trans H; with_reducible exact H2_) | with_reducible exact H | (rw [hy284]; exact H) | exact H
      have Ny284 := Aside0.mk hy284
      clear hy284
      replace H := Option.bind_eq_some_iff.mp H
      obtain ⟨⟨t289, t292, t293⟩, A70, H⟩ := H
      replace H : (if t281 = true then (if t293 = 0 then (if t292 ≤ t283 then (if (t289.length : Int) ≤ (t278.length : Int) then (if 0 ≤ (t289.length : Int) then ((foretellkeep_sameLists.f k t289 (t278.take ((t289.length : Int) : Int).toNat)).bind fun t299 => (if t299 = true then (some (((t289.length : Int) == (t278.length : Int)) == (t283 == (t274.length : Int)))) else (some false))) else (none)) else (some false)) else (some false)) else (some false)) else (some false)) = some r := H
      have A7 := Aside0.mk A70
      clear A70
      by_cases c8 : t281 = true
      · subst c8
        have H1 : (if t293 = 0 then (if t292 ≤ t283 then (if (t289.length : Int) ≤ (t278.length : Int) then (if 0 ≤ (t289.length : Int) then ((foretellkeep_sameLists.f k t289 (t278.take ((t289.length : Int) : Int).toNat)).bind fun t299 => (if t299 = true then (some (((t289.length : Int) == (t278.length : Int)) == (t283 == (t274.length : Int)))) else (some false))) else (none)) else (some false)) else (some false)) else (some false)) = some r := by rw [if_pos rfl] at H; exact H
        clear H
        have H := H1
        clear H1
        by_cases c9 : t293 = 0
        · rw [if_pos c9] at H
          have c9b0 : (t293 == 0) = true := beq_iff_eq.mpr c9
          have c9b1 : (t293 != 0) = false := bne_eq_false_iff_eq.mpr c9
          clear c9
          by_cases c10 : t292 ≤ t283
          · rw [if_pos c10] at H
            have c10b0 : decide (t292 ≤ t283) = true := decide_eq_true c10
            clear c10
            by_cases c11 : (t289.length : Int) ≤ (t278.length : Int)
            · rw [if_pos c11] at H
              have c11b0 : decide ((t289.length : Int) ≤ (t278.length : Int)) = true := decide_eq_true c11
              have c11b1 : decide (t289.length ≤ t278.length) = true := decide_eq_true (Int.ofNat_le.mp c11)
              clear c11
              by_cases c12 : 0 ≤ (t289.length : Int)
              · rw [if_pos c12] at H
                have c12b0 := eq_true c12
                have c12b1 : decide (0 ≤ (t289.length : Int)) = true := decide_eq_true c12
                clear c12
                have c13b0 := eq_true (of_decide_eq_true (by first | (with_reducible assumption) | assumption) : (t289.length : Int) ≤ (t278.length : Int))
                obtain ⟨y294, hy294⟩ : ∃ y_ : List (List Int), y_ = (t278.take ((t289.length : Int) : Int).toNat) := ⟨_, rfl⟩
                replace H : ((foretellkeep_sameLists.f k t289 y294).bind fun t299 => (if t299 = true then (some (((t289.length : Int) == (t278.length : Int)) == (t283 == (t274.length : Int)))) else (some false))) = some r := by first | (rw [hy294]; with_reducible exact H) | (have H2_ := (Option.bind_some _ _).symm.trans H; rw [hy294]; with_reducible exact H2_) | (have H2_ := (Option.bind_some _ _).symm.trans H; with_reducible exact H2_) | with_reducible exact H | (rw [hy294]; exact H) | exact H
                have Ny294 := Aside0.mk hy294
                clear hy294
                replace H := Option.bind_eq_some_iff.mp H
                obtain ⟨t299, A140, H⟩ := H
                replace H : (if t299 = true then (some (((t289.length : Int) == (t278.length : Int)) == (t283 == (t274.length : Int)))) else (some false)) = some r := H
                have A14 := Aside0.mk A140
                clear A140
                by_cases c15 : t299 = true
                · subst c15
                  have H1 : (some (((t289.length : Int) == (t278.length : Int)) == (t283 == (t274.length : Int)))) = some r := by rw [if_pos rfl] at H; exact H
                  clear H
                  have H := H1
                  clear H1
                  obtain rfl := Option.some.inj H
                  go_enter Try.func6, Try.ntmps6
                  go_wp2_with (first | ((with_reducible refine gate_callee (f := 14) rfl ?_); refine goesL_ (some 14) rfl rfl Try.func14 (by kernel_rfl) rfl #[.slice A0 l0.length c0] rfl (by (try simp only [List.map_toArray, List.map_cons, List.map_nil]); first | done | rfl | (simp only [List.length_drop, List.length_take]; rfl)) ?_; (with_reducible refine (foretellkeep_taped.calls k _ _ l0 t274 t277 t278 true _ ?side1 ?side2 A3.out).mono ?_); (case side1 => repeat (first | exact HR0.out | (with_reducible refine Kd.C_alloc ?_ _) | (with_reducible refine Kd.C_drewN ?_ _) | (with_reducible refine Kd.C_drew ?_))); (case side2 => exact HC0.out); rintro e w16 ⟨v275, v279, rfl, ho0, ho1, hb⟩; refine ⟨_, rfl, ?_⟩; have n0_ := Aside0.mk (Kd.R_lower ho0 (below_size (by repeat (first | (with_reducible first | exact HB.out | apply below_alloc | apply pw_below_drewN | apply below_drew1) | exact HB.out)))); have n1_ := Aside0.mk (Kd.N_lower (Kd.N_mono (ok' := fun k_ => some k_ ≠ (v275 : Value).ownBlock) (Kd.S_N (Kd.S_bound (Kd.S_apart' ho1 (Kd.R_typed ho0) (by decide)))) (fun k_ hk_ => hk_.1.2)) (below_size (by repeat (first | (with_reducible first | exact HB.out | apply below_alloc | apply pw_below_drewN | apply below_drew1) | exact HB.out)))); have n2_ := Aside0.mk (below_step (by repeat (first | (with_reducible first | exact HB.out | apply below_alloc | apply pw_below_drewN | apply below_drew1) | exact HB.out)) hb); clear HB; have HO276 := n0_; have HO280 := n1_; have HB := n2_; clear n0_ n1_ n2_; (try clear hb); (try clear hb2); (try clear hk); (try clear hi); (try clear ho0); (try clear ho1)) | ((with_reducible refine gate_dst (N := 5) rfl ?_); (try (refine gate_guard (by rfl) ?_; dsimp only)); refine box_event ?hg (N := 5) ?hd (cs := #[.slice none 0 0, .int .i64 0]) (t := 30) ?hr ?_; (case hd => rfl); (case hg => rfl); (case hr => first | (go_simp; done) | (go_simp; rfl)); intro gb282 hg w17 hbox hb; have n0_ := Aside0.mk (Kd.R_below (by (with_reducible repeat (first | apply Kd.R_alloc | apply Kd.R_drewN | apply Kd.R_drew)); exact HO276.out) hb); have n1_ := Aside0.mk (Kd.N_below (Kd.N_elderB (by (with_reducible repeat (first | apply Kd.N_alloc | apply Kd.N_drewN | apply Kd.N_drew)); exact HO280.out) gb282 (Nat.le_of_eq hg.symm)) hb); have n2_ := Aside0.mk (below_step (by repeat (first | (with_reducible first | exact HB.out | apply below_alloc | apply pw_below_drewN | apply below_drew1) | exact HB.out)) hb); have n3_ := Aside0.mk (hbox); have n4_ := Aside0.mk ((by rw [hg]; exact (below_size (by repeat (first | (with_reducible first | exact HB.out | apply below_alloc | apply pw_below_drewN | apply below_drew1) | exact HB.out))) : w.heap.size ≤ gb282)); have n5_ := Aside0.mk ((by rw [hg]; exact (below_size (by repeat (first | (with_reducible first | exact HB.out | apply below_alloc | apply pw_below_drewN | apply below_drew1) | exact HB.out))) : w.heap.size ≤ gb282)); clear HO276; clear HO280; clear HB; have HO276 := n0_; have HO280 := n1_; have HB := n2_; have BK282 := n3_; have GW282 := n4_; have GE282 := n5_; clear n0_ n1_ n2_ n3_ n4_ n5_; clear hb hbox hg; obtain ⟨Ao18, co18, eo18⟩ := Kd.R_slice HO276.out; subst eo18; have hcz19_0 : w17.cell? ⟨gb282, 0, none⟩ = some (.slice none 0 0) := (blk_cell BK282.out 0).trans rfl; have hcz19_1 : w17.cell? ⟨gb282, 1, none⟩ = some (.int .i64 0) := (blk_cell BK282.out 1).trans rfl; have hfz19_0 := blk_frozen BK282.out 0; have hfz19_1 := blk_frozen BK282.out 1) | ((with_reducible refine gate_store (t := 30) (p := 5) rfl ?_); refine store_event (t := 30) (p := 5) (v := ?vo_w20) (w1 := ((w17.setCell ⟨gb282, 0, none⟩ (.slice Ao18 t274.length co18)).setCell ⟨gb282, 1, none⟩ (.int .i64 t277))) ?hg ?ho ?hn ?hr ?_; (case ho => rfl); (case hg => rfl); (case hn => rfl); (case hr => first | (go_simp; done) | (go_simp; rfl)); intro w20 hw; have n0_ : Aside0 (Kd.R (Kd.int .u8) 5 w20 w.heap.size (fun _ => True) (.slice Ao18 t274.length co18) t274) := ⟨(by rw [hw]; exact (by (with_reducible repeat (first | apply Kd.R_alloc | apply Kd.R_drewN | apply Kd.R_drew)); exact Kd.R_mono (Kd.R_far (p := ⟨gb282, 1, none⟩) (Kd.R_far (p := ⟨gb282, 0, none⟩) (Kd.R_types HO276.out BK282.out (by decide)) (fun _ hk => hk.2) (.slice Ao18 t274.length co18)) (fun _ hk => hk.2) (.int .i64 t277)) (fun _ hk => trivial)))⟩; have n1_ : Aside0 (Kd.N (Kd.slice 3 (Kd.int .i64)) 27 w20 w.heap.size (fun k_ => some k_ ≠ (.slice Ao18 t274.length co18 : Value).ownBlock ∧ k_ ≠ gb282) v279 t278) := ⟨(by rw [hw]; exact (by (with_reducible repeat (first | apply Kd.N_alloc | apply Kd.N_drewN | apply Kd.N_drew)); exact Kd.N_mono (Kd.N_far (p := ⟨gb282, 1, none⟩) (Kd.N_far (p := ⟨gb282, 0, none⟩) (Kd.N_mono HO280.out (fun k_ hk => (⟨hk, hk.2⟩ : _ ∧ k_ ≠ gb282))) (fun _ hk => hk.2) (.slice Ao18 t274.length co18)) (fun _ hk => hk.2) (.int .i64 t277)) (fun _ hk => ⟨hk.1.1, hk.1.2⟩)))⟩; have n2_ : Aside0 (w20.heap[gb282]? = some (.cells #[.slice Ao18 t274.length co18, .int .i64 t277] 30 (0, 0))) := ⟨(by rw [hw]; exact (by (with_reducible repeat (first | refine blk_drewN ?_ _ | refine blk_drew ?_ | refine blk_alloc ?_ _)); refine blk_put (cs := #[.slice Ao18 t274.length co18, .int .i64 0]) ?_ 1 _ rfl; (with_reducible repeat (first | refine blk_drewN ?_ _ | refine blk_drew ?_ | refine blk_alloc ?_ _)); refine blk_put (cs := #[.slice none 0 0, .int .i64 0]) ?_ 0 _ rfl; (with_reducible repeat (first | refine blk_drewN ?_ _ | refine blk_drew ?_ | refine blk_alloc ?_ _)); exact BK282.out))⟩; have n3_ : Aside0 (Below w.heap.size w w20) := ⟨(by rw [hw]; exact (by repeat (first | (with_reducible first | exact HB.out | apply below_alloc | apply pw_below_drewN | apply below_drew1 | refine below_set ?_ GE282.out) | exact HB.out)))⟩; clear hw; clear HO276; clear HO280; clear BK282; clear HB; have HO276 := n0_; have HO280 := n1_; have BK282 := n2_; have HB := n3_; clear n0_ n1_ n2_ n3_; have hcz21_0 : w20.cell? ⟨gb282, 0, none⟩ = some (.slice Ao18 t274.length co18) := (blk_cell BK282.out 0).trans rfl; have hcz21_1 : w20.cell? ⟨gb282, 1, none⟩ = some (.int .i64 t277) := (blk_cell BK282.out 1).trans rfl; have hfz21_0 := blk_frozen BK282.out 0; have hfz21_1 := blk_frozen BK282.out 1) | ((with_reducible refine gate_callee (f := 11) rfl ?_); refine goesL_ (some 23) rfl rfl Try.func11 (by kernel_rfl) rfl #[.int .i64 a1, .int .i64 (wrap64 ((t274.length : Int) + 1))] rfl (by (try simp only [List.map_toArray, List.map_cons, List.map_nil]); first | done | rfl | (simp only [List.length_drop, List.length_take]; rfl)) ?_; (with_reducible refine (foretellkeep_picked.calls a1 (wrap64 ((t274.length : Int) + 1)) t283 _ A4.out).mono ?_); rintro e w' ⟨rfl, ⟨nd, rfl⟩⟩; refine ⟨_, rfl, ?_⟩; have q22 : (t283 : Int) ≤ ((t274.length : Int) : Int) := of_decide_eq_true (by first | (with_reducible assumption) | assumption); obtain ⟨i022, hi022, _, hsz22, _⟩ := info_parts info5; have hroom22 : t274.length ≤ co18 := (Kd.R_reads' HO276.out).2.1; have hC22 : Kd.F (Kd.int .u8) _ _ Ao18 t274.length t274 := (Kd.V_at (base := w.heap.size) (Kd.R_V (Kd.R_types (Kd.R_apart' (HO276.out) (Kd.N_typed HO280.out) (by decide)) BK282.out (by decide)))).2.2; have hcut22 := cut_cap (P := Try.prog) 22 5 .i64 Try.underlying22 hi022 Ao18 t274.length co18 t283 (of_decide_eq_true (by first | (with_reducible assumption) | assumption)) q22 hroom22; have hr22 := Kd.F_take (m := (t283 : Int).toNat) hC22 (by omega); have hy22 : y284.length = (t283 : Int).toNat := (by rw [Ny284.out, List.length_take]; omega); rw [← Ny284.out] at hr22; rw [← hy22] at hcut22; have HO288 := Aside0.mk (show Kd.V (Kd.int .u8) 5 _ w.heap.size _ (.slice Ao18 y284.length y284.length) y284 from Kd.V_mk (by omega) hr22); have HC288 := Aside0.mk (show y284.length ≤ y284.length from by omega); clear hr22 hC22 hroom22 hi022 hsz22; have KY22 := Aside0.mk hy22; clear hy22; replace q22 := eq_true q22) | ((with_reducible refine gate_callee (f := 15) rfl ?_); refine goesL_ (some 31) rfl rfl Try.func15 (by kernel_rfl) rfl #[.agg #[.slice Ao18 y284.length y284.length, .int .i64 0]] rfl (by (try simp only [List.map_toArray, List.map_cons, List.map_nil]); first | done | rfl | (simp only [List.length_drop, List.length_take]; rfl)) ?_; (with_reducible refine (tape_Read.calls k _ _ y284 0 t289 t292 t293 _ ?side1 ?side2 A7.out).mono ?_); (case side1 => repeat (first | exact (Kd.V_reads' HO288.out).2.2 | (with_reducible refine Kd.C_alloc ?_ _) | (with_reducible refine Kd.C_drewN ?_ _) | (with_reducible refine Kd.C_drew ?_))); (case side2 => exact (Kd.V_reads' HO288.out).2.1); rintro e w23 ⟨v290, rfl, ho0, hb⟩; refine ⟨_, rfl, ?_⟩; have n0_ := Aside0.mk (Kd.R_below (by (with_reducible repeat (first | apply Kd.R_alloc | apply Kd.R_drewN | apply Kd.R_drew)); exact HO276.out) hb); have n1_ := Aside0.mk (Kd.N_elder' (by (with_reducible repeat (first | apply Kd.N_alloc | apply Kd.N_drewN | apply Kd.N_drew)); exact HO280.out) (by first | exact Kd.N_base ho0 | exact Kd.S_base ho0 | exact Kd.R_base ho0) hb); have n2_ := Aside0.mk (Kd.V_elder' (by (with_reducible repeat (first | apply Kd.V_alloc | apply Kd.V_drewN | apply Kd.V_drew)); exact HO288.out) (by first | exact Kd.N_base ho0 | exact Kd.S_base ho0 | exact Kd.R_base ho0) hb); have n3_ := Aside0.mk (Kd.N_lower (Kd.N_mono (ok' := fun k_ => some k_ ≠ (.slice Ao18 t274.length co18 : Value).ownBlock ∧ some k_ ≠ (v279 : Value).ownBlock ∧ k_ ≠ gb282) (Kd.S_N (Kd.S_bound ho0)) (fun k_ hk_ => ⟨(Kd.fresh' (Kd.R_lt (by (with_reducible repeat (first | apply Kd.R_alloc | apply Kd.R_drewN | apply Kd.R_drew)); exact HO276.out)) k_ hk_.2.1), (Kd.fresh' (Kd.N_lt (by (with_reducible repeat (first | apply Kd.N_alloc | apply Kd.N_drewN | apply Kd.N_drew)); exact HO280.out)) k_ hk_.2.1), (Kd.freshB (g := gb282) (o := .cells #[.slice Ao18 t274.length co18, .int .i64 t277] 30 (0, 0)) (by (with_reducible repeat (first | refine blk_drewN ?_ _ | refine blk_drew ?_ | refine blk_alloc ?_ _)); exact BK282.out) k_ hk_.2.1)⟩)) (below_size (by repeat (first | (with_reducible first | exact HB.out | apply below_alloc | apply pw_below_drewN | apply below_drew1 | refine below_set ?_ GE282.out) | exact HB.out)))); have n4_ := Aside0.mk (blk_below (g := gb282) (o := .cells #[.slice Ao18 t274.length co18, .int .i64 t277] 30 (0, 0)) (by (with_reducible repeat (first | refine blk_drewN ?_ _ | refine blk_drew ?_ | refine blk_alloc ?_ _)); exact BK282.out) hb); have n5_ := Aside0.mk (below_step (by repeat (first | (with_reducible first | exact HB.out | apply below_alloc | apply pw_below_drewN | apply below_drew1 | refine below_set ?_ GE282.out) | exact HB.out)) hb); clear HO276; clear HO280; clear HO288; clear BK282; clear HB; have HO276 := n0_; have HO280 := n1_; have HO288 := n2_; have HO291 := n3_; have BK282 := n4_; have HB := n5_; clear n0_ n1_ n2_ n3_ n4_ n5_; (try clear hb); (try clear hb2); (try clear hk); (try clear hi); (try clear ho0); obtain ⟨Ao24, co24, eo24⟩ := Kd.N_slice HO291.out; subst eo24; obtain ⟨Ao25, co25, eo25⟩ := Kd.N_slice HO280.out; subst eo25; have q26 : ((t289.length : Int) : Int) ≤ ((t278.length : Int) : Int) := of_decide_eq_true (by first | (with_reducible assumption) | assumption); obtain ⟨i026, hi026, _, hsz26, _⟩ := info_parts info27; have hroom26 : t278.length ≤ co25 := (Kd.N_reads' HO280.out).2.1; have hC26 : Kd.F (Kd.slice 3 (Kd.int .i64)) _ _ Ao25 t278.length t278 := (Kd.V_at (base := w.heap.size) (Kd.N_V HO280.out)).2.2; have hcut26 := cut_to (P := Try.prog) 35 27 .i64 Try.underlying35 hi026 Ao25 t278.length co25 (t289.length : Int) (of_decide_eq_true (by first | (with_reducible assumption) | assumption)) q26 hroom26; have hr26 := Kd.F_take (m := ((t289.length : Int) : Int).toNat) hC26 (by omega); have hy26 : y294.length = ((t289.length : Int) : Int).toNat := (by rw [Ny294.out, List.length_take]; omega); rw [← Ny294.out] at hr26; rw [← hy26] at hcut26; have HO298 := Aside0.mk (show Kd.V (Kd.slice 3 (Kd.int .i64)) 27 _ w.heap.size _ (.slice Ao25 y294.length co25) y294 from Kd.V_mk (by omega) hr26); have HC298 := Aside0.mk (show y294.length ≤ co25 from by omega); clear hr26 hC26 hroom26 hi026 hsz26; have KY26 := Aside0.mk hy26; clear hy26; replace q26 := eq_true q26) | (go_at_call 16; (with_reducible refine (foretellkeep_sameLists.calls k _ _ t289 _ _ y294 true _ ?side1 ?side2 ?side3 ?side4 A14.out).mono ?_); (case side1 => repeat (first | exact (Kd.N_reads' HO291.out).2.2 | (with_reducible refine Kd.C_alloc ?_ _) | (with_reducible refine Kd.C_drewN ?_ _) | (with_reducible refine Kd.C_drew ?_))); (case side2 => exact (Kd.N_reads' HO291.out).2.1); (case side3 => repeat (first | exact (Kd.V_reads' HO298.out).2.2 | (with_reducible refine Kd.C_alloc ?_ _) | (with_reducible refine Kd.C_drewN ?_ _) | (with_reducible refine Kd.C_drew ?_))); (case side4 => exact (Kd.V_reads' HO298.out).2.1); rintro e w' ⟨rfl, ⟨nd, rfl⟩⟩; have hcz27_0 : w23.cell? ⟨gb282, 0, none⟩ = some (.slice Ao18 t274.length co18) := (blk_cell BK282.out 0).trans rfl; have hcz27_1 : w23.cell? ⟨gb282, 1, none⟩ = some (.int .i64 t277) := (blk_cell BK282.out 1).trans rfl; have hfz27_0 := blk_frozen BK282.out 0; have hfz27_1 := blk_frozen BK282.out 1))
                  go_ret
                  exact ⟨by first | rfl | (simp [errW_none, errW_some] <;> rfl) | (simp [*, errW_none, errW_some] <;> rfl), by repeat (first | (with_reducible first | exact HB.out | apply below_alloc | apply pw_below_drewN | apply below_drew1 | refine below_set ?_ GE282.out) | exact HB.out)⟩
                · replace c15 := Bool.eq_false_iff.mpr c15
                  subst c15
                  have H1 : (some false) = some r := by rw [if_neg (show ¬ (false = true) by decide)] at H; exact H
                  clear H
                  have H := H1
                  clear H1
                  exact absurd ((Option.some.inj H).trans hr_.out) (by decide)
              · rw [if_neg c12] at H
                exact absurd H (by simp)
            · rw [if_neg c11] at H
              exact absurd ((Option.some.inj H).trans hr_.out) (by decide)
          · rw [if_neg c10] at H
            exact absurd ((Option.some.inj H).trans hr_.out) (by decide)
        · rw [if_neg c9] at H
          exact absurd ((Option.some.inj H).trans hr_.out) (by decide)
      · replace c8 := Bool.eq_false_iff.mpr c8
        subst c8
        have H1 : (some false) = some r := by rw [if_neg (show ¬ (false = true) by decide)] at H; exact H
        clear H
        have H := H1
        clear H1
        exact absurd ((Option.some.inj H).trans hr_.out) (by decide)
    · rw [if_neg c6] at H
      exact absurd H (by simp)
  · rw [if_neg c5] at H
    exact absurd H (by simp)

end Go.Proofs.Ytaologjglealoaa.P
