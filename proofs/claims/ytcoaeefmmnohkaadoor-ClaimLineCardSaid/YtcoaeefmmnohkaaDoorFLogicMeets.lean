-- a walk, laid out by a program of this repo over the seat's translation
import Derived.Test.YtcoaeefmmnohkaaDoorF0
import Derived.Test.YtcoaeefmmnohkaaDoorFLogic
import Derived.Test.YtcoaeefmmnohkaaDoorFPolish
import Derived.Test.YtcoaeefmmnohkaaDoorFTruths
namespace Go.Proofs.YtcoaeefmmnohkaaDoor.P
open Go.RowKit Go.Proofs.YtcoaeefmmnohkaaDoorW.PrintWords Go.Proofs.YtcoaeefmmnohkaaDoorW.PrintLast Go.Proofs.YtcoaeefmmnohkaaDoorW.PrintMore Go.Proofs.YtcoaeefmmnohkaaDoor.G
attribute [local go_sem] max2_int min2_int max_two min_two max_three min_three max_four min_four   -- for this text's walks alone
set_option linter.unusedVariables false
set_option linter.unusedSimpArgs false

/-! ### logic_Meets: function 22 -/
mutual
def logic_Meets.l0 : Nat → List Bool → List Int → Int → Int → List (S51) → Int → Int → Option (Int × Int)
 | 0, _, _, _, _, _, _, _ => none
 | k + 1, x8, x10, x12, x13, x32, x33, x34 => if x34 < x33 then (if 0 ≤ x34 then (if x34 < (x32.length : Int) then ((logic_ahead.f ((rd_T51 x32 x34).f0)).bind fun t175 => (if t175 = true then (logic_Meets.j1 k x8 x10 x12 x13 x34 true x32 x33 x34 ((rd_T51 x32 x34).f0)) else (logic_Meets.l0 k x8 x10 x12 x13 x32 x33 (wrap64 (x34 + 1))))) else (none)) else (none)) else (some (x12, 0))
def logic_Meets.j1 : Nat → List Bool → List Int → Int → Int → Int → Bool → List (S51) → Int → Int → Int → Option (Int × Int)
 | 0, _, _, _, _, _, _, _, _, _, _ => none
 | k + 1, x8, x10, x12, x13, x14, x16, x32, x33, x34, x44 => if x44 = 17 then (if 0 ≤ x14 then (if x14 < (x8.length : Int) then (if rdOf false x8 x14 = true then (if 0 ≤ (wrap64 (x14 + 1)) then (if (wrap64 (x14 + 1)) < (x8.length : Int) then (if rdOf false x8 (wrap64 (x14 + 1)) = true then (if 0 ≤ x13 then (logic_Meets.l0 k x8 x10 (Go.bits .or .i64 x12 (shl .i64 1 x13)) (wrap64 (x13 + 1)) x32 x33 (wrap64 (x34 + 1))) else (none)) else (logic_Meets.l0 k x8 x10 x12 (wrap64 (x13 + 1)) x32 x33 (wrap64 (x34 + 1)))) else (none)) else (none)) else (if 0 ≤ x13 then (logic_Meets.l0 k x8 x10 (Go.bits .or .i64 x12 (shl .i64 1 x13)) (wrap64 (x13 + 1)) x32 x33 (wrap64 (x34 + 1))) else (none))) else (none)) else (none)) else (if x44 = 18 then (if 0 ≤ x14 then (if x14 < (x8.length : Int) then (if rdOf false x8 x14 = true then (if 0 ≤ x13 then (logic_Meets.l0 k x8 x10 (Go.bits .or .i64 x12 (shl .i64 1 x13)) (wrap64 (x13 + 1)) x32 x33 (wrap64 (x34 + 1))) else (none)) else (if 0 ≤ (wrap64 (x14 + 1)) then (if (wrap64 (x14 + 1)) < (x8.length : Int) then (if (rdOf false x8 (wrap64 (x14 + 1)) = true) then (logic_Meets.l0 k x8 x10 x12 (wrap64 (x13 + 1)) x32 x33 (wrap64 (x34 + 1))) else (if 0 ≤ x13 then (logic_Meets.l0 k x8 x10 (Go.bits .or .i64 x12 (shl .i64 1 x13)) (wrap64 (x13 + 1)) x32 x33 (wrap64 (x34 + 1))) else (none))) else (none)) else (none))) else (none)) else (none)) else (if x44 = 15 then (if 0 ≤ x14 then (if x14 < (x8.length : Int) then (if rdOf false x8 x14 = true then (if 0 ≤ (wrap64 (x14 + 1)) then (if (wrap64 (x14 + 1)) < (x10.length : Int) then (if 0 ≤ (rd x10 (wrap64 (x14 + 1))) then (if (rd x10 (wrap64 (x14 + 1))) < (x8.length : Int) then (if rdOf false x8 (rd x10 (wrap64 (x14 + 1))) = true then (if 0 ≤ x13 then (logic_Meets.l0 k x8 x10 (Go.bits .or .i64 x12 (shl .i64 1 x13)) (wrap64 (x13 + 1)) x32 x33 (wrap64 (x34 + 1))) else (none)) else (logic_Meets.l0 k x8 x10 x12 (wrap64 (x13 + 1)) x32 x33 (wrap64 (x34 + 1)))) else (none)) else (none)) else (none)) else (none)) else (if 0 ≤ x13 then (logic_Meets.l0 k x8 x10 (Go.bits .or .i64 x12 (shl .i64 1 x13)) (wrap64 (x13 + 1)) x32 x33 (wrap64 (x34 + 1))) else (none))) else (none)) else (none)) else (if x44 = 16 then (if 0 ≤ x14 then (if x14 < (x8.length : Int) then (if rdOf false x8 x14 = true then (if 0 ≤ x13 then (logic_Meets.l0 k x8 x10 (Go.bits .or .i64 x12 (shl .i64 1 x13)) (wrap64 (x13 + 1)) x32 x33 (wrap64 (x34 + 1))) else (none)) else (if 0 ≤ (wrap64 (x14 + 1)) then (if (wrap64 (x14 + 1)) < (x10.length : Int) then (if 0 ≤ (rd x10 (wrap64 (x14 + 1))) then (if (rd x10 (wrap64 (x14 + 1))) < (x8.length : Int) then (if (rdOf false x8 (rd x10 (wrap64 (x14 + 1))) = true) then (logic_Meets.l0 k x8 x10 x12 (wrap64 (x13 + 1)) x32 x33 (wrap64 (x34 + 1))) else (if 0 ≤ x13 then (logic_Meets.l0 k x8 x10 (Go.bits .or .i64 x12 (shl .i64 1 x13)) (wrap64 (x13 + 1)) x32 x33 (wrap64 (x34 + 1))) else (none))) else (none)) else (none)) else (none)) else (none))) else (none)) else (none)) else (if x16 = true then (if 0 ≤ x13 then (logic_Meets.l0 k x8 x10 (Go.bits .or .i64 x12 (shl .i64 1 x13)) (wrap64 (x13 + 1)) x32 x33 (wrap64 (x34 + 1))) else (none)) else (logic_Meets.l0 k x8 x10 x12 (wrap64 (x13 + 1)) x32 x33 (wrap64 (x34 + 1)))))))
end
def logic_Meets.f (k : Nat) (l0 : List (S51)) (l1 : List Bool) (a2 : Int) : Option (Int × Int) := (logic_Truths.f k l0 l1 a2).bind fun bt165 => (if bt165.2 = 0 then ((polish_Ends.f k l0).bind fun bt169 => (logic_Meets.l0 k bt165.1 bt169.1 0 0 l0 (l0.length : Int) 0)) else (some (0, bt165.2)))
theorem logic_Meets.mono_l : ∀ k, (∀ y0 y1 y2 y3 y4 y5 y6, LeO (logic_Meets.l0 k y0 y1 y2 y3 y4 y5 y6) (logic_Meets.l0 (k + 1) y0 y1 y2 y3 y4 y5 y6)) ∧ (∀ y0 y1 y2 y3 y4 y5 y6 y7 y8 y9, LeO (logic_Meets.j1 k y0 y1 y2 y3 y4 y5 y6 y7 y8 y9) (logic_Meets.j1 (k + 1) y0 y1 y2 y3 y4 y5 y6 y7 y8 y9))
 | 0 => ⟨fun _ _ _ _ _ _ _ r h => by simp [logic_Meets.l0] at h, fun _ _ _ _ _ _ _ _ _ _ r h => by simp [logic_Meets.j1] at h⟩
 | k + 1 => by
  obtain ⟨ih0, ih1⟩ := logic_Meets.mono_l k
  refine ⟨?_, ?_⟩
  ·
   intro y0 y1 y2 y3 y4 y5 y6
   unfold logic_Meets.l0
   repeat' first
   | (with_reducible exact ih0 _ _ _ _ _ _ _)
   | (with_reducible exact ih1 _ _ _ _ _ _ _ _ _ _)
   | (with_reducible exact logic_Truths.mono _ _ _ _)
   | (with_reducible exact polish_Ends.mono _ _)
   | (with_reducible exact LeO.refl _)
   | (with_reducible exact LeO.none _)
   | (with_reducible refine LeO.ite ?_ ?_)
   | (with_reducible refine LeO.bind ?_ (fun _ => ?_))
   | exact ih0 _ _ _ _ _ _ _
   | exact ih1 _ _ _ _ _ _ _ _ _ _
   | exact logic_Truths.mono _ _ _ _
   | exact polish_Ends.mono _ _
   | exact LeO.none _
   | refine LeO.ite ?_ ?_
   | refine LeO.bind ?_ (fun _ => ?_)
  ·
   intro y0 y1 y2 y3 y4 y5 y6 y7 y8 y9
   unfold logic_Meets.j1
   repeat' first
   | (with_reducible exact ih0 _ _ _ _ _ _ _)
   | (with_reducible exact ih1 _ _ _ _ _ _ _ _ _ _)
   | (with_reducible exact logic_Truths.mono _ _ _ _)
   | (with_reducible exact polish_Ends.mono _ _)
   | (with_reducible exact LeO.refl _)
   | (with_reducible exact LeO.none _)
   | (with_reducible refine LeO.ite ?_ ?_)
   | (with_reducible refine LeO.bind ?_ (fun _ => ?_))
   | exact ih0 _ _ _ _ _ _ _
   | exact ih1 _ _ _ _ _ _ _ _ _ _
   | exact logic_Truths.mono _ _ _ _
   | exact polish_Ends.mono _ _
   | exact LeO.none _
   | refine LeO.ite ?_ ?_
   | refine LeO.bind ?_ (fun _ => ?_)
theorem logic_Meets.mono : ∀ a0 a1 a2 k, LeO (logic_Meets.f k a0 a1 a2) (logic_Meets.f (k + 1) a0 a1 a2) := by
 intro a0 a1 a2 k
 obtain ⟨ih0, ih1⟩ := logic_Meets.mono_l k
 unfold logic_Meets.f
 repeat' first
   | (with_reducible exact ih0 _ _ _ _ _ _ _)
   | (with_reducible exact ih1 _ _ _ _ _ _ _ _ _ _)
   | (with_reducible exact logic_Truths.mono _ _ _ _)
   | (with_reducible exact polish_Ends.mono _ _)
   | (with_reducible exact LeO.refl _)
   | (with_reducible exact LeO.none _)
   | (with_reducible refine LeO.ite ?_ ?_)
   | (with_reducible refine LeO.bind ?_ (fun _ => ?_))
   | exact ih0 _ _ _ _ _ _ _
   | exact ih1 _ _ _ _ _ _ _ _ _ _
   | exact logic_Truths.mono _ _ _ _
   | exact polish_Ends.mono _ _
   | exact LeO.none _
   | refine LeO.ite ?_ ?_
   | refine LeO.bind ?_ (fun _ => ?_)
set_option maxHeartbeats 8000000 in
set_option maxRecDepth 100000 in
theorem logic_Meets.calls (k : Nat) (A0 : Option Addr) (c0 : Nat) (l0 : List (S51)) (A1 : Option Addr) (c1 : Nat) (l1 : List Bool) (a2 : Int) (r1 : Int) (r2 : Int) (w : World) (hr0 : Kd.C k51 w A0 l0.length l0) (hc0 : l0.length ≤ c0) (hr1 : Kd.C Kd.bool w A1 l1.length l1) (hc1 : l1.length ≤ c1) (hG_ : Glob w) (h : logic_Meets.f k l0 l1 a2 = some (r1, r2)) :
  Calls Tryd.prog 22 #[.slice A0 l0.length c0, .slice A1 l1.length c1, .int .i64 a2] w fun e w' => e = .returned (.tuple #[.int .i64 r1, .int .i64 r2]) ∧ Below w.heap.size w w' := by
 have hu51 := Tryd.underlying51
 have HR0 := Aside0.mk hr0
 have HC0 := Aside0.mk hc0
 clear hr0 hc0
 have HR1 := Aside0.mk hr1
 have HC1 := Aside0.mk hc1
 clear hr1 hc1
 have HB := Aside0.mk (Below.refl w.heap.size w)
 have H : ((logic_Truths.f k l0 l1 a2).bind fun bt165 => (if bt165.2 = 0 then ((polish_Ends.f k l0).bind fun bt169 => (logic_Meets.l0 k bt165.1 bt169.1 0 0 l0 (l0.length : Int) 0)) else (some (0, bt165.2)))) = some (r1, r2) := h
 clear h
 replace H := Option.bind_eq_some_iff.mp H
 obtain ⟨⟨t165, t166⟩, A40, H⟩ := H
 replace H : (if t166 = 0 then ((polish_Ends.f k l0).bind fun bt169 => (logic_Meets.l0 k t165 bt169.1 0 0 l0 (l0.length : Int) 0)) else (some (0, t166))) = some (r1, r2) := H
 have A4 := Aside0.mk A40
 clear A40
 by_cases c5 : t166 = 0
 ·
  rw [if_pos c5] at H
  have c5b0 : (t166 == 0) = true := beq_iff_eq.mpr c5
  have c5b1 : (t166 != 0) = false := bne_eq_false_iff_eq.mpr c5
  clear c5
  replace H := Option.bind_eq_some_iff.mp H
  obtain ⟨⟨t169, t170⟩, A60, H⟩ := H
  replace H : (logic_Meets.l0 k t165 t169 0 0 l0 (l0.length : Int) 0) = some (r1, r2) := H
  have A6 := Aside0.mk A60
  clear A60
  have H' := Aside0.mk H
  clear H
  go_enter Tryd.func22, Tryd.ntmps22
  go_wp2_with (first | ((with_reducible refine gate_callee (f := 19) rfl ?_); refine goesL_ (some 21) rfl rfl Tryd.func19 (by kernel_rfl) rfl #[.slice A0 l0.length c0, .slice A1 l1.length c1, .int .i64 a2] rfl (by (try simp only [List.map_toArray, List.map_cons, List.map_nil]); first | done | rfl | (simp only [List.length_drop, List.length_take]; rfl)) ?_; (with_reducible refine (logic_Truths.calls k _ _ l0 _ _ l1 a2 t165 t166 _ ?side1 ?side2 ?side3 ?side4 ?side5 A4.out).mono ?_); (case side1 => repeat (first | exact HR0.out | (with_reducible refine Kd.C_alloc ?_ _) | (with_reducible refine Kd.C_drewN ?_ _) | (with_reducible refine Kd.C_drew ?_))); (case side2 => exact HC0.out); (case side3 => repeat (first | exact HR1.out | (with_reducible refine Kd.C_alloc ?_ _) | (with_reducible refine Kd.C_drewN ?_ _) | (with_reducible refine Kd.C_drew ?_))); (case side4 => exact HC1.out); (case side5 => first | exact hG_ | exact Glob.drewN hG_ _ | exact Glob.below hG_ (by repeat (first | (with_reducible first | exact HB.out | apply below_alloc | apply pw_below_drewN | apply below_drew1) | exact HB.out))); rintro e w7 ⟨v167, rfl, ho0, hb⟩; refine ⟨_, rfl, ?_⟩; have n0_ := Aside0.mk (Kd.R_lower ho0 (below_size (by repeat (first | (with_reducible first | exact HB.out | apply below_alloc | apply pw_below_drewN | apply below_drew1) | exact HB.out)))); have n1_ := Aside0.mk (below_step (by repeat (first | (with_reducible first | exact HB.out | apply below_alloc | apply pw_below_drewN | apply below_drew1) | exact HB.out)) hb); clear HB; have HO168 := n0_; have HB := n1_; clear n0_ n1_; (try clear hb); (try clear hb2); (try clear hk); (try clear hi); (try clear ho0)) | ((with_reducible refine gate_callee (f := 32) rfl ?_); refine goesL_ (some 29) rfl rfl Tryd.func32 (by kernel_rfl) rfl #[.slice A0 l0.length c0] rfl (by (try simp only [List.map_toArray, List.map_cons, List.map_nil]); first | done | rfl | (simp only [List.length_drop, List.length_take]; rfl)) ?_; (with_reducible refine (polish_Ends.calls k _ _ l0 t169 t170 _ ?side1 ?side2 ?side3 A6.out).mono ?_); (case side1 => repeat (first | exact (Kd.C_below HR0.out HB.out) | (with_reducible refine Kd.C_alloc ?_ _) | (with_reducible refine Kd.C_drewN ?_ _) | (with_reducible refine Kd.C_drew ?_))); (case side2 => exact HC0.out); (case side3 => first | exact hG_ | exact Glob.drewN hG_ _ | exact Glob.below hG_ (by repeat (first | (with_reducible first | exact HB.out | apply below_alloc | apply pw_below_drewN | apply below_drew1) | exact HB.out))); rintro e w8 ⟨v171, rfl, ho0, hb⟩; refine ⟨_, rfl, ?_⟩; have n0_ := Aside0.mk (Kd.R_below (by (with_reducible repeat (first | apply Kd.R_alloc | apply Kd.R_drewN | apply Kd.R_drew)); exact HO168.out) hb); have n1_ := Aside0.mk (Kd.R_lower ho0 (below_size (by repeat (first | (with_reducible first | exact HB.out | apply below_alloc | apply pw_below_drewN | apply below_drew1) | exact HB.out)))); have n2_ := Aside0.mk (below_step (by repeat (first | (with_reducible first | exact HB.out | apply below_alloc | apply pw_below_drewN | apply below_drew1) | exact HB.out)) hb); clear HO168; clear HB; have HO168 := n0_; have HO172 := n1_; have HB := n2_; clear n0_ n1_ n2_; (try clear hb); (try clear hb2); (try clear hk); (try clear hi); (try clear ho0)))
  go_loopg [12, 13, 34] k (fun kq v12 v13 v34 w' => ∃ (x12_1 : Int) (x13_1 : Int) (x34_1 : Int), v12 = .int .i64 x12_1 ∧ v13 = .int .i64 x13_1 ∧ v34 = .int .i64 x34_1 ∧ Aside0 (logic_Meets.l0 kq t165 t169 x12_1 x13_1 l0 (l0.length : Int) x34_1 = some (r1, r2)) ∧ Aside0 (kq ≤ k) ∧ Aside0 (Kd.R Kd.bool 4 w' w.heap.size (fun _ => True) v167 t165) ∧ Aside0 (Kd.R (Kd.int .i64) 3 w' w.heap.size (fun _ => True) v171 t169) ∧ Aside0 (Below w.heap.size w w'))
  case atStart => exact ⟨(0), (0), (0), (by first | rfl | (simp; done) | (simp [*]; done)), (by first | rfl | (simp; done) | (simp [*]; done)), (by first | rfl | (simp; done) | (simp [*]; done)), H', ⟨Nat.le_refl _⟩, ⟨by (with_reducible repeat (first | apply Kd.R_alloc | apply Kd.R_drewN | apply Kd.R_drew)); exact HO168.out⟩, ⟨by (with_reducible repeat (first | apply Kd.R_alloc | apply Kd.R_drewN | apply Kd.R_drew)); exact HO172.out⟩, ⟨by repeat (first | (with_reducible first | exact HB.out | apply below_alloc | apply pw_below_drewN | apply below_drew1) | exact HB.out)⟩⟩
  case round =>
   clear H'
   try clear c1
   try clear c2
   try clear p2
   try clear c3
   try clear c5
   try clear c5b0
   try clear c5b1
   obtain ⟨x12_1, x13_1, x34_1, rfl, rfl, rfl, HA, HK1, HO_8, HO_10, HB⟩ := hrel
   cases gk with
   | zero => exact absurd HA.out (by simp [logic_Meets.l0])
   | succ k1 =>
    have H := HA.out
    clear HA
    simp only [logic_Meets.l0] at H
    by_cases c9 : x34_1 < (l0.length : Int)
    ·
     rw [if_pos c9] at H
     have c9b0 : decide (x34_1 < (l0.length : Int)) = true := decide_eq_true c9
     clear c9
     by_cases c10 : 0 ≤ x34_1
     ·
      rw [if_pos c10] at H
      have c10b0 : decide (0 ≤ x34_1) = true := decide_eq_true c10
      clear c10
      by_cases c11 : x34_1 < (l0.length : Int)
      ·
       rw [if_pos c11] at H
       have c11b0 : decide (x34_1 < (l0.length : Int)) = true := decide_eq_true c11
       clear c11
       replace H := Option.bind_eq_some_iff.mp H
       obtain ⟨t175, A120, H⟩ := H
       replace H : (if t175 = true then (logic_Meets.j1 k1 t165 t169 x12_1 x13_1 x34_1 true l0 (l0.length : Int) x34_1 ((rd_T51 l0 x34_1).f0)) else (logic_Meets.l0 k1 t165 t169 x12_1 x13_1 l0 (l0.length : Int) (wrap64 (x34_1 + 1)))) = some (r1, r2) := H
       have A12 := Aside0.mk A120
       clear A120
       by_cases c13 : t175 = true
       ·
        subst c13
        have H1 : (logic_Meets.j1 k1 t165 t169 x12_1 x13_1 x34_1 true l0 (l0.length : Int) x34_1 ((rd_T51 l0 x34_1).f0)) = some (r1, r2) := by rw [if_pos rfl] at H; exact H
        clear H
        have H := H1
        clear H1
        have HC14 := Aside0.mk H
        clear H
        have p173 : 0 ≤ (x34_1 : Int) := of_decide_eq_true (by first | (with_reducible assumption) | assumption)
        have q173 : x34_1 < (l0.length : Int) := of_decide_eq_true (by first | (with_reducible assumption) | assumption)
        obtain ⟨ad173, e173, hx173_0, hx173_1⟩ := at_T51 HR0.out x34_1 p173 q173
        cases e173
        replace hx173_0 := (HB.out.cell (World.block_lt_of_cell? w _ hx173_0)).trans hx173_0
        replace hx173_1 := (HB.out.cell (World.block_lt_of_cell? w _ hx173_1)).trans hx173_1
        replace p173 := eq_true p173
        replace q173 := eq_true q173
        go_upto_region 11 with (first | ((with_reducible refine gate_dst (N := 15) rfl ?_); refine box_event ?hg (N := 15) ?hd (cs := #[.int .i64 0, .int .i64 0]) (t := 51) ?hr ?_; (case hd => rfl); (case hg => rfl); (case hr => first | (go_simp; done) | (go_simp; rfl)); intro gb174 hg w15 hbox hb; have n0_ := Aside0.mk (Kd.R_below (by (with_reducible repeat (first | apply Kd.R_alloc | apply Kd.R_drewN | apply Kd.R_drew)); exact HO_8.out) hb); have n1_ := Aside0.mk (Kd.R_below (by (with_reducible repeat (first | apply Kd.R_alloc | apply Kd.R_drewN | apply Kd.R_drew)); exact HO_10.out) hb); have n2_ := Aside0.mk (below_step (by repeat (first | (with_reducible first | exact HB.out | apply below_alloc | apply pw_below_drewN | apply below_drew1) | exact HB.out)) hb); have n3_ := Aside0.mk (hbox); have n4_ := Aside0.mk ((by rw [hg]; exact (below_size (by repeat (first | (with_reducible first | exact HB.out | apply below_alloc | apply pw_below_drewN | apply below_drew1) | exact HB.out))) : w.heap.size ≤ gb174)); have n5_ := Aside0.mk ((by rw [hg]; exact (below_size (by repeat (first | (with_reducible first | exact HB.out | apply below_alloc | apply pw_below_drewN | apply below_drew1) | exact HB.out))) : w.heap.size ≤ gb174)); clear HO_8; clear HO_10; clear HB; have HO_8 := n0_; have HO_10 := n1_; have HB := n2_; have BK174 := n3_; have GW174 := n4_; have GE174 := n5_; clear n0_ n1_ n2_ n3_ n4_ n5_; clear hb hbox hg; have hcz16_0 : w15.cell? ⟨gb174, 0, none⟩ = some (.int .i64 0) := (blk_cell BK174.out 0).trans rfl; have hcz16_1 : w15.cell? ⟨gb174, 1, none⟩ = some (.int .i64 0) := (blk_cell BK174.out 1).trans rfl; have hfz16_0 := blk_frozen BK174.out 0; have hfz16_1 := blk_frozen BK174.out 1) | ((with_reducible refine gate_callee (f := 31) rfl ?_); refine goesL_ (some 41) rfl rfl Tryd.func31 (by kernel_rfl) rfl #[.int .i64 ((rd_T51 l0 x34_1).f0)] rfl (by (try simp only [List.map_toArray, List.map_cons, List.map_nil]); first | done | rfl | (simp only [List.length_drop, List.length_take]; rfl)) ?_; (with_reducible refine (logic_ahead.calls ((rd_T51 l0 x34_1).f0) true _ A12.out).mono ?_); rintro e w' ⟨rfl, ⟨nd, rfl⟩⟩; refine ⟨_, rfl, ?_⟩))
        (try simp only [Act.put, List.setIfInBounds_toArray, List.set_cons_zero, List.set_cons_succ])
        go_cut [44] (fun v44 wc => ∃ (kq : Nat) (x44_13 : Int), v44 = .int .i64 x44_13 ∧ Aside0 (logic_Meets.j1 kq t165 t169 x12_1 x13_1 x34_1 true l0 (l0.length : Int) x34_1 x44_13 = some (r1, r2)) ∧ Aside0 (kq ≤ k1) ∧ Aside0 (Kd.R Kd.bool 4 wc w.heap.size (fun _ => True) v167 t165) ∧ Aside0 (Kd.R (Kd.int .i64) 3 wc w.heap.size (fun _ => True) v171 t169) ∧ Aside0 (wc.heap[gb174]? = some (.cells #[.int .i64 ((rd_T51 l0 x34_1).f0), .int .i64 ((rd_T51 l0 x34_1).f1)] 51 (0, 0))) ∧ Aside0 (Below w.heap.size w wc))
        case first =>
         have H := HC14.out
         clear HC14
         have H' := Aside0.mk H
         clear H
         have hcz17_0 : w15.cell? ⟨gb174, 0, none⟩ = some (.int .i64 0) := (blk_cell BK174.out 0).trans rfl
         have hcz17_1 : w15.cell? ⟨gb174, 1, none⟩ = some (.int .i64 0) := (blk_cell BK174.out 1).trans rfl
         have hfz17_0 := blk_frozen BK174.out 0
         have hfz17_1 := blk_frozen BK174.out 1
         go_wp2
         go_meet
         case rel => exact ⟨_, ((rd_T51 l0 x34_1).f0), (by first | rfl | (simp; done) | (simp [*]; done)), H', ⟨by have := HK1.out; first | omega | exact Nat.le_refl _⟩, ⟨by (with_reducible repeat (first | apply Kd.R_alloc | apply Kd.R_drewN | apply Kd.R_drew)); exact Kd.R_mono (Kd.R_far (p := ⟨gb174, 1, none⟩) (Kd.R_far (p := ⟨gb174, 0, none⟩) (Kd.R_types HO_8.out BK174.out (by decide)) (fun _ hk => hk.2) (.int .i64 ((rd_T51 l0 x34_1).f0))) (fun _ hk => hk.2) (.int .i64 ((rd_T51 l0 x34_1).f1))) (fun _ hk => trivial)⟩, ⟨by (with_reducible repeat (first | apply Kd.R_alloc | apply Kd.R_drewN | apply Kd.R_drew)); exact Kd.R_mono (Kd.R_far (p := ⟨gb174, 1, none⟩) (Kd.R_far (p := ⟨gb174, 0, none⟩) (Kd.R_types HO_10.out BK174.out (by decide)) (fun _ hk => hk.2) (.int .i64 ((rd_T51 l0 x34_1).f0))) (fun _ hk => hk.2) (.int .i64 ((rd_T51 l0 x34_1).f1))) (fun _ hk => trivial)⟩, ⟨by (with_reducible repeat (first | refine blk_drewN ?_ _ | refine blk_drew ?_ | refine blk_alloc ?_ _)); refine blk_put (cs := #[.int .i64 ((rd_T51 l0 x34_1).f0), .int .i64 0]) ?_ 1 _ rfl; (with_reducible repeat (first | refine blk_drewN ?_ _ | refine blk_drew ?_ | refine blk_alloc ?_ _)); refine blk_put (cs := #[.int .i64 0, .int .i64 0]) ?_ 0 _ rfl; (with_reducible repeat (first | refine blk_drewN ?_ _ | refine blk_drew ?_ | refine blk_alloc ?_ _)); exact BK174.out⟩, ⟨by repeat (first | (with_reducible first | exact HB.out | apply below_alloc | apply pw_below_drewN | apply below_drew1 | refine below_set ?_ GE174.out) | exact HB.out)⟩⟩
        case rest =>
         clear HC14
         try clear c1
         try clear p1
         try clear q1
         try clear hx1
         try clear c2
         try clear p2
         try clear c3
         try clear c5
         try clear c5b0
         try clear c5b1
         try clear p6
         try clear c9
         try clear c9b0
         try clear c10
         try clear c10b0
         try clear c11
         try clear c11b0
         try clear c13
         try clear p17
         try clear q17
         try clear hx17
         try clear hcz16_0
         try clear hcz16_1
         try clear hcz17_0
         try clear hcz17_1
         try clear hfz16_0
         try clear hfz16_1
         try clear hfz17_0
         try clear hfz17_1
         try clear hx173_0
         try clear hx173_1
         try clear p173
         try clear p2
         try clear q173
         obtain ⟨kq, x44_13, rfl, HA, HJ13, HO_8, HO_10, BK174, HB⟩ := hcut
         cases kq with
         | zero => exact absurd HA.out (by simp [logic_Meets.j1])
         | succ kj13 =>
          have H := HA.out
          clear HA
          simp only [logic_Meets.j1] at H
          by_cases c18 : x44_13 = 17
          ·
           rw [if_pos c18] at H
           have c18b0 : (x44_13 == 17) = true := beq_iff_eq.mpr c18
           have c18b1 : (x44_13 != 17) = false := bne_eq_false_iff_eq.mpr c18
           clear c18
           by_cases c19 : 0 ≤ x34_1
           ·
            rw [if_pos c19] at H
            have c19b0 : decide (0 ≤ x34_1) = true := decide_eq_true c19
            clear c19
            by_cases c20 : x34_1 < (t165.length : Int)
            ·
             rw [if_pos c20] at H
             have c20b0 : decide (x34_1 < (t165.length : Int)) = true := decide_eq_true c20
             clear c20
             obtain ⟨bq21, hbq21⟩ : ∃ b_ : Bool, b_ = (rdOf false t165 x34_1) := ⟨_, rfl⟩
             replace H : (if bq21 = true then (if 0 ≤ (wrap64 (x34_1 + 1)) then (if (wrap64 (x34_1 + 1)) < (t165.length : Int) then (if rdOf false t165 (wrap64 (x34_1 + 1)) = true then (if 0 ≤ x13_1 then (logic_Meets.l0 kj13 t165 t169 (Go.bits .or .i64 x12_1 (shl .i64 1 x13_1)) (wrap64 (x13_1 + 1)) l0 (l0.length : Int) (wrap64 (x34_1 + 1))) else (none)) else (logic_Meets.l0 kj13 t165 t169 x12_1 (wrap64 (x13_1 + 1)) l0 (l0.length : Int) (wrap64 (x34_1 + 1)))) else (none)) else (none)) else (if 0 ≤ x13_1 then (logic_Meets.l0 kj13 t165 t169 (Go.bits .or .i64 x12_1 (shl .i64 1 x13_1)) (wrap64 (x13_1 + 1)) l0 (l0.length : Int) (wrap64 (x34_1 + 1))) else (none))) = some (r1, r2) := by rw [← hbq21] at H; exact H
             have Nbq21 := Aside0.mk hbq21
             clear hbq21
             by_cases c22 : bq21 = true
             ·
              subst c22
              have H1 : (if 0 ≤ (wrap64 (x34_1 + 1)) then (if (wrap64 (x34_1 + 1)) < (t165.length : Int) then (if rdOf false t165 (wrap64 (x34_1 + 1)) = true then (if 0 ≤ x13_1 then (logic_Meets.l0 kj13 t165 t169 (Go.bits .or .i64 x12_1 (shl .i64 1 x13_1)) (wrap64 (x13_1 + 1)) l0 (l0.length : Int) (wrap64 (x34_1 + 1))) else (none)) else (logic_Meets.l0 kj13 t165 t169 x12_1 (wrap64 (x13_1 + 1)) l0 (l0.length : Int) (wrap64 (x34_1 + 1)))) else (none)) else (none)) = some (r1, r2) := by rw [if_pos rfl] at H; exact H
              clear H
              have H := H1
              clear H1
              obtain ⟨ji23, hji23⟩ : ∃ j_ : Int, (wrap64 (x34_1 + 1)) = j_ := ⟨_, rfl⟩
              replace H : (if 0 ≤ (ji23) then (if (ji23) < (t165.length : Int) then (if rdOf false t165 (ji23) = true then (if 0 ≤ x13_1 then (logic_Meets.l0 kj13 t165 t169 (Go.bits .or .i64 x12_1 (shl .i64 1 x13_1)) (wrap64 (x13_1 + 1)) l0 (l0.length : Int) ji23) else (none)) else (logic_Meets.l0 kj13 t165 t169 x12_1 (wrap64 (x13_1 + 1)) l0 (l0.length : Int) ji23)) else (none)) else (none)) = some (r1, r2) := by first | (rw [hji23] at H; exact H) | (simp only [hji23] at H ⊢; exact H)
              have hji23w : (IntKind.i64.wrap (x34_1 + 1)) = ji23 := (i64_w _).trans hji23
              by_cases c24 : 0 ≤ (ji23)
              ·
               rw [if_pos c24] at H
               have c24b0 : decide (0 ≤ (ji23)) = true := decide_eq_true c24
               clear c24
               by_cases c25 : (ji23) < (t165.length : Int)
               ·
                rw [if_pos c25] at H
                have c25b0 : decide ((ji23) < (t165.length : Int)) = true := decide_eq_true c25
                clear c25
                obtain ⟨bq26, hbq26⟩ : ∃ b_ : Bool, b_ = (rdOf false t165 (ji23)) := ⟨_, rfl⟩
                replace H : (if bq26 = true then (if 0 ≤ x13_1 then (logic_Meets.l0 kj13 t165 t169 (Go.bits .or .i64 x12_1 (shl .i64 1 x13_1)) (wrap64 (x13_1 + 1)) l0 (l0.length : Int) ji23) else (none)) else (logic_Meets.l0 kj13 t165 t169 x12_1 (wrap64 (x13_1 + 1)) l0 (l0.length : Int) ji23)) = some (r1, r2) := by rw [← hbq26] at H; exact H
                have Nbq26 := Aside0.mk hbq26
                clear hbq26
                by_cases c27 : bq26 = true
                ·
                 subst c27
                 have H1 : (if 0 ≤ x13_1 then (logic_Meets.l0 kj13 t165 t169 (Go.bits .or .i64 x12_1 (shl .i64 1 x13_1)) (wrap64 (x13_1 + 1)) l0 (l0.length : Int) ji23) else (none)) = some (r1, r2) := by rw [if_pos rfl] at H; exact H
                 clear H
                 have H := H1
                 clear H1
                 by_cases c28 : 0 ≤ x13_1
                 ·
                  rw [if_pos c28] at H
                  have c28b0 := eq_true c28
                  have c28b1 : decide (0 ≤ x13_1) = true := decide_eq_true c28
                  clear c28
                  obtain ⟨ji29, hji29⟩ : ∃ j_ : Int, (shl .i64 1 x13_1) = j_ := ⟨_, rfl⟩
                  replace H : (logic_Meets.l0 kj13 t165 t169 (Go.bits .or .i64 x12_1 (ji29)) (wrap64 (x13_1 + 1)) l0 (l0.length : Int) ji23) = some (r1, r2) := by first | (rw [hji29] at H; exact H) | (simp only [hji29] at H ⊢; exact H)
                  have hji29_ : (IntKind.i64.wrap (1 * 2 ^ min x13_1.toNat 64)) = ji29 := hji29
                  have hji29z : x13_1 ≤ 64 → (IntKind.i64.wrap (1 * 2 ^ x13_1.toNat)) = ji29 := shl_small hji29
                  have hji29u : (IntKind.i64.wrap (2 ^ min x13_1.toNat 64)) = ji29 := by have h_ := hji29_; rw [Int.one_mul] at h_; exact h_
                  have hji29v : x13_1 ≤ 64 → (IntKind.i64.wrap (2 ^ x13_1.toNat)) = ji29 := fun hle_ => by have h_ := hji29z hle_; rw [Int.one_mul] at h_; exact h_
                  have hji29y : (wrap64 (1 * 2 ^ min x13_1.toNat 64)) = ji29 := (i64_w _).symm.trans hji29_
                  have hji29x : x13_1 ≤ 64 → (wrap64 (1 * 2 ^ x13_1.toNat)) = ji29 := fun h_ => (i64_w _).symm.trans (hji29z h_)
                  have H' := Aside0.mk H
                  clear H
                  obtain ⟨Ao30, co30, eo30⟩ := Kd.R_slice HO_8.out
                  subst eo30
                  have p176 : 0 ≤ (x34_1 : Int) := of_decide_eq_true (by first | (with_reducible assumption) | assumption)
                  have q176 : x34_1 < (t165.length : Int) := of_decide_eq_true (by first | (with_reducible assumption) | assumption)
                  obtain ⟨ad176, e176, hx176_0⟩ := Kd.at_bool (Kd.R_reads' HO_8.out).2.2 x34_1 p176 q176
                  (try rw [← Nbq21.out] at hx176_0)
                  (try rw [← Nbq26.out] at hx176_0)
                  cases e176
                  replace p176 := eq_true p176
                  replace q176 := eq_true q176
                  have p177 : 0 ≤ ((ji23) : Int) := of_decide_eq_true (by first | (with_reducible assumption) | assumption)
                  have q177 : (ji23) < (t165.length : Int) := of_decide_eq_true (by first | (with_reducible assumption) | assumption)
                  obtain ⟨ad177, e177, hx177_0⟩ := Kd.at_bool (Kd.R_reads' HO_8.out).2.2 (ji23) p177 q177
                  (try rw [← Nbq21.out] at hx177_0)
                  (try rw [← Nbq26.out] at hx177_0)
                  obtain rfl : ad176 = ad177 := (by injection e177)
                  replace p177 := eq_true p177
                  replace q177 := eq_true q177
                  go_wp2
                  go_roundg kj13
                  case measure => have := HK1.out; have := HJ13.out; omega
                  case rel => exact ⟨(Go.bits .or .i64 x12_1 (ji29)), (wrap64 (x13_1 + 1)), (ji23), (by first | rfl | (simp; done) | (simp only [← hji29] <;> (first | rfl | simp)) | (simp [*]; done)), (by first | rfl | (simp; done) | (simp [*]; done)), (by first | rfl | (simp; done) | (simp only [← hji23] <;> (first | rfl | simp)) | (simp [*]; done)), (by first | exact H' | (rw [hji29]; exact H') | (rw [hji23]; exact H') | (rw [hji23, hji29]; exact H') | (rw [hji29, hji23]; exact H')), ⟨by have := HK1.out; have := HJ13.out; omega⟩, ⟨by (with_reducible repeat (first | apply Kd.R_alloc | apply Kd.R_drewN | apply Kd.R_drew)); exact HO_8.out⟩, ⟨by (with_reducible repeat (first | apply Kd.R_alloc | apply Kd.R_drewN | apply Kd.R_drew)); exact HO_10.out⟩, ⟨by repeat (first | (with_reducible first | exact HB.out | apply below_alloc | apply pw_below_drewN | apply below_drew1 | refine below_set ?_ GE174.out) | exact HB.out)⟩⟩
                 ·
                  rw [if_neg c28] at H
                  exact absurd H (by simp)
                ·
                 replace c27 := Bool.eq_false_iff.mpr c27
                 subst c27
                 have H1 : (logic_Meets.l0 kj13 t165 t169 x12_1 (wrap64 (x13_1 + 1)) l0 (l0.length : Int) ji23) = some (r1, r2) := by rw [if_neg (show ¬ (false = true) by decide)] at H; exact H
                 clear H
                 have H := H1
                 clear H1
                 have H' := Aside0.mk H
                 clear H
                 obtain ⟨Ao31, co31, eo31⟩ := Kd.R_slice HO_8.out
                 subst eo31
                 have p176 : 0 ≤ (x34_1 : Int) := of_decide_eq_true (by first | (with_reducible assumption) | assumption)
                 have q176 : x34_1 < (t165.length : Int) := of_decide_eq_true (by first | (with_reducible assumption) | assumption)
                 obtain ⟨ad176, e176, hx176_0⟩ := Kd.at_bool (Kd.R_reads' HO_8.out).2.2 x34_1 p176 q176
                 (try rw [← Nbq21.out] at hx176_0)
                 (try rw [← Nbq26.out] at hx176_0)
                 cases e176
                 replace p176 := eq_true p176
                 replace q176 := eq_true q176
                 have p177 : 0 ≤ ((ji23) : Int) := of_decide_eq_true (by first | (with_reducible assumption) | assumption)
                 have q177 : (ji23) < (t165.length : Int) := of_decide_eq_true (by first | (with_reducible assumption) | assumption)
                 obtain ⟨ad177, e177, hx177_0⟩ := Kd.at_bool (Kd.R_reads' HO_8.out).2.2 (ji23) p177 q177
                 (try rw [← Nbq21.out] at hx177_0)
                 (try rw [← Nbq26.out] at hx177_0)
                 obtain rfl : ad176 = ad177 := (by injection e177)
                 replace p177 := eq_true p177
                 replace q177 := eq_true q177
                 go_wp2
                 go_roundg kj13
                 case measure => have := HK1.out; have := HJ13.out; omega
                 case rel => exact ⟨(x12_1), (wrap64 (x13_1 + 1)), (ji23), (by first | rfl | (simp; done) | (simp [*]; done)), (by first | rfl | (simp; done) | (simp [*]; done)), (by first | rfl | (simp; done) | (simp only [← hji23] <;> (first | rfl | simp)) | (simp [*]; done)), (by first | exact H' | (rw [hji29]; exact H') | (rw [hji23]; exact H') | (rw [hji23, hji29]; exact H') | (rw [hji29, hji23]; exact H')), ⟨by have := HK1.out; have := HJ13.out; omega⟩, ⟨by (with_reducible repeat (first | apply Kd.R_alloc | apply Kd.R_drewN | apply Kd.R_drew)); exact HO_8.out⟩, ⟨by (with_reducible repeat (first | apply Kd.R_alloc | apply Kd.R_drewN | apply Kd.R_drew)); exact HO_10.out⟩, ⟨by repeat (first | (with_reducible first | exact HB.out | apply below_alloc | apply pw_below_drewN | apply below_drew1 | refine below_set ?_ GE174.out) | exact HB.out)⟩⟩
               ·
                rw [if_neg c25] at H
                exact absurd H (by simp)
              ·
               rw [if_neg c24] at H
               exact absurd H (by simp)
             ·
              replace c22 := Bool.eq_false_iff.mpr c22
              subst c22
              have H1 : (if 0 ≤ x13_1 then (logic_Meets.l0 kj13 t165 t169 (Go.bits .or .i64 x12_1 (shl .i64 1 x13_1)) (wrap64 (x13_1 + 1)) l0 (l0.length : Int) (wrap64 (x34_1 + 1))) else (none)) = some (r1, r2) := by rw [if_neg (show ¬ (false = true) by decide)] at H; exact H
              clear H
              have H := H1
              clear H1
              by_cases c32 : 0 ≤ x13_1
              ·
               rw [if_pos c32] at H
               have c32b0 := eq_true c32
               have c32b1 : decide (0 ≤ x13_1) = true := decide_eq_true c32
               clear c32
               obtain ⟨ji33, hji33⟩ : ∃ j_ : Int, (shl .i64 1 x13_1) = j_ := ⟨_, rfl⟩
               replace H : (logic_Meets.l0 kj13 t165 t169 (Go.bits .or .i64 x12_1 (ji33)) (wrap64 (x13_1 + 1)) l0 (l0.length : Int) (wrap64 (x34_1 + 1))) = some (r1, r2) := by first | (rw [hji33] at H; exact H) | (simp only [hji33] at H ⊢; exact H)
               have hji33_ : (IntKind.i64.wrap (1 * 2 ^ min x13_1.toNat 64)) = ji33 := hji33
               have hji33z : x13_1 ≤ 64 → (IntKind.i64.wrap (1 * 2 ^ x13_1.toNat)) = ji33 := shl_small hji33
               have hji33u : (IntKind.i64.wrap (2 ^ min x13_1.toNat 64)) = ji33 := by have h_ := hji33_; rw [Int.one_mul] at h_; exact h_
               have hji33v : x13_1 ≤ 64 → (IntKind.i64.wrap (2 ^ x13_1.toNat)) = ji33 := fun hle_ => by have h_ := hji33z hle_; rw [Int.one_mul] at h_; exact h_
               have hji33y : (wrap64 (1 * 2 ^ min x13_1.toNat 64)) = ji33 := (i64_w _).symm.trans hji33_
               have hji33x : x13_1 ≤ 64 → (wrap64 (1 * 2 ^ x13_1.toNat)) = ji33 := fun h_ => (i64_w _).symm.trans (hji33z h_)
               have H' := Aside0.mk H
               clear H
               obtain ⟨Ao34, co34, eo34⟩ := Kd.R_slice HO_8.out
               subst eo34
               have p176 : 0 ≤ (x34_1 : Int) := of_decide_eq_true (by first | (with_reducible assumption) | assumption)
               have q176 : x34_1 < (t165.length : Int) := of_decide_eq_true (by first | (with_reducible assumption) | assumption)
               obtain ⟨ad176, e176, hx176_0⟩ := Kd.at_bool (Kd.R_reads' HO_8.out).2.2 x34_1 p176 q176
               (try rw [← Nbq21.out] at hx176_0)
               cases e176
               replace p176 := eq_true p176
               replace q176 := eq_true q176
               go_wp2
               go_roundg kj13
               case measure => have := HK1.out; have := HJ13.out; omega
               case rel => exact ⟨(Go.bits .or .i64 x12_1 (ji33)), (wrap64 (x13_1 + 1)), (wrap64 (x34_1 + 1)), (by first | rfl | (simp; done) | (simp only [← hji33] <;> (first | rfl | simp)) | (simp [*]; done)), (by first | rfl | (simp; done) | (simp [*]; done)), (by first | rfl | (simp; done) | (simp [*]; done)), (by first | exact H' | (rw [hji33]; exact H') | (rw [hji29]; exact H') | (rw [hji23]; exact H') | (rw [hji23, hji29]; exact H') | (rw [hji23, hji33]; exact H') | (rw [hji29, hji23]; exact H') | (rw [hji29, hji33]; exact H') | (rw [hji33, hji23]; exact H') | (rw [hji33, hji29]; exact H')), ⟨by have := HK1.out; have := HJ13.out; omega⟩, ⟨by (with_reducible repeat (first | apply Kd.R_alloc | apply Kd.R_drewN | apply Kd.R_drew)); exact HO_8.out⟩, ⟨by (with_reducible repeat (first | apply Kd.R_alloc | apply Kd.R_drewN | apply Kd.R_drew)); exact HO_10.out⟩, ⟨by repeat (first | (with_reducible first | exact HB.out | apply below_alloc | apply pw_below_drewN | apply below_drew1 | refine below_set ?_ GE174.out) | exact HB.out)⟩⟩
              ·
               rw [if_neg c32] at H
               exact absurd H (by simp)
            ·
             rw [if_neg c20] at H
             exact absurd H (by simp)
           ·
            rw [if_neg c19] at H
            exact absurd H (by simp)
          ·
           rw [if_neg c18] at H
           have c18b0 : (x44_13 == 17) = false := beq_eq_false_iff_ne.mpr c18
           have c18b1 : (x44_13 != 17) = true := bne_iff_ne.mpr c18
           by_cases c35 : x44_13 = 18
           ·
            rw [if_pos c35] at H
            have c35b0 : (x44_13 == 18) = true := beq_iff_eq.mpr c35
            have c35b1 : (x44_13 != 18) = false := bne_eq_false_iff_eq.mpr c35
            clear c35
            by_cases c36 : 0 ≤ x34_1
            ·
             rw [if_pos c36] at H
             have c36b0 : decide (0 ≤ x34_1) = true := decide_eq_true c36
             clear c36
             by_cases c37 : x34_1 < (t165.length : Int)
             ·
              rw [if_pos c37] at H
              have c37b0 : decide (x34_1 < (t165.length : Int)) = true := decide_eq_true c37
              clear c37
              obtain ⟨bq38, hbq38⟩ : ∃ b_ : Bool, b_ = (rdOf false t165 x34_1) := ⟨_, rfl⟩
              replace H : (if bq38 = true then (if 0 ≤ x13_1 then (logic_Meets.l0 kj13 t165 t169 (Go.bits .or .i64 x12_1 (shl .i64 1 x13_1)) (wrap64 (x13_1 + 1)) l0 (l0.length : Int) (wrap64 (x34_1 + 1))) else (none)) else (if 0 ≤ (wrap64 (x34_1 + 1)) then (if (wrap64 (x34_1 + 1)) < (t165.length : Int) then (if (rdOf false t165 (wrap64 (x34_1 + 1)) = true) then (logic_Meets.l0 kj13 t165 t169 x12_1 (wrap64 (x13_1 + 1)) l0 (l0.length : Int) (wrap64 (x34_1 + 1))) else (if 0 ≤ x13_1 then (logic_Meets.l0 kj13 t165 t169 (Go.bits .or .i64 x12_1 (shl .i64 1 x13_1)) (wrap64 (x13_1 + 1)) l0 (l0.length : Int) (wrap64 (x34_1 + 1))) else (none))) else (none)) else (none))) = some (r1, r2) := by rw [← hbq38] at H; exact H
              have Nbq38 := Aside0.mk hbq38
              clear hbq38
              by_cases c39 : bq38 = true
              ·
               subst c39
               have H1 : (if 0 ≤ x13_1 then (logic_Meets.l0 kj13 t165 t169 (Go.bits .or .i64 x12_1 (shl .i64 1 x13_1)) (wrap64 (x13_1 + 1)) l0 (l0.length : Int) (wrap64 (x34_1 + 1))) else (none)) = some (r1, r2) := by rw [if_pos rfl] at H; exact H
               clear H
               have H := H1
               clear H1
               by_cases c40 : 0 ≤ x13_1
               ·
                rw [if_pos c40] at H
                have c40b0 := eq_true c40
                have c40b1 : decide (0 ≤ x13_1) = true := decide_eq_true c40
                clear c40
                obtain ⟨ji41, hji41⟩ : ∃ j_ : Int, (shl .i64 1 x13_1) = j_ := ⟨_, rfl⟩
                replace H : (logic_Meets.l0 kj13 t165 t169 (Go.bits .or .i64 x12_1 (ji41)) (wrap64 (x13_1 + 1)) l0 (l0.length : Int) (wrap64 (x34_1 + 1))) = some (r1, r2) := by first | (rw [hji41] at H; exact H) | (simp only [hji41] at H ⊢; exact H)
                have hji41_ : (IntKind.i64.wrap (1 * 2 ^ min x13_1.toNat 64)) = ji41 := hji41
                have hji41z : x13_1 ≤ 64 → (IntKind.i64.wrap (1 * 2 ^ x13_1.toNat)) = ji41 := shl_small hji41
                have hji41u : (IntKind.i64.wrap (2 ^ min x13_1.toNat 64)) = ji41 := by have h_ := hji41_; rw [Int.one_mul] at h_; exact h_
                have hji41v : x13_1 ≤ 64 → (IntKind.i64.wrap (2 ^ x13_1.toNat)) = ji41 := fun hle_ => by have h_ := hji41z hle_; rw [Int.one_mul] at h_; exact h_
                have hji41y : (wrap64 (1 * 2 ^ min x13_1.toNat 64)) = ji41 := (i64_w _).symm.trans hji41_
                have hji41x : x13_1 ≤ 64 → (wrap64 (1 * 2 ^ x13_1.toNat)) = ji41 := fun h_ => (i64_w _).symm.trans (hji41z h_)
                have H' := Aside0.mk H
                clear H
                obtain ⟨Ao42, co42, eo42⟩ := Kd.R_slice HO_8.out
                subst eo42
                have p178 : 0 ≤ (x34_1 : Int) := of_decide_eq_true (by first | (with_reducible assumption) | assumption)
                have q178 : x34_1 < (t165.length : Int) := of_decide_eq_true (by first | (with_reducible assumption) | assumption)
                obtain ⟨ad178, e178, hx178_0⟩ := Kd.at_bool (Kd.R_reads' HO_8.out).2.2 x34_1 p178 q178
                (try rw [← Nbq38.out] at hx178_0)
                cases e178
                replace p178 := eq_true p178
                replace q178 := eq_true q178
                go_wp2
                go_roundg kj13
                case measure => have := HK1.out; have := HJ13.out; omega
                case rel => exact ⟨(Go.bits .or .i64 x12_1 (ji41)), (wrap64 (x13_1 + 1)), (wrap64 (x34_1 + 1)), (by first | rfl | (simp; done) | (simp only [← hji41] <;> (first | rfl | simp)) | (simp [*]; done)), (by first | rfl | (simp; done) | (simp [*]; done)), (by first | rfl | (simp; done) | (simp [*]; done)), (by first | exact H' | (rw [hji41]; exact H') | (rw [hji33]; exact H') | (rw [hji29]; exact H') | (rw [hji23]; exact H') | (rw [hji23, hji29]; exact H') | (rw [hji23, hji33]; exact H') | (rw [hji23, hji41]; exact H') | (rw [hji29, hji23]; exact H') | (rw [hji29, hji33]; exact H') | (rw [hji29, hji41]; exact H') | (rw [hji33, hji23]; exact H') | (rw [hji33, hji29]; exact H') | (rw [hji33, hji41]; exact H') | (rw [hji41, hji23]; exact H') | (rw [hji41, hji29]; exact H') | (rw [hji41, hji33]; exact H')), ⟨by have := HK1.out; have := HJ13.out; omega⟩, ⟨by (with_reducible repeat (first | apply Kd.R_alloc | apply Kd.R_drewN | apply Kd.R_drew)); exact HO_8.out⟩, ⟨by (with_reducible repeat (first | apply Kd.R_alloc | apply Kd.R_drewN | apply Kd.R_drew)); exact HO_10.out⟩, ⟨by repeat (first | (with_reducible first | exact HB.out | apply below_alloc | apply pw_below_drewN | apply below_drew1 | refine below_set ?_ GE174.out) | exact HB.out)⟩⟩
               ·
                rw [if_neg c40] at H
                exact absurd H (by simp)
              ·
               replace c39 := Bool.eq_false_iff.mpr c39
               subst c39
               have H1 : (if 0 ≤ (wrap64 (x34_1 + 1)) then (if (wrap64 (x34_1 + 1)) < (t165.length : Int) then (if (rdOf false t165 (wrap64 (x34_1 + 1)) = true) then (logic_Meets.l0 kj13 t165 t169 x12_1 (wrap64 (x13_1 + 1)) l0 (l0.length : Int) (wrap64 (x34_1 + 1))) else (if 0 ≤ x13_1 then (logic_Meets.l0 kj13 t165 t169 (Go.bits .or .i64 x12_1 (shl .i64 1 x13_1)) (wrap64 (x13_1 + 1)) l0 (l0.length : Int) (wrap64 (x34_1 + 1))) else (none))) else (none)) else (none)) = some (r1, r2) := by rw [if_neg (show ¬ (false = true) by decide)] at H; exact H
               clear H
               have H := H1
               clear H1
               obtain ⟨ji43, hji43⟩ : ∃ j_ : Int, (wrap64 (x34_1 + 1)) = j_ := ⟨_, rfl⟩
               replace H : (if 0 ≤ (ji43) then (if (ji43) < (t165.length : Int) then (if (rdOf false t165 (ji43) = true) then (logic_Meets.l0 kj13 t165 t169 x12_1 (wrap64 (x13_1 + 1)) l0 (l0.length : Int) ji43) else (if 0 ≤ x13_1 then (logic_Meets.l0 kj13 t165 t169 (Go.bits .or .i64 x12_1 (shl .i64 1 x13_1)) (wrap64 (x13_1 + 1)) l0 (l0.length : Int) ji43) else (none))) else (none)) else (none)) = some (r1, r2) := by first | (rw [hji43] at H; exact H) | (simp only [hji43] at H ⊢; exact H)
               have hji43w : (IntKind.i64.wrap (x34_1 + 1)) = ji43 := (i64_w _).trans hji43
               by_cases c44 : 0 ≤ (ji43)
               ·
                rw [if_pos c44] at H
                have c44b0 : decide (0 ≤ (ji43)) = true := decide_eq_true c44
                clear c44
                by_cases c45 : (ji43) < (t165.length : Int)
                ·
                 rw [if_pos c45] at H
                 have c45b0 : decide ((ji43) < (t165.length : Int)) = true := decide_eq_true c45
                 clear c45
                 obtain ⟨bq46, hbq46⟩ : ∃ b_ : Bool, b_ = (rdOf false t165 (ji43)) := ⟨_, rfl⟩
                 replace H : (if (bq46 = true) then (logic_Meets.l0 kj13 t165 t169 x12_1 (wrap64 (x13_1 + 1)) l0 (l0.length : Int) ji43) else (if 0 ≤ x13_1 then (logic_Meets.l0 kj13 t165 t169 (Go.bits .or .i64 x12_1 (shl .i64 1 x13_1)) (wrap64 (x13_1 + 1)) l0 (l0.length : Int) ji43) else (none))) = some (r1, r2) := by rw [← hbq46] at H; exact H
                 have Nbq46 := Aside0.mk hbq46
                 clear hbq46
                 by_cases c47 : (bq46 = true)
                 ·
                  subst c47
                  have H1 : (logic_Meets.l0 kj13 t165 t169 x12_1 (wrap64 (x13_1 + 1)) l0 (l0.length : Int) ji43) = some (r1, r2) := by rw [if_pos rfl] at H; exact H
                  clear H
                  have H := H1
                  clear H1
                  have H' := Aside0.mk H
                  clear H
                  obtain ⟨Ao48, co48, eo48⟩ := Kd.R_slice HO_8.out
                  subst eo48
                  have p178 : 0 ≤ (x34_1 : Int) := of_decide_eq_true (by first | (with_reducible assumption) | assumption)
                  have q178 : x34_1 < (t165.length : Int) := of_decide_eq_true (by first | (with_reducible assumption) | assumption)
                  obtain ⟨ad178, e178, hx178_0⟩ := Kd.at_bool (Kd.R_reads' HO_8.out).2.2 x34_1 p178 q178
                  (try rw [← Nbq38.out] at hx178_0)
                  (try rw [← Nbq46.out] at hx178_0)
                  cases e178
                  replace p178 := eq_true p178
                  replace q178 := eq_true q178
                  have p179 : 0 ≤ ((ji43) : Int) := of_decide_eq_true (by first | (with_reducible assumption) | assumption)
                  have q179 : (ji43) < (t165.length : Int) := of_decide_eq_true (by first | (with_reducible assumption) | assumption)
                  obtain ⟨ad179, e179, hx179_0⟩ := Kd.at_bool (Kd.R_reads' HO_8.out).2.2 (ji43) p179 q179
                  (try rw [← Nbq38.out] at hx179_0)
                  (try rw [← Nbq46.out] at hx179_0)
                  obtain rfl : ad178 = ad179 := (by injection e179)
                  replace p179 := eq_true p179
                  replace q179 := eq_true q179
                  go_wp2
                  go_roundg kj13
                  case measure => have := HK1.out; have := HJ13.out; omega
                  case rel => exact ⟨(x12_1), (wrap64 (x13_1 + 1)), (ji43), (by first | rfl | (simp; done) | (simp [*]; done)), (by first | rfl | (simp; done) | (simp [*]; done)), (by first | rfl | (simp; done) | (simp only [← hji43] <;> (first | rfl | simp)) | (simp [*]; done)), (by first | exact H' | (rw [hji43]; exact H') | (rw [hji41]; exact H') | (rw [hji33]; exact H') | (rw [hji29]; exact H') | (rw [hji23]; exact H') | (rw [hji23, hji29]; exact H') | (rw [hji23, hji33]; exact H') | (rw [hji23, hji41]; exact H') | (rw [hji23, hji43]; exact H') | (rw [hji29, hji23]; exact H') | (rw [hji29, hji33]; exact H') | (rw [hji29, hji41]; exact H') | (rw [hji29, hji43]; exact H') | (rw [hji33, hji23]; exact H') | (rw [hji33, hji29]; exact H') | (rw [hji33, hji41]; exact H') | (rw [hji33, hji43]; exact H')), ⟨by have := HK1.out; have := HJ13.out; omega⟩, ⟨by (with_reducible repeat (first | apply Kd.R_alloc | apply Kd.R_drewN | apply Kd.R_drew)); exact HO_8.out⟩, ⟨by (with_reducible repeat (first | apply Kd.R_alloc | apply Kd.R_drewN | apply Kd.R_drew)); exact HO_10.out⟩, ⟨by repeat (first | (with_reducible first | exact HB.out | apply below_alloc | apply pw_below_drewN | apply below_drew1 | refine below_set ?_ GE174.out) | exact HB.out)⟩⟩
                 ·
                  replace c47 := Bool.eq_false_iff.mpr c47
                  subst c47
                  have H1 : (if 0 ≤ x13_1 then (logic_Meets.l0 kj13 t165 t169 (Go.bits .or .i64 x12_1 (shl .i64 1 x13_1)) (wrap64 (x13_1 + 1)) l0 (l0.length : Int) ji43) else (none)) = some (r1, r2) := by rw [if_neg (show ¬ (false = true) by decide)] at H; exact H
                  clear H
                  have H := H1
                  clear H1
                  by_cases c49 : 0 ≤ x13_1
                  ·
                   rw [if_pos c49] at H
                   have c49b0 := eq_true c49
                   have c49b1 : decide (0 ≤ x13_1) = true := decide_eq_true c49
                   clear c49
                   obtain ⟨ji50, hji50⟩ : ∃ j_ : Int, (shl .i64 1 x13_1) = j_ := ⟨_, rfl⟩
                   replace H : (logic_Meets.l0 kj13 t165 t169 (Go.bits .or .i64 x12_1 (ji50)) (wrap64 (x13_1 + 1)) l0 (l0.length : Int) ji43) = some (r1, r2) := by first | (rw [hji50] at H; exact H) | (simp only [hji50] at H ⊢; exact H)
                   have hji50_ : (IntKind.i64.wrap (1 * 2 ^ min x13_1.toNat 64)) = ji50 := hji50
                   have hji50z : x13_1 ≤ 64 → (IntKind.i64.wrap (1 * 2 ^ x13_1.toNat)) = ji50 := shl_small hji50
                   have hji50u : (IntKind.i64.wrap (2 ^ min x13_1.toNat 64)) = ji50 := by have h_ := hji50_; rw [Int.one_mul] at h_; exact h_
                   have hji50v : x13_1 ≤ 64 → (IntKind.i64.wrap (2 ^ x13_1.toNat)) = ji50 := fun hle_ => by have h_ := hji50z hle_; rw [Int.one_mul] at h_; exact h_
                   have hji50y : (wrap64 (1 * 2 ^ min x13_1.toNat 64)) = ji50 := (i64_w _).symm.trans hji50_
                   have hji50x : x13_1 ≤ 64 → (wrap64 (1 * 2 ^ x13_1.toNat)) = ji50 := fun h_ => (i64_w _).symm.trans (hji50z h_)
                   have H' := Aside0.mk H
                   clear H
                   obtain ⟨Ao51, co51, eo51⟩ := Kd.R_slice HO_8.out
                   subst eo51
                   have p178 : 0 ≤ (x34_1 : Int) := of_decide_eq_true (by first | (with_reducible assumption) | assumption)
                   have q178 : x34_1 < (t165.length : Int) := of_decide_eq_true (by first | (with_reducible assumption) | assumption)
                   obtain ⟨ad178, e178, hx178_0⟩ := Kd.at_bool (Kd.R_reads' HO_8.out).2.2 x34_1 p178 q178
                   (try rw [← Nbq38.out] at hx178_0)
                   (try rw [← Nbq46.out] at hx178_0)
                   cases e178
                   replace p178 := eq_true p178
                   replace q178 := eq_true q178
                   have p179 : 0 ≤ ((ji43) : Int) := of_decide_eq_true (by first | (with_reducible assumption) | assumption)
                   have q179 : (ji43) < (t165.length : Int) := of_decide_eq_true (by first | (with_reducible assumption) | assumption)
                   obtain ⟨ad179, e179, hx179_0⟩ := Kd.at_bool (Kd.R_reads' HO_8.out).2.2 (ji43) p179 q179
                   (try rw [← Nbq38.out] at hx179_0)
                   (try rw [← Nbq46.out] at hx179_0)
                   obtain rfl : ad178 = ad179 := (by injection e179)
                   replace p179 := eq_true p179
                   replace q179 := eq_true q179
                   go_wp2
                   go_roundg kj13
                   case measure => have := HK1.out; have := HJ13.out; omega
                   case rel => exact ⟨(Go.bits .or .i64 x12_1 (ji50)), (wrap64 (x13_1 + 1)), (ji43), (by first | rfl | (simp; done) | (simp only [← hji50] <;> (first | rfl | simp)) | (simp [*]; done)), (by first | rfl | (simp; done) | (simp [*]; done)), (by first | rfl | (simp; done) | (simp only [← hji43] <;> (first | rfl | simp)) | (simp [*]; done)), (by first | exact H' | (rw [hji50]; exact H') | (rw [hji43]; exact H') | (rw [hji41]; exact H') | (rw [hji33]; exact H') | (rw [hji29]; exact H') | (rw [hji23]; exact H') | (rw [hji23, hji29]; exact H') | (rw [hji23, hji33]; exact H') | (rw [hji23, hji41]; exact H') | (rw [hji23, hji43]; exact H') | (rw [hji23, hji50]; exact H') | (rw [hji29, hji23]; exact H') | (rw [hji29, hji33]; exact H') | (rw [hji29, hji41]; exact H') | (rw [hji29, hji43]; exact H') | (rw [hji29, hji50]; exact H') | (rw [hji33, hji23]; exact H') | (rw [hji33, hji29]; exact H')), ⟨by have := HK1.out; have := HJ13.out; omega⟩, ⟨by (with_reducible repeat (first | apply Kd.R_alloc | apply Kd.R_drewN | apply Kd.R_drew)); exact HO_8.out⟩, ⟨by (with_reducible repeat (first | apply Kd.R_alloc | apply Kd.R_drewN | apply Kd.R_drew)); exact HO_10.out⟩, ⟨by repeat (first | (with_reducible first | exact HB.out | apply below_alloc | apply pw_below_drewN | apply below_drew1 | refine below_set ?_ GE174.out) | exact HB.out)⟩⟩
                  ·
                   rw [if_neg c49] at H
                   exact absurd H (by simp)
                ·
                 rw [if_neg c45] at H
                 exact absurd H (by simp)
               ·
                rw [if_neg c44] at H
                exact absurd H (by simp)
             ·
              rw [if_neg c37] at H
              exact absurd H (by simp)
            ·
             rw [if_neg c36] at H
             exact absurd H (by simp)
           ·
            rw [if_neg c35] at H
            have c35b0 : (x44_13 == 18) = false := beq_eq_false_iff_ne.mpr c35
            have c35b1 : (x44_13 != 18) = true := bne_iff_ne.mpr c35
            by_cases c52 : x44_13 = 15
            ·
             rw [if_pos c52] at H
             have c52b0 : (x44_13 == 15) = true := beq_iff_eq.mpr c52
             have c52b1 : (x44_13 != 15) = false := bne_eq_false_iff_eq.mpr c52
             clear c52
             by_cases c53 : 0 ≤ x34_1
             ·
              rw [if_pos c53] at H
              have c53b0 : decide (0 ≤ x34_1) = true := decide_eq_true c53
              clear c53
              by_cases c54 : x34_1 < (t165.length : Int)
              ·
               rw [if_pos c54] at H
               have c54b0 : decide (x34_1 < (t165.length : Int)) = true := decide_eq_true c54
               clear c54
               obtain ⟨bq55, hbq55⟩ : ∃ b_ : Bool, b_ = (rdOf false t165 x34_1) := ⟨_, rfl⟩
               replace H : (if bq55 = true then (if 0 ≤ (wrap64 (x34_1 + 1)) then (if (wrap64 (x34_1 + 1)) < (t169.length : Int) then (if 0 ≤ (rd t169 (wrap64 (x34_1 + 1))) then (if (rd t169 (wrap64 (x34_1 + 1))) < (t165.length : Int) then (if rdOf false t165 (rd t169 (wrap64 (x34_1 + 1))) = true then (if 0 ≤ x13_1 then (logic_Meets.l0 kj13 t165 t169 (Go.bits .or .i64 x12_1 (shl .i64 1 x13_1)) (wrap64 (x13_1 + 1)) l0 (l0.length : Int) (wrap64 (x34_1 + 1))) else (none)) else (logic_Meets.l0 kj13 t165 t169 x12_1 (wrap64 (x13_1 + 1)) l0 (l0.length : Int) (wrap64 (x34_1 + 1)))) else (none)) else (none)) else (none)) else (none)) else (if 0 ≤ x13_1 then (logic_Meets.l0 kj13 t165 t169 (Go.bits .or .i64 x12_1 (shl .i64 1 x13_1)) (wrap64 (x13_1 + 1)) l0 (l0.length : Int) (wrap64 (x34_1 + 1))) else (none))) = some (r1, r2) := by rw [← hbq55] at H; exact H
               have Nbq55 := Aside0.mk hbq55
               clear hbq55
               by_cases c56 : bq55 = true
               ·
                subst c56
                have H1 : (if 0 ≤ (wrap64 (x34_1 + 1)) then (if (wrap64 (x34_1 + 1)) < (t169.length : Int) then (if 0 ≤ (rd t169 (wrap64 (x34_1 + 1))) then (if (rd t169 (wrap64 (x34_1 + 1))) < (t165.length : Int) then (if rdOf false t165 (rd t169 (wrap64 (x34_1 + 1))) = true then (if 0 ≤ x13_1 then (logic_Meets.l0 kj13 t165 t169 (Go.bits .or .i64 x12_1 (shl .i64 1 x13_1)) (wrap64 (x13_1 + 1)) l0 (l0.length : Int) (wrap64 (x34_1 + 1))) else (none)) else (logic_Meets.l0 kj13 t165 t169 x12_1 (wrap64 (x13_1 + 1)) l0 (l0.length : Int) (wrap64 (x34_1 + 1)))) else (none)) else (none)) else (none)) else (none)) = some (r1, r2) := by rw [if_pos rfl] at H; exact H
                clear H
                have H := H1
                clear H1
                obtain ⟨ji57, hji57⟩ : ∃ j_ : Int, (wrap64 (x34_1 + 1)) = j_ := ⟨_, rfl⟩
                replace H : (if 0 ≤ (ji57) then (if (ji57) < (t169.length : Int) then (if 0 ≤ (rd t169 (ji57)) then (if (rd t169 (ji57)) < (t165.length : Int) then (if rdOf false t165 (rd t169 (ji57)) = true then (if 0 ≤ x13_1 then (logic_Meets.l0 kj13 t165 t169 (Go.bits .or .i64 x12_1 (shl .i64 1 x13_1)) (wrap64 (x13_1 + 1)) l0 (l0.length : Int) ji57) else (none)) else (logic_Meets.l0 kj13 t165 t169 x12_1 (wrap64 (x13_1 + 1)) l0 (l0.length : Int) ji57)) else (none)) else (none)) else (none)) else (none)) = some (r1, r2) := by first | (rw [hji57] at H; exact H) | (simp only [hji57] at H ⊢; exact H)
                have hji57w : (IntKind.i64.wrap (x34_1 + 1)) = ji57 := (i64_w _).trans hji57
                by_cases c58 : 0 ≤ (ji57)
                ·
                 rw [if_pos c58] at H
                 have c58b0 : decide (0 ≤ (ji57)) = true := decide_eq_true c58
                 clear c58
                 by_cases c59 : (ji57) < (t169.length : Int)
                 ·
                  rw [if_pos c59] at H
                  have c59b0 : decide ((ji57) < (t169.length : Int)) = true := decide_eq_true c59
                  clear c59
                  by_cases c60 : 0 ≤ (rd t169 (ji57))
                  ·
                   rw [if_pos c60] at H
                   have c60b0 : decide (0 ≤ (rd t169 (ji57))) = true := decide_eq_true c60
                   clear c60
                   by_cases c61 : (rd t169 (ji57)) < (t165.length : Int)
                   ·
                    rw [if_pos c61] at H
                    have c61b0 : decide ((rd t169 (ji57)) < (t165.length : Int)) = true := decide_eq_true c61
                    clear c61
                    obtain ⟨bq62, hbq62⟩ : ∃ b_ : Bool, b_ = (rdOf false t165 (rd t169 (ji57))) := ⟨_, rfl⟩
                    replace H : (if bq62 = true then (if 0 ≤ x13_1 then (logic_Meets.l0 kj13 t165 t169 (Go.bits .or .i64 x12_1 (shl .i64 1 x13_1)) (wrap64 (x13_1 + 1)) l0 (l0.length : Int) ji57) else (none)) else (logic_Meets.l0 kj13 t165 t169 x12_1 (wrap64 (x13_1 + 1)) l0 (l0.length : Int) ji57)) = some (r1, r2) := by rw [← hbq62] at H; exact H
                    have Nbq62 := Aside0.mk hbq62
                    clear hbq62
                    by_cases c63 : bq62 = true
                    ·
                     subst c63
                     have H1 : (if 0 ≤ x13_1 then (logic_Meets.l0 kj13 t165 t169 (Go.bits .or .i64 x12_1 (shl .i64 1 x13_1)) (wrap64 (x13_1 + 1)) l0 (l0.length : Int) ji57) else (none)) = some (r1, r2) := by rw [if_pos rfl] at H; exact H
                     clear H
                     have H := H1
                     clear H1
                     by_cases c64 : 0 ≤ x13_1
                     ·
                      rw [if_pos c64] at H
                      have c64b0 := eq_true c64
                      have c64b1 : decide (0 ≤ x13_1) = true := decide_eq_true c64
                      clear c64
                      obtain ⟨ji65, hji65⟩ : ∃ j_ : Int, (shl .i64 1 x13_1) = j_ := ⟨_, rfl⟩
                      replace H : (logic_Meets.l0 kj13 t165 t169 (Go.bits .or .i64 x12_1 (ji65)) (wrap64 (x13_1 + 1)) l0 (l0.length : Int) ji57) = some (r1, r2) := by first | (rw [hji65] at H; exact H) | (simp only [hji65] at H ⊢; exact H)
                      have hji65_ : (IntKind.i64.wrap (1 * 2 ^ min x13_1.toNat 64)) = ji65 := hji65
                      have hji65z : x13_1 ≤ 64 → (IntKind.i64.wrap (1 * 2 ^ x13_1.toNat)) = ji65 := shl_small hji65
                      have hji65u : (IntKind.i64.wrap (2 ^ min x13_1.toNat 64)) = ji65 := by have h_ := hji65_; rw [Int.one_mul] at h_; exact h_
                      have hji65v : x13_1 ≤ 64 → (IntKind.i64.wrap (2 ^ x13_1.toNat)) = ji65 := fun hle_ => by have h_ := hji65z hle_; rw [Int.one_mul] at h_; exact h_
                      have hji65y : (wrap64 (1 * 2 ^ min x13_1.toNat 64)) = ji65 := (i64_w _).symm.trans hji65_
                      have hji65x : x13_1 ≤ 64 → (wrap64 (1 * 2 ^ x13_1.toNat)) = ji65 := fun h_ => (i64_w _).symm.trans (hji65z h_)
                      have H' := Aside0.mk H
                      clear H
                      obtain ⟨Ao66, co66, eo66⟩ := Kd.R_slice HO_8.out
                      subst eo66
                      have p180 : 0 ≤ (x34_1 : Int) := of_decide_eq_true (by first | (with_reducible assumption) | assumption)
                      have q180 : x34_1 < (t165.length : Int) := of_decide_eq_true (by first | (with_reducible assumption) | assumption)
                      obtain ⟨ad180, e180, hx180_0⟩ := Kd.at_bool (Kd.R_reads' HO_8.out).2.2 x34_1 p180 q180
                      (try rw [← Nbq55.out] at hx180_0)
                      (try rw [← Nbq62.out] at hx180_0)
                      cases e180
                      replace p180 := eq_true p180
                      replace q180 := eq_true q180
                      obtain ⟨Ao67, co67, eo67⟩ := Kd.R_slice HO_10.out
                      subst eo67
                      have p181 : 0 ≤ ((ji57) : Int) := of_decide_eq_true (by first | (with_reducible assumption) | assumption)
                      have q181 : (ji57) < (t169.length : Int) := of_decide_eq_true (by first | (with_reducible assumption) | assumption)
                      obtain ⟨ad181, e181, hx181_0⟩ := Kd.at_int (Kd.R_reads' HO_10.out).2.2 (ji57) p181 q181
                      cases e181
                      replace p181 := eq_true p181
                      replace q181 := eq_true q181
                      have p182 : 0 ≤ ((rd t169 (ji57)) : Int) := of_decide_eq_true (by first | (with_reducible assumption) | assumption)
                      have q182 : (rd t169 (ji57)) < (t165.length : Int) := of_decide_eq_true (by first | (with_reducible assumption) | assumption)
                      obtain ⟨ad182, e182, hx182_0⟩ := Kd.at_bool (Kd.R_reads' HO_8.out).2.2 (rd t169 (ji57)) p182 q182
                      (try rw [← Nbq55.out] at hx182_0)
                      (try rw [← Nbq62.out] at hx182_0)
                      obtain rfl : ad180 = ad182 := (by injection e182)
                      replace p182 := eq_true p182
                      replace q182 := eq_true q182
                      go_wp2
                      go_roundg kj13
                      case measure => have := HK1.out; have := HJ13.out; omega
                      case rel => exact ⟨(Go.bits .or .i64 x12_1 (ji65)), (wrap64 (x13_1 + 1)), (ji57), (by first | rfl | (simp; done) | (simp only [← hji65] <;> (first | rfl | simp)) | (simp [*]; done)), (by first | rfl | (simp; done) | (simp [*]; done)), (by first | rfl | (simp; done) | (simp only [← hji57] <;> (first | rfl | simp)) | (simp [*]; done)), (by first | exact H' | (rw [hji65]; exact H') | (rw [hji57]; exact H') | (rw [hji50]; exact H') | (rw [hji43]; exact H') | (rw [hji41]; exact H') | (rw [hji33]; exact H') | (rw [hji33, hji41]; exact H') | (rw [hji33, hji43]; exact H') | (rw [hji33, hji50]; exact H') | (rw [hji33, hji57]; exact H') | (rw [hji33, hji65]; exact H') | (rw [hji41, hji33]; exact H') | (rw [hji41, hji43]; exact H') | (rw [hji41, hji50]; exact H') | (rw [hji41, hji57]; exact H') | (rw [hji41, hji65]; exact H') | (rw [hji43, hji33]; exact H') | (rw [hji43, hji41]; exact H')), ⟨by have := HK1.out; have := HJ13.out; omega⟩, ⟨by (with_reducible repeat (first | apply Kd.R_alloc | apply Kd.R_drewN | apply Kd.R_drew)); exact HO_8.out⟩, ⟨by (with_reducible repeat (first | apply Kd.R_alloc | apply Kd.R_drewN | apply Kd.R_drew)); exact HO_10.out⟩, ⟨by repeat (first | (with_reducible first | exact HB.out | apply below_alloc | apply pw_below_drewN | apply below_drew1 | refine below_set ?_ GE174.out) | exact HB.out)⟩⟩
                     ·
                      rw [if_neg c64] at H
                      exact absurd H (by simp)
                    ·
                     replace c63 := Bool.eq_false_iff.mpr c63
                     subst c63
                     have H1 : (logic_Meets.l0 kj13 t165 t169 x12_1 (wrap64 (x13_1 + 1)) l0 (l0.length : Int) ji57) = some (r1, r2) := by rw [if_neg (show ¬ (false = true) by decide)] at H; exact H
                     clear H
                     have H := H1
                     clear H1
                     have H' := Aside0.mk H
                     clear H
                     obtain ⟨Ao68, co68, eo68⟩ := Kd.R_slice HO_8.out
                     subst eo68
                     have p180 : 0 ≤ (x34_1 : Int) := of_decide_eq_true (by first | (with_reducible assumption) | assumption)
                     have q180 : x34_1 < (t165.length : Int) := of_decide_eq_true (by first | (with_reducible assumption) | assumption)
                     obtain ⟨ad180, e180, hx180_0⟩ := Kd.at_bool (Kd.R_reads' HO_8.out).2.2 x34_1 p180 q180
                     (try rw [← Nbq55.out] at hx180_0)
                     (try rw [← Nbq62.out] at hx180_0)
                     cases e180
                     replace p180 := eq_true p180
                     replace q180 := eq_true q180
                     obtain ⟨Ao69, co69, eo69⟩ := Kd.R_slice HO_10.out
                     subst eo69
                     have p181 : 0 ≤ ((ji57) : Int) := of_decide_eq_true (by first | (with_reducible assumption) | assumption)
                     have q181 : (ji57) < (t169.length : Int) := of_decide_eq_true (by first | (with_reducible assumption) | assumption)
                     obtain ⟨ad181, e181, hx181_0⟩ := Kd.at_int (Kd.R_reads' HO_10.out).2.2 (ji57) p181 q181
                     cases e181
                     replace p181 := eq_true p181
                     replace q181 := eq_true q181
                     have p182 : 0 ≤ ((rd t169 (ji57)) : Int) := of_decide_eq_true (by first | (with_reducible assumption) | assumption)
                     have q182 : (rd t169 (ji57)) < (t165.length : Int) := of_decide_eq_true (by first | (with_reducible assumption) | assumption)
                     obtain ⟨ad182, e182, hx182_0⟩ := Kd.at_bool (Kd.R_reads' HO_8.out).2.2 (rd t169 (ji57)) p182 q182
                     (try rw [← Nbq55.out] at hx182_0)
                     (try rw [← Nbq62.out] at hx182_0)
                     obtain rfl : ad180 = ad182 := (by injection e182)
                     replace p182 := eq_true p182
                     replace q182 := eq_true q182
                     go_wp2
                     go_roundg kj13
                     case measure => have := HK1.out; have := HJ13.out; omega
                     case rel => exact ⟨(x12_1), (wrap64 (x13_1 + 1)), (ji57), (by first | rfl | (simp; done) | (simp [*]; done)), (by first | rfl | (simp; done) | (simp [*]; done)), (by first | rfl | (simp; done) | (simp only [← hji57] <;> (first | rfl | simp)) | (simp [*]; done)), (by first | exact H' | (rw [hji65]; exact H') | (rw [hji57]; exact H') | (rw [hji50]; exact H') | (rw [hji43]; exact H') | (rw [hji41]; exact H') | (rw [hji33]; exact H') | (rw [hji33, hji41]; exact H') | (rw [hji33, hji43]; exact H') | (rw [hji33, hji50]; exact H') | (rw [hji33, hji57]; exact H') | (rw [hji33, hji65]; exact H') | (rw [hji41, hji33]; exact H') | (rw [hji41, hji43]; exact H') | (rw [hji41, hji50]; exact H') | (rw [hji41, hji57]; exact H') | (rw [hji41, hji65]; exact H') | (rw [hji43, hji33]; exact H') | (rw [hji43, hji41]; exact H')), ⟨by have := HK1.out; have := HJ13.out; omega⟩, ⟨by (with_reducible repeat (first | apply Kd.R_alloc | apply Kd.R_drewN | apply Kd.R_drew)); exact HO_8.out⟩, ⟨by (with_reducible repeat (first | apply Kd.R_alloc | apply Kd.R_drewN | apply Kd.R_drew)); exact HO_10.out⟩, ⟨by repeat (first | (with_reducible first | exact HB.out | apply below_alloc | apply pw_below_drewN | apply below_drew1 | refine below_set ?_ GE174.out) | exact HB.out)⟩⟩
                   ·
                    rw [if_neg c61] at H
                    exact absurd H (by simp)
                  ·
                   rw [if_neg c60] at H
                   exact absurd H (by simp)
                 ·
                  rw [if_neg c59] at H
                  exact absurd H (by simp)
                ·
                 rw [if_neg c58] at H
                 exact absurd H (by simp)
               ·
                replace c56 := Bool.eq_false_iff.mpr c56
                subst c56
                have H1 : (if 0 ≤ x13_1 then (logic_Meets.l0 kj13 t165 t169 (Go.bits .or .i64 x12_1 (shl .i64 1 x13_1)) (wrap64 (x13_1 + 1)) l0 (l0.length : Int) (wrap64 (x34_1 + 1))) else (none)) = some (r1, r2) := by rw [if_neg (show ¬ (false = true) by decide)] at H; exact H
                clear H
                have H := H1
                clear H1
                by_cases c70 : 0 ≤ x13_1
                ·
                 rw [if_pos c70] at H
                 have c70b0 := eq_true c70
                 have c70b1 : decide (0 ≤ x13_1) = true := decide_eq_true c70
                 clear c70
                 obtain ⟨ji71, hji71⟩ : ∃ j_ : Int, (shl .i64 1 x13_1) = j_ := ⟨_, rfl⟩
                 replace H : (logic_Meets.l0 kj13 t165 t169 (Go.bits .or .i64 x12_1 (ji71)) (wrap64 (x13_1 + 1)) l0 (l0.length : Int) (wrap64 (x34_1 + 1))) = some (r1, r2) := by first | (rw [hji71] at H; exact H) | (simp only [hji71] at H ⊢; exact H)
                 have hji71_ : (IntKind.i64.wrap (1 * 2 ^ min x13_1.toNat 64)) = ji71 := hji71
                 have hji71z : x13_1 ≤ 64 → (IntKind.i64.wrap (1 * 2 ^ x13_1.toNat)) = ji71 := shl_small hji71
                 have hji71u : (IntKind.i64.wrap (2 ^ min x13_1.toNat 64)) = ji71 := by have h_ := hji71_; rw [Int.one_mul] at h_; exact h_
                 have hji71v : x13_1 ≤ 64 → (IntKind.i64.wrap (2 ^ x13_1.toNat)) = ji71 := fun hle_ => by have h_ := hji71z hle_; rw [Int.one_mul] at h_; exact h_
                 have hji71y : (wrap64 (1 * 2 ^ min x13_1.toNat 64)) = ji71 := (i64_w _).symm.trans hji71_
                 have hji71x : x13_1 ≤ 64 → (wrap64 (1 * 2 ^ x13_1.toNat)) = ji71 := fun h_ => (i64_w _).symm.trans (hji71z h_)
                 have H' := Aside0.mk H
                 clear H
                 obtain ⟨Ao72, co72, eo72⟩ := Kd.R_slice HO_8.out
                 subst eo72
                 have p180 : 0 ≤ (x34_1 : Int) := of_decide_eq_true (by first | (with_reducible assumption) | assumption)
                 have q180 : x34_1 < (t165.length : Int) := of_decide_eq_true (by first | (with_reducible assumption) | assumption)
                 obtain ⟨ad180, e180, hx180_0⟩ := Kd.at_bool (Kd.R_reads' HO_8.out).2.2 x34_1 p180 q180
                 (try rw [← Nbq55.out] at hx180_0)
                 cases e180
                 replace p180 := eq_true p180
                 replace q180 := eq_true q180
                 go_wp2
                 go_roundg kj13
                 case measure => have := HK1.out; have := HJ13.out; omega
                 case rel => exact ⟨(Go.bits .or .i64 x12_1 (ji71)), (wrap64 (x13_1 + 1)), (wrap64 (x34_1 + 1)), (by first | rfl | (simp; done) | (simp only [← hji71] <;> (first | rfl | simp)) | (simp [*]; done)), (by first | rfl | (simp; done) | (simp [*]; done)), (by first | rfl | (simp; done) | (simp [*]; done)), (by first | exact H' | (rw [hji71]; exact H') | (rw [hji65]; exact H') | (rw [hji57]; exact H') | (rw [hji50]; exact H') | (rw [hji43]; exact H') | (rw [hji41]; exact H') | (rw [hji41, hji43]; exact H') | (rw [hji41, hji50]; exact H') | (rw [hji41, hji57]; exact H') | (rw [hji41, hji65]; exact H') | (rw [hji41, hji71]; exact H') | (rw [hji43, hji41]; exact H') | (rw [hji43, hji50]; exact H') | (rw [hji43, hji57]; exact H') | (rw [hji43, hji65]; exact H') | (rw [hji43, hji71]; exact H') | (rw [hji50, hji41]; exact H') | (rw [hji50, hji43]; exact H')), ⟨by have := HK1.out; have := HJ13.out; omega⟩, ⟨by (with_reducible repeat (first | apply Kd.R_alloc | apply Kd.R_drewN | apply Kd.R_drew)); exact HO_8.out⟩, ⟨by (with_reducible repeat (first | apply Kd.R_alloc | apply Kd.R_drewN | apply Kd.R_drew)); exact HO_10.out⟩, ⟨by repeat (first | (with_reducible first | exact HB.out | apply below_alloc | apply pw_below_drewN | apply below_drew1 | refine below_set ?_ GE174.out) | exact HB.out)⟩⟩
                ·
                 rw [if_neg c70] at H
                 exact absurd H (by simp)
              ·
               rw [if_neg c54] at H
               exact absurd H (by simp)
             ·
              rw [if_neg c53] at H
              exact absurd H (by simp)
            ·
             rw [if_neg c52] at H
             have c52b0 : (x44_13 == 15) = false := beq_eq_false_iff_ne.mpr c52
             have c52b1 : (x44_13 != 15) = true := bne_iff_ne.mpr c52
             by_cases c73 : x44_13 = 16
             ·
              rw [if_pos c73] at H
              have c73b0 : (x44_13 == 16) = true := beq_iff_eq.mpr c73
              have c73b1 : (x44_13 != 16) = false := bne_eq_false_iff_eq.mpr c73
              clear c73
              by_cases c74 : 0 ≤ x34_1
              ·
               rw [if_pos c74] at H
               have c74b0 : decide (0 ≤ x34_1) = true := decide_eq_true c74
               clear c74
               by_cases c75 : x34_1 < (t165.length : Int)
               ·
                rw [if_pos c75] at H
                have c75b0 : decide (x34_1 < (t165.length : Int)) = true := decide_eq_true c75
                clear c75
                obtain ⟨bq76, hbq76⟩ : ∃ b_ : Bool, b_ = (rdOf false t165 x34_1) := ⟨_, rfl⟩
                replace H : (if bq76 = true then (if 0 ≤ x13_1 then (logic_Meets.l0 kj13 t165 t169 (Go.bits .or .i64 x12_1 (shl .i64 1 x13_1)) (wrap64 (x13_1 + 1)) l0 (l0.length : Int) (wrap64 (x34_1 + 1))) else (none)) else (if 0 ≤ (wrap64 (x34_1 + 1)) then (if (wrap64 (x34_1 + 1)) < (t169.length : Int) then (if 0 ≤ (rd t169 (wrap64 (x34_1 + 1))) then (if (rd t169 (wrap64 (x34_1 + 1))) < (t165.length : Int) then (if (rdOf false t165 (rd t169 (wrap64 (x34_1 + 1))) = true) then (logic_Meets.l0 kj13 t165 t169 x12_1 (wrap64 (x13_1 + 1)) l0 (l0.length : Int) (wrap64 (x34_1 + 1))) else (if 0 ≤ x13_1 then (logic_Meets.l0 kj13 t165 t169 (Go.bits .or .i64 x12_1 (shl .i64 1 x13_1)) (wrap64 (x13_1 + 1)) l0 (l0.length : Int) (wrap64 (x34_1 + 1))) else (none))) else (none)) else (none)) else (none)) else (none))) = some (r1, r2) := by rw [← hbq76] at H; exact H
                have Nbq76 := Aside0.mk hbq76
                clear hbq76
                by_cases c77 : bq76 = true
                ·
                 subst c77
                 have H1 : (if 0 ≤ x13_1 then (logic_Meets.l0 kj13 t165 t169 (Go.bits .or .i64 x12_1 (shl .i64 1 x13_1)) (wrap64 (x13_1 + 1)) l0 (l0.length : Int) (wrap64 (x34_1 + 1))) else (none)) = some (r1, r2) := by rw [if_pos rfl] at H; exact H
                 clear H
                 have H := H1
                 clear H1
                 by_cases c78 : 0 ≤ x13_1
                 ·
                  rw [if_pos c78] at H
                  have c78b0 := eq_true c78
                  have c78b1 : decide (0 ≤ x13_1) = true := decide_eq_true c78
                  clear c78
                  obtain ⟨ji79, hji79⟩ : ∃ j_ : Int, (shl .i64 1 x13_1) = j_ := ⟨_, rfl⟩
                  replace H : (logic_Meets.l0 kj13 t165 t169 (Go.bits .or .i64 x12_1 (ji79)) (wrap64 (x13_1 + 1)) l0 (l0.length : Int) (wrap64 (x34_1 + 1))) = some (r1, r2) := by first | (rw [hji79] at H; exact H) | (simp only [hji79] at H ⊢; exact H)
                  have hji79_ : (IntKind.i64.wrap (1 * 2 ^ min x13_1.toNat 64)) = ji79 := hji79
                  have hji79z : x13_1 ≤ 64 → (IntKind.i64.wrap (1 * 2 ^ x13_1.toNat)) = ji79 := shl_small hji79
                  have hji79u : (IntKind.i64.wrap (2 ^ min x13_1.toNat 64)) = ji79 := by have h_ := hji79_; rw [Int.one_mul] at h_; exact h_
                  have hji79v : x13_1 ≤ 64 → (IntKind.i64.wrap (2 ^ x13_1.toNat)) = ji79 := fun hle_ => by have h_ := hji79z hle_; rw [Int.one_mul] at h_; exact h_
                  have hji79y : (wrap64 (1 * 2 ^ min x13_1.toNat 64)) = ji79 := (i64_w _).symm.trans hji79_
                  have hji79x : x13_1 ≤ 64 → (wrap64 (1 * 2 ^ x13_1.toNat)) = ji79 := fun h_ => (i64_w _).symm.trans (hji79z h_)
                  have H' := Aside0.mk H
                  clear H
                  obtain ⟨Ao80, co80, eo80⟩ := Kd.R_slice HO_8.out
                  subst eo80
                  have p183 : 0 ≤ (x34_1 : Int) := of_decide_eq_true (by first | (with_reducible assumption) | assumption)
                  have q183 : x34_1 < (t165.length : Int) := of_decide_eq_true (by first | (with_reducible assumption) | assumption)
                  obtain ⟨ad183, e183, hx183_0⟩ := Kd.at_bool (Kd.R_reads' HO_8.out).2.2 x34_1 p183 q183
                  (try rw [← Nbq76.out] at hx183_0)
                  cases e183
                  replace p183 := eq_true p183
                  replace q183 := eq_true q183
                  go_wp2
                  go_roundg kj13
                  case measure => have := HK1.out; have := HJ13.out; omega
                  case rel => exact ⟨(Go.bits .or .i64 x12_1 (ji79)), (wrap64 (x13_1 + 1)), (wrap64 (x34_1 + 1)), (by first | rfl | (simp; done) | (simp only [← hji79] <;> (first | rfl | simp)) | (simp [*]; done)), (by first | rfl | (simp; done) | (simp [*]; done)), (by first | rfl | (simp; done) | (simp [*]; done)), (by first | exact H' | (rw [hji79]; exact H') | (rw [hji71]; exact H') | (rw [hji65]; exact H') | (rw [hji57]; exact H') | (rw [hji50]; exact H') | (rw [hji43]; exact H') | (rw [hji43, hji50]; exact H') | (rw [hji43, hji57]; exact H') | (rw [hji43, hji65]; exact H') | (rw [hji43, hji71]; exact H') | (rw [hji43, hji79]; exact H') | (rw [hji50, hji43]; exact H') | (rw [hji50, hji57]; exact H') | (rw [hji50, hji65]; exact H') | (rw [hji50, hji71]; exact H') | (rw [hji50, hji79]; exact H') | (rw [hji57, hji43]; exact H') | (rw [hji57, hji50]; exact H')), ⟨by have := HK1.out; have := HJ13.out; omega⟩, ⟨by (with_reducible repeat (first | apply Kd.R_alloc | apply Kd.R_drewN | apply Kd.R_drew)); exact HO_8.out⟩, ⟨by (with_reducible repeat (first | apply Kd.R_alloc | apply Kd.R_drewN | apply Kd.R_drew)); exact HO_10.out⟩, ⟨by repeat (first | (with_reducible first | exact HB.out | apply below_alloc | apply pw_below_drewN | apply below_drew1 | refine below_set ?_ GE174.out) | exact HB.out)⟩⟩
                 ·
                  rw [if_neg c78] at H
                  exact absurd H (by simp)
                ·
                 replace c77 := Bool.eq_false_iff.mpr c77
                 subst c77
                 have H1 : (if 0 ≤ (wrap64 (x34_1 + 1)) then (if (wrap64 (x34_1 + 1)) < (t169.length : Int) then (if 0 ≤ (rd t169 (wrap64 (x34_1 + 1))) then (if (rd t169 (wrap64 (x34_1 + 1))) < (t165.length : Int) then (if (rdOf false t165 (rd t169 (wrap64 (x34_1 + 1))) = true) then (logic_Meets.l0 kj13 t165 t169 x12_1 (wrap64 (x13_1 + 1)) l0 (l0.length : Int) (wrap64 (x34_1 + 1))) else (if 0 ≤ x13_1 then (logic_Meets.l0 kj13 t165 t169 (Go.bits .or .i64 x12_1 (shl .i64 1 x13_1)) (wrap64 (x13_1 + 1)) l0 (l0.length : Int) (wrap64 (x34_1 + 1))) else (none))) else (none)) else (none)) else (none)) else (none)) = some (r1, r2) := by rw [if_neg (show ¬ (false = true) by decide)] at H; exact H
                 clear H
                 have H := H1
                 clear H1
                 obtain ⟨ji81, hji81⟩ : ∃ j_ : Int, (wrap64 (x34_1 + 1)) = j_ := ⟨_, rfl⟩
                 replace H : (if 0 ≤ (ji81) then (if (ji81) < (t169.length : Int) then (if 0 ≤ (rd t169 (ji81)) then (if (rd t169 (ji81)) < (t165.length : Int) then (if (rdOf false t165 (rd t169 (ji81)) = true) then (logic_Meets.l0 kj13 t165 t169 x12_1 (wrap64 (x13_1 + 1)) l0 (l0.length : Int) ji81) else (if 0 ≤ x13_1 then (logic_Meets.l0 kj13 t165 t169 (Go.bits .or .i64 x12_1 (shl .i64 1 x13_1)) (wrap64 (x13_1 + 1)) l0 (l0.length : Int) ji81) else (none))) else (none)) else (none)) else (none)) else (none)) = some (r1, r2) := by first | (rw [hji81] at H; exact H) | (simp only [hji81] at H ⊢; exact H)
                 have hji81w : (IntKind.i64.wrap (x34_1 + 1)) = ji81 := (i64_w _).trans hji81
                 by_cases c82 : 0 ≤ (ji81)
                 ·
                  rw [if_pos c82] at H
                  have c82b0 : decide (0 ≤ (ji81)) = true := decide_eq_true c82
                  clear c82
                  by_cases c83 : (ji81) < (t169.length : Int)
                  ·
                   rw [if_pos c83] at H
                   have c83b0 : decide ((ji81) < (t169.length : Int)) = true := decide_eq_true c83
                   clear c83
                   by_cases c84 : 0 ≤ (rd t169 (ji81))
                   ·
                    rw [if_pos c84] at H
                    have c84b0 : decide (0 ≤ (rd t169 (ji81))) = true := decide_eq_true c84
                    clear c84
                    by_cases c85 : (rd t169 (ji81)) < (t165.length : Int)
                    ·
                     rw [if_pos c85] at H
                     have c85b0 : decide ((rd t169 (ji81)) < (t165.length : Int)) = true := decide_eq_true c85
                     clear c85
                     obtain ⟨bq86, hbq86⟩ : ∃ b_ : Bool, b_ = (rdOf false t165 (rd t169 (ji81))) := ⟨_, rfl⟩
                     replace H : (if (bq86 = true) then (logic_Meets.l0 kj13 t165 t169 x12_1 (wrap64 (x13_1 + 1)) l0 (l0.length : Int) ji81) else (if 0 ≤ x13_1 then (logic_Meets.l0 kj13 t165 t169 (Go.bits .or .i64 x12_1 (shl .i64 1 x13_1)) (wrap64 (x13_1 + 1)) l0 (l0.length : Int) ji81) else (none))) = some (r1, r2) := by rw [← hbq86] at H; exact H
                     have Nbq86 := Aside0.mk hbq86
                     clear hbq86
                     by_cases c87 : (bq86 = true)
                     ·
                      subst c87
                      have H1 : (logic_Meets.l0 kj13 t165 t169 x12_1 (wrap64 (x13_1 + 1)) l0 (l0.length : Int) ji81) = some (r1, r2) := by rw [if_pos rfl] at H; exact H
                      clear H
                      have H := H1
                      clear H1
                      have H' := Aside0.mk H
                      clear H
                      obtain ⟨Ao88, co88, eo88⟩ := Kd.R_slice HO_8.out
                      subst eo88
                      have p183 : 0 ≤ (x34_1 : Int) := of_decide_eq_true (by first | (with_reducible assumption) | assumption)
                      have q183 : x34_1 < (t165.length : Int) := of_decide_eq_true (by first | (with_reducible assumption) | assumption)
                      obtain ⟨ad183, e183, hx183_0⟩ := Kd.at_bool (Kd.R_reads' HO_8.out).2.2 x34_1 p183 q183
                      (try rw [← Nbq76.out] at hx183_0)
                      (try rw [← Nbq86.out] at hx183_0)
                      cases e183
                      replace p183 := eq_true p183
                      replace q183 := eq_true q183
                      obtain ⟨Ao89, co89, eo89⟩ := Kd.R_slice HO_10.out
                      subst eo89
                      have p184 : 0 ≤ ((ji81) : Int) := of_decide_eq_true (by first | (with_reducible assumption) | assumption)
                      have q184 : (ji81) < (t169.length : Int) := of_decide_eq_true (by first | (with_reducible assumption) | assumption)
                      obtain ⟨ad184, e184, hx184_0⟩ := Kd.at_int (Kd.R_reads' HO_10.out).2.2 (ji81) p184 q184
                      cases e184
                      replace p184 := eq_true p184
                      replace q184 := eq_true q184
                      have p185 : 0 ≤ ((rd t169 (ji81)) : Int) := of_decide_eq_true (by first | (with_reducible assumption) | assumption)
                      have q185 : (rd t169 (ji81)) < (t165.length : Int) := of_decide_eq_true (by first | (with_reducible assumption) | assumption)
                      obtain ⟨ad185, e185, hx185_0⟩ := Kd.at_bool (Kd.R_reads' HO_8.out).2.2 (rd t169 (ji81)) p185 q185
                      (try rw [← Nbq76.out] at hx185_0)
                      (try rw [← Nbq86.out] at hx185_0)
                      obtain rfl : ad183 = ad185 := (by injection e185)
                      replace p185 := eq_true p185
                      replace q185 := eq_true q185
                      go_wp2
                      go_roundg kj13
                      case measure => have := HK1.out; have := HJ13.out; omega
                      case rel => exact ⟨(x12_1), (wrap64 (x13_1 + 1)), (ji81), (by first | rfl | (simp; done) | (simp [*]; done)), (by first | rfl | (simp; done) | (simp [*]; done)), (by first | rfl | (simp; done) | (simp only [← hji81] <;> (first | rfl | simp)) | (simp [*]; done)), (by first | exact H' | (rw [hji81]; exact H') | (rw [hji79]; exact H') | (rw [hji71]; exact H') | (rw [hji65]; exact H') | (rw [hji57]; exact H') | (rw [hji50]; exact H') | (rw [hji50, hji57]; exact H') | (rw [hji50, hji65]; exact H') | (rw [hji50, hji71]; exact H') | (rw [hji50, hji79]; exact H') | (rw [hji50, hji81]; exact H') | (rw [hji57, hji50]; exact H') | (rw [hji57, hji65]; exact H') | (rw [hji57, hji71]; exact H') | (rw [hji57, hji79]; exact H') | (rw [hji57, hji81]; exact H') | (rw [hji65, hji50]; exact H') | (rw [hji65, hji57]; exact H')), ⟨by have := HK1.out; have := HJ13.out; omega⟩, ⟨by (with_reducible repeat (first | apply Kd.R_alloc | apply Kd.R_drewN | apply Kd.R_drew)); exact HO_8.out⟩, ⟨by (with_reducible repeat (first | apply Kd.R_alloc | apply Kd.R_drewN | apply Kd.R_drew)); exact HO_10.out⟩, ⟨by repeat (first | (with_reducible first | exact HB.out | apply below_alloc | apply pw_below_drewN | apply below_drew1 | refine below_set ?_ GE174.out) | exact HB.out)⟩⟩
                     ·
                      replace c87 := Bool.eq_false_iff.mpr c87
                      subst c87
                      have H1 : (if 0 ≤ x13_1 then (logic_Meets.l0 kj13 t165 t169 (Go.bits .or .i64 x12_1 (shl .i64 1 x13_1)) (wrap64 (x13_1 + 1)) l0 (l0.length : Int) ji81) else (none)) = some (r1, r2) := by rw [if_neg (show ¬ (false = true) by decide)] at H; exact H
                      clear H
                      have H := H1
                      clear H1
                      by_cases c90 : 0 ≤ x13_1
                      ·
                       rw [if_pos c90] at H
                       have c90b0 := eq_true c90
                       have c90b1 : decide (0 ≤ x13_1) = true := decide_eq_true c90
                       clear c90
                       obtain ⟨ji91, hji91⟩ : ∃ j_ : Int, (shl .i64 1 x13_1) = j_ := ⟨_, rfl⟩
                       replace H : (logic_Meets.l0 kj13 t165 t169 (Go.bits .or .i64 x12_1 (ji91)) (wrap64 (x13_1 + 1)) l0 (l0.length : Int) ji81) = some (r1, r2) := by first | (rw [hji91] at H; exact H) | (simp only [hji91] at H ⊢; exact H)
                       have hji91_ : (IntKind.i64.wrap (1 * 2 ^ min x13_1.toNat 64)) = ji91 := hji91
                       have hji91z : x13_1 ≤ 64 → (IntKind.i64.wrap (1 * 2 ^ x13_1.toNat)) = ji91 := shl_small hji91
                       have hji91u : (IntKind.i64.wrap (2 ^ min x13_1.toNat 64)) = ji91 := by have h_ := hji91_; rw [Int.one_mul] at h_; exact h_
                       have hji91v : x13_1 ≤ 64 → (IntKind.i64.wrap (2 ^ x13_1.toNat)) = ji91 := fun hle_ => by have h_ := hji91z hle_; rw [Int.one_mul] at h_; exact h_
                       have hji91y : (wrap64 (1 * 2 ^ min x13_1.toNat 64)) = ji91 := (i64_w _).symm.trans hji91_
                       have hji91x : x13_1 ≤ 64 → (wrap64 (1 * 2 ^ x13_1.toNat)) = ji91 := fun h_ => (i64_w _).symm.trans (hji91z h_)
                       have H' := Aside0.mk H
                       clear H
                       obtain ⟨Ao92, co92, eo92⟩ := Kd.R_slice HO_8.out
                       subst eo92
                       have p183 : 0 ≤ (x34_1 : Int) := of_decide_eq_true (by first | (with_reducible assumption) | assumption)
                       have q183 : x34_1 < (t165.length : Int) := of_decide_eq_true (by first | (with_reducible assumption) | assumption)
                       obtain ⟨ad183, e183, hx183_0⟩ := Kd.at_bool (Kd.R_reads' HO_8.out).2.2 x34_1 p183 q183
                       (try rw [← Nbq76.out] at hx183_0)
                       (try rw [← Nbq86.out] at hx183_0)
                       cases e183
                       replace p183 := eq_true p183
                       replace q183 := eq_true q183
                       obtain ⟨Ao93, co93, eo93⟩ := Kd.R_slice HO_10.out
                       subst eo93
                       have p184 : 0 ≤ ((ji81) : Int) := of_decide_eq_true (by first | (with_reducible assumption) | assumption)
                       have q184 : (ji81) < (t169.length : Int) := of_decide_eq_true (by first | (with_reducible assumption) | assumption)
                       obtain ⟨ad184, e184, hx184_0⟩ := Kd.at_int (Kd.R_reads' HO_10.out).2.2 (ji81) p184 q184
                       cases e184
                       replace p184 := eq_true p184
                       replace q184 := eq_true q184
                       have p185 : 0 ≤ ((rd t169 (ji81)) : Int) := of_decide_eq_true (by first | (with_reducible assumption) | assumption)
                       have q185 : (rd t169 (ji81)) < (t165.length : Int) := of_decide_eq_true (by first | (with_reducible assumption) | assumption)
                       obtain ⟨ad185, e185, hx185_0⟩ := Kd.at_bool (Kd.R_reads' HO_8.out).2.2 (rd t169 (ji81)) p185 q185
                       (try rw [← Nbq76.out] at hx185_0)
                       (try rw [← Nbq86.out] at hx185_0)
                       obtain rfl : ad183 = ad185 := (by injection e185)
                       replace p185 := eq_true p185
                       replace q185 := eq_true q185
                       go_wp2
                       go_roundg kj13
                       case measure => have := HK1.out; have := HJ13.out; omega
                       case rel => exact ⟨(Go.bits .or .i64 x12_1 (ji91)), (wrap64 (x13_1 + 1)), (ji81), (by first | rfl | (simp; done) | (simp only [← hji91] <;> (first | rfl | simp)) | (simp [*]; done)), (by first | rfl | (simp; done) | (simp [*]; done)), (by first | rfl | (simp; done) | (simp only [← hji81] <;> (first | rfl | simp)) | (simp [*]; done)), (by first | exact H' | (rw [hji91]; exact H') | (rw [hji81]; exact H') | (rw [hji79]; exact H') | (rw [hji71]; exact H') | (rw [hji65]; exact H') | (rw [hji57]; exact H') | (rw [hji57, hji65]; exact H') | (rw [hji57, hji71]; exact H') | (rw [hji57, hji79]; exact H') | (rw [hji57, hji81]; exact H') | (rw [hji57, hji91]; exact H') | (rw [hji65, hji57]; exact H') | (rw [hji65, hji71]; exact H') | (rw [hji65, hji79]; exact H') | (rw [hji65, hji81]; exact H') | (rw [hji65, hji91]; exact H') | (rw [hji71, hji57]; exact H') | (rw [hji71, hji65]; exact H')), ⟨by have := HK1.out; have := HJ13.out; omega⟩, ⟨by (with_reducible repeat (first | apply Kd.R_alloc | apply Kd.R_drewN | apply Kd.R_drew)); exact HO_8.out⟩, ⟨by (with_reducible repeat (first | apply Kd.R_alloc | apply Kd.R_drewN | apply Kd.R_drew)); exact HO_10.out⟩, ⟨by repeat (first | (with_reducible first | exact HB.out | apply below_alloc | apply pw_below_drewN | apply below_drew1 | refine below_set ?_ GE174.out) | exact HB.out)⟩⟩
                      ·
                       rw [if_neg c90] at H
                       exact absurd H (by simp)
                    ·
                     rw [if_neg c85] at H
                     exact absurd H (by simp)
                   ·
                    rw [if_neg c84] at H
                    exact absurd H (by simp)
                  ·
                   rw [if_neg c83] at H
                   exact absurd H (by simp)
                 ·
                  rw [if_neg c82] at H
                  exact absurd H (by simp)
               ·
                rw [if_neg c75] at H
                exact absurd H (by simp)
              ·
               rw [if_neg c74] at H
               exact absurd H (by simp)
             ·
              rw [if_neg c73] at H
              have c73b0 : (x44_13 == 16) = false := beq_eq_false_iff_ne.mpr c73
              have c73b1 : (x44_13 != 16) = true := bne_iff_ne.mpr c73
              by_cases c94 : true = true
              ·
               rw [if_pos trivial] at H
               have H1 : (if 0 ≤ x13_1 then (logic_Meets.l0 kj13 t165 t169 (Go.bits .or .i64 x12_1 (shl .i64 1 x13_1)) (wrap64 (x13_1 + 1)) l0 (l0.length : Int) (wrap64 (x34_1 + 1))) else (none)) = some (r1, r2) := H
               clear H
               have H := H1
               clear H1
               by_cases c95 : 0 ≤ x13_1
               ·
                rw [if_pos c95] at H
                have c95b0 := eq_true c95
                have c95b1 : decide (0 ≤ x13_1) = true := decide_eq_true c95
                clear c95
                obtain ⟨ji96, hji96⟩ : ∃ j_ : Int, (shl .i64 1 x13_1) = j_ := ⟨_, rfl⟩
                replace H : (logic_Meets.l0 kj13 t165 t169 (Go.bits .or .i64 x12_1 (ji96)) (wrap64 (x13_1 + 1)) l0 (l0.length : Int) (wrap64 (x34_1 + 1))) = some (r1, r2) := by first | (rw [hji96] at H; exact H) | (simp only [hji96] at H ⊢; exact H)
                have hji96_ : (IntKind.i64.wrap (1 * 2 ^ min x13_1.toNat 64)) = ji96 := hji96
                have hji96z : x13_1 ≤ 64 → (IntKind.i64.wrap (1 * 2 ^ x13_1.toNat)) = ji96 := shl_small hji96
                have hji96u : (IntKind.i64.wrap (2 ^ min x13_1.toNat 64)) = ji96 := by have h_ := hji96_; rw [Int.one_mul] at h_; exact h_
                have hji96v : x13_1 ≤ 64 → (IntKind.i64.wrap (2 ^ x13_1.toNat)) = ji96 := fun hle_ => by have h_ := hji96z hle_; rw [Int.one_mul] at h_; exact h_
                have hji96y : (wrap64 (1 * 2 ^ min x13_1.toNat 64)) = ji96 := (i64_w _).symm.trans hji96_
                have hji96x : x13_1 ≤ 64 → (wrap64 (1 * 2 ^ x13_1.toNat)) = ji96 := fun h_ => (i64_w _).symm.trans (hji96z h_)
                have H' := Aside0.mk H
                clear H
                go_wp2
                go_roundg kj13
                case measure => have := HK1.out; have := HJ13.out; omega
                case rel => exact ⟨(Go.bits .or .i64 x12_1 (ji96)), (wrap64 (x13_1 + 1)), (wrap64 (x34_1 + 1)), (by first | rfl | (simp; done) | (simp only [← hji96] <;> (first | rfl | simp)) | (simp [*]; done)), (by first | rfl | (simp; done) | (simp [*]; done)), (by first | rfl | (simp; done) | (simp [*]; done)), (by first | exact H' | (rw [hji96]; exact H') | (rw [hji91]; exact H') | (rw [hji81]; exact H') | (rw [hji79]; exact H') | (rw [hji71]; exact H') | (rw [hji65]; exact H') | (rw [hji65, hji71]; exact H') | (rw [hji65, hji79]; exact H') | (rw [hji65, hji81]; exact H') | (rw [hji65, hji91]; exact H') | (rw [hji65, hji96]; exact H') | (rw [hji71, hji65]; exact H') | (rw [hji71, hji79]; exact H') | (rw [hji71, hji81]; exact H') | (rw [hji71, hji91]; exact H') | (rw [hji71, hji96]; exact H') | (rw [hji79, hji65]; exact H') | (rw [hji79, hji71]; exact H')), ⟨by have := HK1.out; have := HJ13.out; omega⟩, ⟨by (with_reducible repeat (first | apply Kd.R_alloc | apply Kd.R_drewN | apply Kd.R_drew)); exact HO_8.out⟩, ⟨by (with_reducible repeat (first | apply Kd.R_alloc | apply Kd.R_drewN | apply Kd.R_drew)); exact HO_10.out⟩, ⟨by repeat (first | (with_reducible first | exact HB.out | apply below_alloc | apply pw_below_drewN | apply below_drew1 | refine below_set ?_ GE174.out) | exact HB.out)⟩⟩
               ·
                rw [if_neg c95] at H
                exact absurd H (by simp)
              ·
               exact absurd rfl c94
       ·
        replace c13 := Bool.eq_false_iff.mpr c13
        subst c13
        have H1 : (logic_Meets.l0 k1 t165 t169 x12_1 x13_1 l0 (l0.length : Int) (wrap64 (x34_1 + 1))) = some (r1, r2) := by rw [if_neg (show ¬ (false = true) by decide)] at H; exact H
        clear H
        have H := H1
        clear H1
        have H' := Aside0.mk H
        clear H
        have p173 : 0 ≤ (x34_1 : Int) := of_decide_eq_true (by first | (with_reducible assumption) | assumption)
        have q173 : x34_1 < (l0.length : Int) := of_decide_eq_true (by first | (with_reducible assumption) | assumption)
        obtain ⟨ad173, e173, hx173_0, hx173_1⟩ := at_T51 HR0.out x34_1 p173 q173
        cases e173
        replace hx173_0 := (HB.out.cell (World.block_lt_of_cell? w _ hx173_0)).trans hx173_0
        replace hx173_1 := (HB.out.cell (World.block_lt_of_cell? w _ hx173_1)).trans hx173_1
        replace p173 := eq_true p173
        replace q173 := eq_true q173
        go_wp2_with (first | ((with_reducible refine gate_dst (N := 15) rfl ?_); refine box_event ?hg (N := 15) ?hd (cs := #[.int .i64 0, .int .i64 0]) (t := 51) ?hr ?_; (case hd => rfl); (case hg => rfl); (case hr => first | (go_simp; done) | (go_simp; rfl)); intro gb174 hg w97 hbox hb; have n0_ := Aside0.mk (Kd.R_below (by (with_reducible repeat (first | apply Kd.R_alloc | apply Kd.R_drewN | apply Kd.R_drew)); exact HO_8.out) hb); have n1_ := Aside0.mk (Kd.R_below (by (with_reducible repeat (first | apply Kd.R_alloc | apply Kd.R_drewN | apply Kd.R_drew)); exact HO_10.out) hb); have n2_ := Aside0.mk (below_step (by repeat (first | (with_reducible first | exact HB.out | apply below_alloc | apply pw_below_drewN | apply below_drew1) | exact HB.out)) hb); have n3_ := Aside0.mk (hbox); have n4_ := Aside0.mk ((by rw [hg]; exact (below_size (by repeat (first | (with_reducible first | exact HB.out | apply below_alloc | apply pw_below_drewN | apply below_drew1) | exact HB.out))) : w.heap.size ≤ gb174)); have n5_ := Aside0.mk ((by rw [hg]; exact (below_size (by repeat (first | (with_reducible first | exact HB.out | apply below_alloc | apply pw_below_drewN | apply below_drew1) | exact HB.out))) : w.heap.size ≤ gb174)); clear HO_8; clear HO_10; clear HB; have HO_8 := n0_; have HO_10 := n1_; have HB := n2_; have BK174 := n3_; have GW174 := n4_; have GE174 := n5_; clear n0_ n1_ n2_ n3_ n4_ n5_; clear hb hbox hg; have hcz98_0 : w97.cell? ⟨gb174, 0, none⟩ = some (.int .i64 0) := (blk_cell BK174.out 0).trans rfl; have hcz98_1 : w97.cell? ⟨gb174, 1, none⟩ = some (.int .i64 0) := (blk_cell BK174.out 1).trans rfl; have hfz98_0 := blk_frozen BK174.out 0; have hfz98_1 := blk_frozen BK174.out 1) | ((with_reducible refine gate_callee (f := 31) rfl ?_); refine goesL_ (some 41) rfl rfl Tryd.func31 (by kernel_rfl) rfl #[.int .i64 ((rd_T51 l0 x34_1).f0)] rfl (by (try simp only [List.map_toArray, List.map_cons, List.map_nil]); first | done | rfl | (simp only [List.length_drop, List.length_take]; rfl)) ?_; (with_reducible refine (logic_ahead.calls ((rd_T51 l0 x34_1).f0) false _ A12.out).mono ?_); rintro e w' ⟨rfl, ⟨nd, rfl⟩⟩; refine ⟨_, rfl, ?_⟩))
        go_roundg k1
        case measure => have := HK1.out; omega
        case rel => exact ⟨(x12_1), (x13_1), (wrap64 (x34_1 + 1)), (by first | rfl | (simp; done) | (simp [*]; done)), (by first | rfl | (simp; done) | (simp [*]; done)), (by first | rfl | (simp; done) | (simp [*]; done)), (by first | exact H' | (rw [hji96]; exact H') | (rw [hji91]; exact H') | (rw [hji81]; exact H') | (rw [hji79]; exact H') | (rw [hji71]; exact H') | (rw [hji65]; exact H') | (rw [hji65, hji71]; exact H') | (rw [hji65, hji79]; exact H') | (rw [hji65, hji81]; exact H') | (rw [hji65, hji91]; exact H') | (rw [hji65, hji96]; exact H') | (rw [hji71, hji65]; exact H') | (rw [hji71, hji79]; exact H') | (rw [hji71, hji81]; exact H') | (rw [hji71, hji91]; exact H') | (rw [hji71, hji96]; exact H') | (rw [hji79, hji65]; exact H') | (rw [hji79, hji71]; exact H')), ⟨by have := HK1.out; omega⟩, ⟨by (with_reducible repeat (first | apply Kd.R_alloc | apply Kd.R_drewN | apply Kd.R_drew)); exact Kd.R_mono (Kd.R_far (p := ⟨gb174, 1, none⟩) (Kd.R_far (p := ⟨gb174, 0, none⟩) (Kd.R_types HO_8.out BK174.out (by decide)) (fun _ hk => hk.2) (.int .i64 ((rd_T51 l0 x34_1).f0))) (fun _ hk => hk.2) (.int .i64 ((rd_T51 l0 x34_1).f1))) (fun _ hk => trivial)⟩, ⟨by (with_reducible repeat (first | apply Kd.R_alloc | apply Kd.R_drewN | apply Kd.R_drew)); exact Kd.R_mono (Kd.R_far (p := ⟨gb174, 1, none⟩) (Kd.R_far (p := ⟨gb174, 0, none⟩) (Kd.R_types HO_10.out BK174.out (by decide)) (fun _ hk => hk.2) (.int .i64 ((rd_T51 l0 x34_1).f0))) (fun _ hk => hk.2) (.int .i64 ((rd_T51 l0 x34_1).f1))) (fun _ hk => trivial)⟩, ⟨by repeat (first | (with_reducible first | exact HB.out | apply below_alloc | apply pw_below_drewN | apply below_drew1 | refine below_set ?_ GE174.out) | exact HB.out)⟩⟩
      ·
       rw [if_neg c11] at H
       exact absurd H (by simp)
     ·
      rw [if_neg c10] at H
      exact absurd H (by simp)
    ·
     rw [if_neg c9] at H
     have c9b0 : decide (x34_1 < (l0.length : Int)) = false := decide_eq_false c9
     clear c9
     simp only [Option.some.injEq, Prod.mk.injEq] at H
     obtain ⟨rfl, rfl⟩ := H
     go_wp2
     go_ret2
     exact ⟨by first | rfl | (simp [errW_none, errW_some] <;> rfl) | (simp [*, errW_none, errW_some] <;> rfl), by repeat (first | (with_reducible first | exact HB.out | apply below_alloc | apply pw_below_drewN | apply below_drew1) | exact HB.out)⟩
 ·
  rw [if_neg c5] at H
  have c5b0 : (t166 == 0) = false := beq_eq_false_iff_ne.mpr c5
  have c5b1 : (t166 != 0) = true := bne_iff_ne.mpr c5
  simp only [Option.some.injEq, Prod.mk.injEq] at H
  obtain ⟨rfl, rfl⟩ := H
  go_enter Tryd.func22, Tryd.ntmps22
  go_wp2_with (first | ((with_reducible refine gate_callee (f := 19) rfl ?_); refine goesL_ (some 21) rfl rfl Tryd.func19 (by kernel_rfl) rfl #[.slice A0 l0.length c0, .slice A1 l1.length c1, .int .i64 a2] rfl (by (try simp only [List.map_toArray, List.map_cons, List.map_nil]); first | done | rfl | (simp only [List.length_drop, List.length_take]; rfl)) ?_; (with_reducible refine (logic_Truths.calls k _ _ l0 _ _ l1 a2 t165 t166 _ ?side1 ?side2 ?side3 ?side4 ?side5 A4.out).mono ?_); (case side1 => repeat (first | exact HR0.out | (with_reducible refine Kd.C_alloc ?_ _) | (with_reducible refine Kd.C_drewN ?_ _) | (with_reducible refine Kd.C_drew ?_))); (case side2 => exact HC0.out); (case side3 => repeat (first | exact HR1.out | (with_reducible refine Kd.C_alloc ?_ _) | (with_reducible refine Kd.C_drewN ?_ _) | (with_reducible refine Kd.C_drew ?_))); (case side4 => exact HC1.out); (case side5 => first | exact hG_ | exact Glob.drewN hG_ _ | exact Glob.below hG_ (by repeat (first | (with_reducible first | exact HB.out | apply below_alloc | apply pw_below_drewN | apply below_drew1) | exact HB.out))); rintro e w99 ⟨v167, rfl, ho0, hb⟩; refine ⟨_, rfl, ?_⟩; have n0_ := Aside0.mk (Kd.R_lower ho0 (below_size (by repeat (first | (with_reducible first | exact HB.out | apply below_alloc | apply pw_below_drewN | apply below_drew1) | exact HB.out)))); have n1_ := Aside0.mk (below_step (by repeat (first | (with_reducible first | exact HB.out | apply below_alloc | apply pw_below_drewN | apply below_drew1) | exact HB.out)) hb); clear HB; have HO168 := n0_; have HB := n1_; clear n0_ n1_; (try clear hb); (try clear hb2); (try clear hk); (try clear hi); (try clear ho0)))
  go_ret2
  exact ⟨by first | rfl | (simp [errW_none, errW_some] <;> rfl) | (simp [*, errW_none, errW_some] <;> rfl), by repeat (first | (with_reducible first | exact HB.out | apply below_alloc | apply pw_below_drewN | apply below_drew1) | exact HB.out)⟩

end Go.Proofs.YtcoaeefmmnohkaaDoor.P
