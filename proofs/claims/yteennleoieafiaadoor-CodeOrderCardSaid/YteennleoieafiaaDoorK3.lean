-- PACKED by pack.py of this repo: FExprCheck FModelKind FModelRule FModelCheck FModelCount FModelValues QGen FForetellkeepJoined QJoin QType O
import Derived.WalkSpells
import Derived.WalkLawsBesides
import Derived.Maps.OwnSet
import Derived.Maps.Views
import Derived.Maps.Keyed
import Derived.ChangeKeys
import Derived.ProofKit
import Derived.OpenShut
import Derived.Deep.Slices
import Derived.Test.YteennleoieafiaaDoorK1
import Derived.Test.YteennleoieafiaaDoorK2
import Derived.Test.YteennleoieafiaaDoorK0
section
namespace Go.Proofs.YteennleoieafiaaDoor.P
open Go.RowKit Go.Proofs.YteennleoieafiaaDoorW.PrintWords Go.Proofs.YteennleoieafiaaDoorW.PrintLast Go.Proofs.YteennleoieafiaaDoorW.PrintMore Go.Proofs.YteennleoieafiaaDoor.G
attribute [local go_sem] max2_int min2_int max_two min_two max_three min_three max_four min_four   -- for this text's walks alone
set_option linter.unusedVariables false
set_option linter.unusedSimpArgs false

/-! ### expr_Check: function 42 -/
mutual
def expr_Check.j0 : Nat → List (S35) → Int → Bool → Option (Bool × Int)
  | 0, _, _, _ => none
  | k + 1, x0, x1, x28 => if x28 = true then (some (false, 2)) else ((polish_Ends.f k x0).bind fun bt111 => (if bt111.2 = 0 then (expr_Check.l0 k x0 x1 bt111.1 x0 (x0.length : Int) 0) else (some (false, bt111.2))))
def expr_Check.l0 : Nat → List (S35) → Int → List Int → List (S35) → Int → Int → Option (Bool × Int)
  | 0, _, _, _, _, _, _ => none
  | k + 1, x0, x1, x6, x37, x38, x39 => if x39 < x38 then (if 0 ≤ x39 then (if x39 < (x37.length : Int) then ((expr_op.f k ((rd_T35 x37 x39).f0) ((rd_T35 x37 x39).f1) x1).bind fun t117 => (if t117 = 0 then (expr_Check.l0 k x0 x1 x6 x37 x38 (wrap64 (x39 + 1))) else (some (false, t117)))) else (none)) else (none)) else (expr_Check.l1 k x0 x6 x0 (x0.length : Int) 0)
def expr_Check.l1 : Nat → List (S35) → List Int → List (S35) → Int → Int → Option (Bool × Int)
  | 0, _, _, _, _, _ => none
  | k + 1, x0, x6, x50, x51, x52 => if x52 < x51 then (if 0 ≤ x52 then (if x52 < (x50.length : Int) then ((expr_truth.f k ((rd_T35 x50 x52).f0)).bind fun bt124 => (expr_Check.l2 k x0 x6 x52 bt124.2.1 (wrap64 (x52 + 1)) x50 x51 x52)) else (none)) else (none)) else (if 0 < (x0.length : Int) then ((expr_truth.f k ((rd_T35 x0 0).f0)).bind fun bt119 => (some (bt119.1, 0))) else (none))
def expr_Check.l2 : Nat → List (S35) → List Int → Int → Bool → Int → List (S35) → Int → Int → Option (Bool × Int)
  | 0, _, _, _, _, _, _, _, _ => none
  | k + 1, x0, x6, x11, x14, x16, x50, x51, x52 => if 0 ≤ x11 then (if x11 < (x6.length : Int) then (if x16 < (rd x6 x11) then (if 0 ≤ x16 then (if x16 < (x0.length : Int) then ((expr_truth.f k ((rd_T35 x0 x16).f0)).bind fun bt129 => (if (bt129.1 != x14) = true then (some (false, 5)) else (if x16 < (x6.length : Int) then (expr_Check.l2 k x0 x6 x11 x14 (rd x6 x16) x50 x51 x52) else (none)))) else (none)) else (none)) else (expr_Check.l1 k x0 x6 x50 x51 (wrap64 (x52 + 1)))) else (none)) else (none)
end
def expr_Check.f (k : Nat) (l0 : List (S35)) (a1 : Int) : Option (Bool × Int) := if a1 < 0 then (expr_Check.j0 k l0 a1 true) else (expr_Check.j0 k l0 a1 (decide (a1 > 6)))
theorem expr_Check.mono_l : ∀ k, (∀ y0 y1 y2, LeO (expr_Check.j0 k y0 y1 y2) (expr_Check.j0 (k + 1) y0 y1 y2)) ∧ (∀ y0 y1 y2 y3 y4 y5, LeO (expr_Check.l0 k y0 y1 y2 y3 y4 y5) (expr_Check.l0 (k + 1) y0 y1 y2 y3 y4 y5)) ∧ (∀ y0 y1 y2 y3 y4, LeO (expr_Check.l1 k y0 y1 y2 y3 y4) (expr_Check.l1 (k + 1) y0 y1 y2 y3 y4)) ∧ (∀ y0 y1 y2 y3 y4 y5 y6 y7, LeO (expr_Check.l2 k y0 y1 y2 y3 y4 y5 y6 y7) (expr_Check.l2 (k + 1) y0 y1 y2 y3 y4 y5 y6 y7))
  | 0 => ⟨fun _ _ _ r h => by simp [expr_Check.j0] at h, fun _ _ _ _ _ _ r h => by simp [expr_Check.l0] at h, fun _ _ _ _ _ r h => by simp [expr_Check.l1] at h, fun _ _ _ _ _ _ _ _ r h => by simp [expr_Check.l2] at h⟩
  | k + 1 => by
    obtain ⟨ih0, ih1, ih2, ih3⟩ := expr_Check.mono_l k
    refine ⟨?_, ?_, ?_, ?_⟩
    · intro y0 y1 y2
      unfold expr_Check.j0
      repeat' first
      | (with_reducible exact ih0 _ _ _)
      | (with_reducible exact ih1 _ _ _ _ _ _)
      | (with_reducible exact ih2 _ _ _ _ _)
      | (with_reducible exact ih3 _ _ _ _ _ _ _ _)
      | (with_reducible exact expr_op.mono _ _ _ _)
      | (with_reducible exact expr_truth.mono _ _)
      | (with_reducible exact polish_Ends.mono _ _)
      | (with_reducible exact LeO.refl _)
      | (with_reducible exact LeO.none _)
      | (with_reducible refine LeO.ite ?_ ?_)
      | (with_reducible refine LeO.bind ?_ (fun _ => ?_))
      | exact ih0 _ _ _
      | exact ih1 _ _ _ _ _ _
      | exact ih2 _ _ _ _ _
      | exact ih3 _ _ _ _ _ _ _ _
      | exact expr_op.mono _ _ _ _
      | exact expr_truth.mono _ _
      | exact polish_Ends.mono _ _
      | exact LeO.none _
      | refine LeO.ite ?_ ?_
      | refine LeO.bind ?_ (fun _ => ?_)
    · intro y0 y1 y2 y3 y4 y5
      unfold expr_Check.l0
      repeat' first
      | (with_reducible exact ih0 _ _ _)
      | (with_reducible exact ih1 _ _ _ _ _ _)
      | (with_reducible exact ih2 _ _ _ _ _)
      | (with_reducible exact ih3 _ _ _ _ _ _ _ _)
      | (with_reducible exact expr_op.mono _ _ _ _)
      | (with_reducible exact expr_truth.mono _ _)
      | (with_reducible exact polish_Ends.mono _ _)
      | (with_reducible exact LeO.refl _)
      | (with_reducible exact LeO.none _)
      | (with_reducible refine LeO.ite ?_ ?_)
      | (with_reducible refine LeO.bind ?_ (fun _ => ?_))
      | exact ih0 _ _ _
      | exact ih1 _ _ _ _ _ _
      | exact ih2 _ _ _ _ _
      | exact ih3 _ _ _ _ _ _ _ _
      | exact expr_op.mono _ _ _ _
      | exact expr_truth.mono _ _
      | exact polish_Ends.mono _ _
      | exact LeO.none _
      | refine LeO.ite ?_ ?_
      | refine LeO.bind ?_ (fun _ => ?_)
    · intro y0 y1 y2 y3 y4
      unfold expr_Check.l1
      repeat' first
      | (with_reducible exact ih0 _ _ _)
      | (with_reducible exact ih1 _ _ _ _ _ _)
      | (with_reducible exact ih2 _ _ _ _ _)
      | (with_reducible exact ih3 _ _ _ _ _ _ _ _)
      | (with_reducible exact expr_op.mono _ _ _ _)
      | (with_reducible exact expr_truth.mono _ _)
      | (with_reducible exact polish_Ends.mono _ _)
      | (with_reducible exact LeO.refl _)
      | (with_reducible exact LeO.none _)
      | (with_reducible refine LeO.ite ?_ ?_)
      | (with_reducible refine LeO.bind ?_ (fun _ => ?_))
      | exact ih0 _ _ _
      | exact ih1 _ _ _ _ _ _
      | exact ih2 _ _ _ _ _
      | exact ih3 _ _ _ _ _ _ _ _
      | exact expr_op.mono _ _ _ _
      | exact expr_truth.mono _ _
      | exact polish_Ends.mono _ _
      | exact LeO.none _
      | refine LeO.ite ?_ ?_
      | refine LeO.bind ?_ (fun _ => ?_)
    · intro y0 y1 y2 y3 y4 y5 y6 y7
      unfold expr_Check.l2
      repeat' first
      | (with_reducible exact ih0 _ _ _)
      | (with_reducible exact ih1 _ _ _ _ _ _)
      | (with_reducible exact ih2 _ _ _ _ _)
      | (with_reducible exact ih3 _ _ _ _ _ _ _ _)
      | (with_reducible exact expr_op.mono _ _ _ _)
      | (with_reducible exact expr_truth.mono _ _)
      | (with_reducible exact polish_Ends.mono _ _)
      | (with_reducible exact LeO.refl _)
      | (with_reducible exact LeO.none _)
      | (with_reducible refine LeO.ite ?_ ?_)
      | (with_reducible refine LeO.bind ?_ (fun _ => ?_))
      | exact ih0 _ _ _
      | exact ih1 _ _ _ _ _ _
      | exact ih2 _ _ _ _ _
      | exact ih3 _ _ _ _ _ _ _ _
      | exact expr_op.mono _ _ _ _
      | exact expr_truth.mono _ _
      | exact polish_Ends.mono _ _
      | exact LeO.none _
      | refine LeO.ite ?_ ?_
      | refine LeO.bind ?_ (fun _ => ?_)
theorem expr_Check.mono : ∀ a0 a1 k, LeO (expr_Check.f k a0 a1) (expr_Check.f (k + 1) a0 a1) := by
  intro a0 a1 k
  obtain ⟨ih0, ih1, ih2, ih3⟩ := expr_Check.mono_l k
  unfold expr_Check.f
  repeat' first
      | (with_reducible exact ih0 _ _ _)
      | (with_reducible exact ih1 _ _ _ _ _ _)
      | (with_reducible exact ih2 _ _ _ _ _)
      | (with_reducible exact ih3 _ _ _ _ _ _ _ _)
      | (with_reducible exact expr_op.mono _ _ _ _)
      | (with_reducible exact expr_truth.mono _ _)
      | (with_reducible exact polish_Ends.mono _ _)
      | (with_reducible exact LeO.refl _)
      | (with_reducible exact LeO.none _)
      | (with_reducible refine LeO.ite ?_ ?_)
      | (with_reducible refine LeO.bind ?_ (fun _ => ?_))
      | exact ih0 _ _ _
      | exact ih1 _ _ _ _ _ _
      | exact ih2 _ _ _ _ _
      | exact ih3 _ _ _ _ _ _ _ _
      | exact expr_op.mono _ _ _ _
      | exact expr_truth.mono _ _
      | exact polish_Ends.mono _ _
      | exact LeO.none _
      | refine LeO.ite ?_ ?_
      | refine LeO.bind ?_ (fun _ => ?_)
set_option maxHeartbeats 8000000 in
set_option maxRecDepth 100000 in
theorem expr_Check.calls (k : Nat) (A0 : Option Addr) (c0 : Nat) (l0 : List (S35)) (a1 : Int) (r1 : Bool) (r2 : Int) (w : World) (hr0 : Kd.C k35 w A0 l0.length l0) (hc0 : l0.length ≤ c0) (hG_ : Glob w) (h : expr_Check.f k l0 a1 = some (r1, r2)) :
    Calls Tryd.prog 42 #[.slice A0 l0.length c0, .int .i64 a1] w fun e w' => e = .returned (.tuple #[.bool r1, .int .i64 r2]) ∧ Below w.heap.size w w' := by
  have hu35 := Tryd.underlying35
  have HR0 := Aside0.mk hr0
  have HC0 := Aside0.mk hc0
  clear hr0 hc0
  have HB := Aside0.mk (Below.refl w.heap.size w)
  have H : (if a1 < 0 then (expr_Check.j0 k l0 a1 true) else (expr_Check.j0 k l0 a1 (decide (a1 > 6)))) = some (r1, r2) := h
  clear h
  have HC3 := Aside0.mk H
  clear H
  go_enter Tryd.func42, Tryd.ntmps42
  go_upto_region 1 with (fail)
  go_cut [28] (fun v28 wc => ∃ (kq : Nat) (x28_2 : Bool), v28 = .bool x28_2 ∧ Aside0 (expr_Check.j0 kq l0 a1 x28_2 = some (r1, r2)) ∧ Aside0 (kq ≤ k) ∧ Aside0 (Below w.heap.size w wc))
  case first =>
    have H := HC3.out
    clear HC3
    by_cases c4 : a1 < 0
    · rw [if_pos c4] at H
      have c4b0 : decide (a1 < 0) = true := decide_eq_true c4
      clear c4
      (first | rw [c4b0] | (simp only [i64_w, i32_w]; rw [c4b0]) | skip)
      have H' := Aside0.mk H
      clear H
      go_wp2
      go_meet
      case rel => exact ⟨_, (true), (by first | rfl | (simp; done) | (simp [*]; done)), H', ⟨by first | omega | exact Nat.le_refl _⟩, ⟨by repeat (first | (with_reducible first | exact HB.out | apply below_alloc | apply pw_below_drewN | apply below_drew1) | exact HB.out)⟩⟩
    · rw [if_neg c4] at H
      have c4b0 : decide (a1 < 0) = false := decide_eq_false c4
      clear c4
      (first | rw [c4b0] | (simp only [i64_w, i32_w]; rw [c4b0]) | skip)
      have H' := Aside0.mk H
      clear H
      go_wp2
      go_meet
      case rel => exact ⟨_, (decide (a1 > 6)), (by first | rfl | (simp; done) | (simp [*]; done)), H', ⟨by first | omega | exact Nat.le_refl _⟩, ⟨by repeat (first | (with_reducible first | exact HB.out | apply below_alloc | apply pw_below_drewN | apply below_drew1) | exact HB.out)⟩⟩
  case rest =>
    clear HC3
    try clear p2
    try clear c4
    try clear c4b0
    obtain ⟨kq, x28_2, rfl, HA, HJ2, HB⟩ := hcut
    cases kq with
    | zero => exact absurd HA.out (by simp [expr_Check.j0])
    | succ kj2 =>
      have H := HA.out
      clear HA
      simp only [expr_Check.j0] at H
      by_cases c5 : x28_2 = true
      · subst c5
        have H1 : (some (false, 2)) = some (r1, r2) := by rw [if_pos rfl] at H; exact H
        clear H
        have H := H1
        clear H1
        simp only [Option.some.injEq, Prod.mk.injEq] at H
        obtain ⟨rfl, rfl⟩ := H
        go_wp2
        go_ret2
        exact ⟨by first | rfl | (simp [errW_none, errW_some] <;> rfl) | (simp [*, errW_none, errW_some] <;> rfl), by repeat (first | (with_reducible first | exact HB.out | apply below_alloc | apply pw_below_drewN | apply below_drew1) | exact HB.out)⟩
      · replace c5 := Bool.eq_false_iff.mpr c5
        subst c5
        have H1 : ((polish_Ends.f kj2 l0).bind fun bt111 => (if bt111.2 = 0 then (expr_Check.l0 kj2 l0 a1 bt111.1 l0 (l0.length : Int) 0) else (some (false, bt111.2)))) = some (r1, r2) := by rw [if_neg (show ¬ (false = true) by decide)] at H; exact H
        clear H
        have H := H1
        clear H1
        replace H := Option.bind_eq_some_iff.mp H
        obtain ⟨⟨t111, t112⟩, A60, H⟩ := H
        replace H : (if t112 = 0 then (expr_Check.l0 kj2 l0 a1 t111 l0 (l0.length : Int) 0) else (some (false, t112))) = some (r1, r2) := H
        have A6 := Aside0.mk A60
        clear A60
        by_cases c7 : t112 = 0
        · rw [if_pos c7] at H
          have c7b0 : (t112 == 0) = true := beq_iff_eq.mpr c7
          have c7b1 : (t112 != 0) = false := bne_eq_false_iff_eq.mpr c7
          clear c7
          have H' := Aside0.mk H
          clear H
          go_wp2_with (first | ((with_reducible refine gate_callee (f := 52) rfl ?_); refine goesL_ (some 31) rfl rfl Tryd.func52 (by kernel_rfl) rfl #[.slice A0 l0.length c0] rfl (by (try simp only [List.map_toArray, List.map_cons, List.map_nil]); first | done | rfl | (simp only [List.length_drop, List.length_take]; rfl)) ?_; (with_reducible refine (polish_Ends.calls kj2 _ _ l0 t111 t112 _ ?side1 ?side2 ?side3 A6.out).mono ?_); (case side1 => repeat (first | exact (Kd.C_below HR0.out HB.out) | (with_reducible refine Kd.C_alloc ?_ _) | (with_reducible refine Kd.C_drewN ?_ _) | (with_reducible refine Kd.C_drew ?_))); (case side2 => exact HC0.out); (case side3 => first | exact hG_ | exact Glob.drewN hG_ _ | exact Glob.below hG_ (by repeat (first | (with_reducible first | exact HB.out | apply below_alloc | apply pw_below_drewN | apply below_drew1) | exact HB.out))); rintro e w8 ⟨v113, rfl, ho0, hb⟩; refine ⟨_, rfl, ?_⟩; have n0_ := Aside0.mk (Kd.R_lower ho0 (below_size (by repeat (first | (with_reducible first | exact HB.out | apply below_alloc | apply pw_below_drewN | apply below_drew1) | exact HB.out)))); have n1_ := Aside0.mk (below_step (by repeat (first | (with_reducible first | exact HB.out | apply below_alloc | apply pw_below_drewN | apply below_drew1) | exact HB.out)) hb); clear HB; have HO114 := n0_; have HB := n1_; clear n0_ n1_; (try clear hb); (try clear hb2); (try clear hk); (try clear hi); (try clear ho0)))
          go_loopg [39] kj2 (fun kq v39 w' => ∃ (x39_2 : Int), v39 = .int .i64 x39_2 ∧ Aside0 (expr_Check.l0 kq l0 a1 t111 l0 (l0.length : Int) x39_2 = some (r1, r2)) ∧ Aside0 (kq ≤ kj2) ∧ Aside0 (Kd.R (Kd.int .i64) 3 w' w.heap.size (fun _ => True) v113 t111) ∧ Aside0 (Below w.heap.size w w'))
          case atStart => exact ⟨(0), (by first | rfl | (simp; done) | (simp [*]; done)), H', ⟨Nat.le_refl _⟩, ⟨by (with_reducible repeat (first | apply Kd.R_alloc | apply Kd.R_drewN | apply Kd.R_drew)); exact HO114.out⟩, ⟨by repeat (first | (with_reducible first | exact HB.out | apply below_alloc | apply pw_below_drewN | apply below_drew1) | exact HB.out)⟩⟩
          case round =>
            clear H'
            try clear p2
            try clear c4
            try clear c4b0
            try clear c5
            try clear c7
            try clear c7b0
            try clear c7b1
            try clear p2
            obtain ⟨x39_2, rfl, HA, HK2, HO_6, HB⟩ := hrel
            cases gk with
            | zero => exact absurd HA.out (by simp [expr_Check.l0])
            | succ k2 =>
              have H := HA.out
              clear HA
              simp only [expr_Check.l0] at H
              by_cases c9 : x39_2 < (l0.length : Int)
              · rw [if_pos c9] at H
                have c9b0 : decide (x39_2 < (l0.length : Int)) = true := decide_eq_true c9
                clear c9
                by_cases c10 : 0 ≤ x39_2
                · rw [if_pos c10] at H
                  have c10b0 : decide (0 ≤ x39_2) = true := decide_eq_true c10
                  clear c10
                  by_cases c11 : x39_2 < (l0.length : Int)
                  · rw [if_pos c11] at H
                    have c11b0 : decide (x39_2 < (l0.length : Int)) = true := decide_eq_true c11
                    clear c11
                    replace H := Option.bind_eq_some_iff.mp H
                    obtain ⟨t117, A120, H⟩ := H
                    replace H : (if t117 = 0 then (expr_Check.l0 k2 l0 a1 t111 l0 (l0.length : Int) (wrap64 (x39_2 + 1))) else (some (false, t117))) = some (r1, r2) := H
                    have A12 := Aside0.mk A120
                    clear A120
                    by_cases c13 : t117 = 0
                    · rw [if_pos c13] at H
                      have c13b0 : (t117 == 0) = true := beq_iff_eq.mpr c13
                      have c13b1 : (t117 != 0) = false := bne_eq_false_iff_eq.mpr c13
                      clear c13
                      have H' := Aside0.mk H
                      clear H
                      have p115 : 0 ≤ (x39_2 : Int) := of_decide_eq_true (by first | (with_reducible assumption) | assumption)
                      have q115 : x39_2 < (l0.length : Int) := of_decide_eq_true (by first | (with_reducible assumption) | assumption)
                      obtain ⟨ad115, e115, hx115_0, hx115_1⟩ := at_T35 HR0.out x39_2 p115 q115
                      cases e115
                      replace hx115_0 := (HB.out.cell (World.block_lt_of_cell? w _ hx115_0)).trans hx115_0
                      replace hx115_1 := (HB.out.cell (World.block_lt_of_cell? w _ hx115_1)).trans hx115_1
                      replace p115 := eq_true p115
                      replace q115 := eq_true q115
                      go_wp2_with (first | ((with_reducible refine gate_dst (N := 9) rfl ?_); refine box_event ?hg (N := 9) ?hd (cs := #[.int .i64 0, .int .i64 0]) (t := 35) ?hr ?_; (case hd => rfl); (case hg => rfl); (case hr => first | (go_simp; done) | (go_simp; rfl)); intro gb116 hg w14 hbox hb; have n0_ := Aside0.mk (Kd.R_below (by (with_reducible repeat (first | apply Kd.R_alloc | apply Kd.R_drewN | apply Kd.R_drew)); exact HO_6.out) hb); have n1_ := Aside0.mk (below_step (by repeat (first | (with_reducible first | exact HB.out | apply below_alloc | apply pw_below_drewN | apply below_drew1) | exact HB.out)) hb); have n2_ := Aside0.mk (hbox); have n3_ := Aside0.mk ((by rw [hg]; exact (below_size (by repeat (first | (with_reducible first | exact HB.out | apply below_alloc | apply pw_below_drewN | apply below_drew1) | exact HB.out))) : w.heap.size ≤ gb116)); have n4_ := Aside0.mk ((by rw [hg]; exact (below_size (by repeat (first | (with_reducible first | exact HB.out | apply below_alloc | apply pw_below_drewN | apply below_drew1) | exact HB.out))) : w.heap.size ≤ gb116)); clear HO_6; clear HB; have HO_6 := n0_; have HB := n1_; have BK116 := n2_; have GW116 := n3_; have GE116 := n4_; clear n0_ n1_ n2_ n3_ n4_; clear hb hbox hg; have hcz15_0 : w14.cell? ⟨gb116, 0, none⟩ = some (.int .i64 0) := (blk_cell BK116.out 0).trans rfl; have hcz15_1 : w14.cell? ⟨gb116, 1, none⟩ = some (.int .i64 0) := (blk_cell BK116.out 1).trans rfl; have hfz15_0 := blk_frozen BK116.out 0; have hfz15_1 := blk_frozen BK116.out 1) | ((with_reducible refine gate_callee (f := 53) rfl ?_); refine goesL_ (some 45) rfl rfl Tryd.func53 (by kernel_rfl) rfl #[.agg #[.int .i64 ((rd_T35 l0 x39_2).f0), .int .i64 ((rd_T35 l0 x39_2).f1)], .int .i64 a1] rfl (by (try simp only [List.map_toArray, List.map_cons, List.map_nil]); first | done | rfl | (simp only [List.length_drop, List.length_take]; rfl)) ?_; (with_reducible refine (expr_op.calls k2 ((rd_T35 l0 x39_2).f0) ((rd_T35 l0 x39_2).f1) a1 t117 _ A12.out).mono ?_); rintro e w16 ⟨rfl, hb⟩; refine ⟨_, rfl, ?_⟩; have n0_ := Aside0.mk (Kd.R_below (by (with_reducible repeat (first | apply Kd.R_alloc | apply Kd.R_drewN | apply Kd.R_drew)); exact (Kd.R_mono (Kd.R_far (p := ⟨gb116, 1, none⟩) (Kd.R_far (p := ⟨gb116, 0, none⟩) (Kd.R_types HO_6.out BK116.out (by decide)) (fun _ hk => hk.2) (.int .i64 ((rd_T35 l0 x39_2).f0))) (fun _ hk => hk.2) (.int .i64 ((rd_T35 l0 x39_2).f1))) (fun _ h_ => h_.1))) hb); have n1_ := Aside0.mk (blk_below (g := gb116) (o := .cells #[.int .i64 ((rd_T35 l0 x39_2).f0), .int .i64 ((rd_T35 l0 x39_2).f1)] 35 (0, 0)) (by (with_reducible repeat (first | refine blk_drewN ?_ _ | refine blk_drew ?_ | refine blk_alloc ?_ _)); refine blk_put (cs := #[.int .i64 ((rd_T35 l0 x39_2).f0), .int .i64 0]) ?_ 1 _ rfl; (with_reducible repeat (first | refine blk_drewN ?_ _ | refine blk_drew ?_ | refine blk_alloc ?_ _)); refine blk_put (cs := #[.int .i64 0, .int .i64 0]) ?_ 0 _ rfl; (with_reducible repeat (first | refine blk_drewN ?_ _ | refine blk_drew ?_ | refine blk_alloc ?_ _)); exact BK116.out) hb); have n2_ := Aside0.mk (below_step (by repeat (first | (with_reducible first | exact HB.out | apply below_alloc | apply pw_below_drewN | apply below_drew1 | refine below_set ?_ GE116.out) | exact HB.out)) hb); clear HO_6; clear BK116; clear HB; have HO_6 := n0_; have BK116 := n1_; have HB := n2_; clear n0_ n1_ n2_; (try clear hb); (try clear hb2); (try clear hk); (try clear hi)))
                      go_roundg k2
                      case measure => have := HJ2.out; have := HK2.out; omega
                      case rel => exact ⟨(wrap64 (x39_2 + 1)), (by first | rfl | (simp; done) | (simp [*]; done)), H', ⟨by have := HJ2.out; have := HK2.out; omega⟩, ⟨by (with_reducible repeat (first | apply Kd.R_alloc | apply Kd.R_drewN | apply Kd.R_drew)); exact HO_6.out⟩, ⟨by repeat (first | (with_reducible first | exact HB.out | apply below_alloc | apply pw_below_drewN | apply below_drew1 | refine below_set ?_ GE116.out) | exact HB.out)⟩⟩
                    · rw [if_neg c13] at H
                      have c13b0 : (t117 == 0) = false := beq_eq_false_iff_ne.mpr c13
                      have c13b1 : (t117 != 0) = true := bne_iff_ne.mpr c13
                      simp only [Option.some.injEq, Prod.mk.injEq] at H
                      obtain ⟨rfl, rfl⟩ := H
                      have p115 : 0 ≤ (x39_2 : Int) := of_decide_eq_true (by first | (with_reducible assumption) | assumption)
                      have q115 : x39_2 < (l0.length : Int) := of_decide_eq_true (by first | (with_reducible assumption) | assumption)
                      obtain ⟨ad115, e115, hx115_0, hx115_1⟩ := at_T35 HR0.out x39_2 p115 q115
                      cases e115
                      replace hx115_0 := (HB.out.cell (World.block_lt_of_cell? w _ hx115_0)).trans hx115_0
                      replace hx115_1 := (HB.out.cell (World.block_lt_of_cell? w _ hx115_1)).trans hx115_1
                      replace p115 := eq_true p115
                      replace q115 := eq_true q115
                      go_wp2_with (first | ((with_reducible refine gate_dst (N := 9) rfl ?_); refine box_event ?hg (N := 9) ?hd (cs := #[.int .i64 0, .int .i64 0]) (t := 35) ?hr ?_; (case hd => rfl); (case hg => rfl); (case hr => first | (go_simp; done) | (go_simp; rfl)); intro gb116 hg w17 hbox hb; have n0_ := Aside0.mk (Kd.R_below (by (with_reducible repeat (first | apply Kd.R_alloc | apply Kd.R_drewN | apply Kd.R_drew)); exact HO_6.out) hb); have n1_ := Aside0.mk (below_step (by repeat (first | (with_reducible first | exact HB.out | apply below_alloc | apply pw_below_drewN | apply below_drew1) | exact HB.out)) hb); have n2_ := Aside0.mk (hbox); have n3_ := Aside0.mk ((by rw [hg]; exact (below_size (by repeat (first | (with_reducible first | exact HB.out | apply below_alloc | apply pw_below_drewN | apply below_drew1) | exact HB.out))) : w.heap.size ≤ gb116)); have n4_ := Aside0.mk ((by rw [hg]; exact (below_size (by repeat (first | (with_reducible first | exact HB.out | apply below_alloc | apply pw_below_drewN | apply below_drew1) | exact HB.out))) : w.heap.size ≤ gb116)); clear HO_6; clear HB; have HO_6 := n0_; have HB := n1_; have BK116 := n2_; have GW116 := n3_; have GE116 := n4_; clear n0_ n1_ n2_ n3_ n4_; clear hb hbox hg; have hcz18_0 : w17.cell? ⟨gb116, 0, none⟩ = some (.int .i64 0) := (blk_cell BK116.out 0).trans rfl; have hcz18_1 : w17.cell? ⟨gb116, 1, none⟩ = some (.int .i64 0) := (blk_cell BK116.out 1).trans rfl; have hfz18_0 := blk_frozen BK116.out 0; have hfz18_1 := blk_frozen BK116.out 1) | ((with_reducible refine gate_callee (f := 53) rfl ?_); refine goesL_ (some 45) rfl rfl Tryd.func53 (by kernel_rfl) rfl #[.agg #[.int .i64 ((rd_T35 l0 x39_2).f0), .int .i64 ((rd_T35 l0 x39_2).f1)], .int .i64 a1] rfl (by (try simp only [List.map_toArray, List.map_cons, List.map_nil]); first | done | rfl | (simp only [List.length_drop, List.length_take]; rfl)) ?_; (with_reducible refine (expr_op.calls k2 ((rd_T35 l0 x39_2).f0) ((rd_T35 l0 x39_2).f1) a1 t117 _ A12.out).mono ?_); rintro e w19 ⟨rfl, hb⟩; refine ⟨_, rfl, ?_⟩; have n0_ := Aside0.mk (Kd.R_below (by (with_reducible repeat (first | apply Kd.R_alloc | apply Kd.R_drewN | apply Kd.R_drew)); exact (Kd.R_mono (Kd.R_far (p := ⟨gb116, 1, none⟩) (Kd.R_far (p := ⟨gb116, 0, none⟩) (Kd.R_types HO_6.out BK116.out (by decide)) (fun _ hk => hk.2) (.int .i64 ((rd_T35 l0 x39_2).f0))) (fun _ hk => hk.2) (.int .i64 ((rd_T35 l0 x39_2).f1))) (fun _ h_ => h_.1))) hb); have n1_ := Aside0.mk (blk_below (g := gb116) (o := .cells #[.int .i64 ((rd_T35 l0 x39_2).f0), .int .i64 ((rd_T35 l0 x39_2).f1)] 35 (0, 0)) (by (with_reducible repeat (first | refine blk_drewN ?_ _ | refine blk_drew ?_ | refine blk_alloc ?_ _)); refine blk_put (cs := #[.int .i64 ((rd_T35 l0 x39_2).f0), .int .i64 0]) ?_ 1 _ rfl; (with_reducible repeat (first | refine blk_drewN ?_ _ | refine blk_drew ?_ | refine blk_alloc ?_ _)); refine blk_put (cs := #[.int .i64 0, .int .i64 0]) ?_ 0 _ rfl; (with_reducible repeat (first | refine blk_drewN ?_ _ | refine blk_drew ?_ | refine blk_alloc ?_ _)); exact BK116.out) hb); have n2_ := Aside0.mk (below_step (by repeat (first | (with_reducible first | exact HB.out | apply below_alloc | apply pw_below_drewN | apply below_drew1 | refine below_set ?_ GE116.out) | exact HB.out)) hb); clear HO_6; clear BK116; clear HB; have HO_6 := n0_; have BK116 := n1_; have HB := n2_; clear n0_ n1_ n2_; (try clear hb); (try clear hb2); (try clear hk); (try clear hi)))
                      go_ret2
                      exact ⟨by first | rfl | (simp [errW_none, errW_some] <;> rfl) | (simp [*, errW_none, errW_some] <;> rfl), by repeat (first | (with_reducible first | exact HB.out | apply below_alloc | apply pw_below_drewN | apply below_drew1 | refine below_set ?_ GE116.out) | exact HB.out)⟩
                  · rw [if_neg c11] at H
                    exact absurd H (by simp)
                · rw [if_neg c10] at H
                  exact absurd H (by simp)
              · rw [if_neg c9] at H
                have c9b0 : decide (x39_2 < (l0.length : Int)) = false := decide_eq_false c9
                clear c9
                have H' := Aside0.mk H
                clear H
                go_wp2
                go_loopg [52] k2 (fun kq v52 w' => ∃ (x52_3 : Int), v52 = .int .i64 x52_3 ∧ Aside0 (expr_Check.l1 kq l0 t111 l0 (l0.length : Int) x52_3 = some (r1, r2)) ∧ Aside0 (kq ≤ k2) ∧ Aside0 (Kd.R (Kd.int .i64) 3 w' w.heap.size (fun _ => True) v113 t111) ∧ Aside0 (Below w.heap.size w w'))
                case atStart => exact ⟨(0), (by first | rfl | (simp; done) | (simp [*]; done)), H', ⟨Nat.le_refl _⟩, ⟨by (with_reducible repeat (first | apply Kd.R_alloc | apply Kd.R_drewN | apply Kd.R_drew)); exact HO_6.out⟩, ⟨by repeat (first | (with_reducible first | exact HB.out | apply below_alloc | apply pw_below_drewN | apply below_drew1) | exact HB.out)⟩⟩
                case round =>
                  clear H'
                  try clear c1
                  try clear p1
                  try clear q1
                  try clear hx1
                  try clear p2
                  try clear c4
                  try clear c4b0
                  try clear c5
                  try clear p6
                  try clear c7
                  try clear c7b0
                  try clear c7b1
                  try clear c9
                  try clear c9b0
                  try clear c10
                  try clear c10b0
                  try clear c11
                  try clear c11b0
                  try clear p11
                  try clear q11
                  try clear hx11
                  try clear c13
                  try clear c13b0
                  try clear c13b1
                  try clear hcz15_0
                  try clear hcz15_1
                  try clear hcz18_0
                  try clear hcz18_1
                  try clear hfz15_0
                  try clear hfz15_1
                  try clear hfz18_0
                  try clear hfz18_1
                  try clear hx115_0
                  try clear hx115_1
                  try clear p115
                  try clear p2
                  try clear q115
                  obtain ⟨x52_3, rfl, HA, HK3, HO_6, HB⟩ := hrel
                  cases gk with
                  | zero => exact absurd HA.out (by simp [expr_Check.l1])
                  | succ k3 =>
                    have H := HA.out
                    clear HA
                    simp only [expr_Check.l1] at H
                    by_cases c20 : x52_3 < (l0.length : Int)
                    · rw [if_pos c20] at H
                      have c20b0 : decide (x52_3 < (l0.length : Int)) = true := decide_eq_true c20
                      clear c20
                      by_cases c21 : 0 ≤ x52_3
                      · rw [if_pos c21] at H
                        have c21b0 : decide (0 ≤ x52_3) = true := decide_eq_true c21
                        clear c21
                        by_cases c22 : x52_3 < (l0.length : Int)
                        · rw [if_pos c22] at H
                          have c22b0 : decide (x52_3 < (l0.length : Int)) = true := decide_eq_true c22
                          clear c22
                          replace H := Option.bind_eq_some_iff.mp H
                          obtain ⟨⟨t124, t125, t126⟩, A230, H⟩ := H
                          replace H : (expr_Check.l2 k3 l0 t111 x52_3 t125 (wrap64 (x52_3 + 1)) l0 (l0.length : Int) x52_3) = some (r1, r2) := H
                          have A23 := Aside0.mk A230
                          clear A230
                          have H' := Aside0.mk H
                          clear H
                          have p122 : 0 ≤ (x52_3 : Int) := of_decide_eq_true (by first | (with_reducible assumption) | assumption)
                          have q122 : x52_3 < (l0.length : Int) := of_decide_eq_true (by first | (with_reducible assumption) | assumption)
                          obtain ⟨ad122, e122, hx122_0, hx122_1⟩ := at_T35 HR0.out x52_3 p122 q122
                          cases e122
                          replace hx122_0 := (HB.out.cell (World.block_lt_of_cell? w _ hx122_0)).trans hx122_0
                          replace hx122_1 := (HB.out.cell (World.block_lt_of_cell? w _ hx122_1)).trans hx122_1
                          replace p122 := eq_true p122
                          replace q122 := eq_true q122
                          go_wp2_with (first | ((with_reducible refine gate_dst (N := 12) rfl ?_); refine box_event ?hg (N := 12) ?hd (cs := #[.int .i64 0, .int .i64 0]) (t := 35) ?hr ?_; (case hd => rfl); (case hg => rfl); (case hr => first | (go_simp; done) | (go_simp; rfl)); intro gb123 hg w24 hbox hb; have n0_ := Aside0.mk (Kd.R_below (by (with_reducible repeat (first | apply Kd.R_alloc | apply Kd.R_drewN | apply Kd.R_drew)); exact HO_6.out) hb); have n1_ := Aside0.mk (below_step (by repeat (first | (with_reducible first | exact HB.out | apply below_alloc | apply pw_below_drewN | apply below_drew1) | exact HB.out)) hb); have n2_ := Aside0.mk (hbox); have n3_ := Aside0.mk ((by rw [hg]; exact (below_size (by repeat (first | (with_reducible first | exact HB.out | apply below_alloc | apply pw_below_drewN | apply below_drew1) | exact HB.out))) : w.heap.size ≤ gb123)); have n4_ := Aside0.mk ((by rw [hg]; exact (below_size (by repeat (first | (with_reducible first | exact HB.out | apply below_alloc | apply pw_below_drewN | apply below_drew1) | exact HB.out))) : w.heap.size ≤ gb123)); clear HO_6; clear HB; have HO_6 := n0_; have HB := n1_; have BK123 := n2_; have GW123 := n3_; have GE123 := n4_; clear n0_ n1_ n2_ n3_ n4_; clear hb hbox hg; have hcz25_0 : w24.cell? ⟨gb123, 0, none⟩ = some (.int .i64 0) := (blk_cell BK123.out 0).trans rfl; have hcz25_1 : w24.cell? ⟨gb123, 1, none⟩ = some (.int .i64 0) := (blk_cell BK123.out 1).trans rfl; have hfz25_0 := blk_frozen BK123.out 0; have hfz25_1 := blk_frozen BK123.out 1) | ((with_reducible refine gate_callee (f := 54) rfl ?_); refine goesL_ (some 60) rfl rfl Tryd.func54 (by kernel_rfl) rfl #[.int .i64 ((rd_T35 l0 x52_3).f0)] rfl (by (try simp only [List.map_toArray, List.map_cons, List.map_nil]); first | done | rfl | (simp only [List.length_drop, List.length_take]; rfl)) ?_; (with_reducible refine (expr_truth.calls k3 ((rd_T35 l0 x52_3).f0) t124 t125 t126 _ A23.out).mono ?_); rintro e w' ⟨rfl, ⟨nd, rfl⟩⟩; refine ⟨_, rfl, ?_⟩))
                          go_loopg [16] k3 (fun kq v16 w' => ∃ (x16_4 : Int), v16 = .int .i64 x16_4 ∧ Aside0 (expr_Check.l2 kq l0 t111 x52_3 t125 x16_4 l0 (l0.length : Int) x52_3 = some (r1, r2)) ∧ Aside0 (kq ≤ k3) ∧ Aside0 (Kd.R (Kd.int .i64) 3 w' w.heap.size (fun _ => True) v113 t111) ∧ Aside0 (w'.heap[gb123]? = some (.cells #[.int .i64 ((rd_T35 l0 x52_3).f0), .int .i64 ((rd_T35 l0 x52_3).f1)] 35 (0, 0))) ∧ Aside0 (Below w.heap.size w w'))
                          case atStart => exact ⟨(wrap64 (x52_3 + 1)), (by first | rfl | (simp; done) | (simp [*]; done)), H', ⟨Nat.le_refl _⟩, ⟨by (with_reducible repeat (first | apply Kd.R_alloc | apply Kd.R_drewN | apply Kd.R_drew)); exact Kd.R_mono (Kd.R_far (p := ⟨gb123, 1, none⟩) (Kd.R_far (p := ⟨gb123, 0, none⟩) (Kd.R_types HO_6.out BK123.out (by decide)) (fun _ hk => hk.2) (.int .i64 ((rd_T35 l0 x52_3).f0))) (fun _ hk => hk.2) (.int .i64 ((rd_T35 l0 x52_3).f1))) (fun _ hk => trivial)⟩, ⟨by (with_reducible repeat (first | refine blk_drewN ?_ _ | refine blk_drew ?_ | refine blk_alloc ?_ _)); refine blk_put (cs := #[.int .i64 ((rd_T35 l0 x52_3).f0), .int .i64 0]) ?_ 1 _ rfl; (with_reducible repeat (first | refine blk_drewN ?_ _ | refine blk_drew ?_ | refine blk_alloc ?_ _)); refine blk_put (cs := #[.int .i64 0, .int .i64 0]) ?_ 0 _ rfl; (with_reducible repeat (first | refine blk_drewN ?_ _ | refine blk_drew ?_ | refine blk_alloc ?_ _)); exact BK123.out⟩, ⟨by repeat (first | (with_reducible first | exact HB.out | apply below_alloc | apply pw_below_drewN | apply below_drew1 | refine below_set ?_ GE123.out) | exact HB.out)⟩⟩
                          case round =>
                            clear H'
                            try clear c1
                            try clear p1
                            try clear q1
                            try clear hx1
                            try clear c2
                            try clear p2
                            try clear c4
                            try clear c4b0
                            try clear c5
                            try clear p6
                            try clear c7
                            try clear c7b0
                            try clear c7b1
                            try clear c9
                            try clear c9b0
                            try clear c10
                            try clear c10b0
                            try clear c11
                            try clear c11b0
                            try clear p11
                            try clear q11
                            try clear hx11
                            try clear p12
                            try clear q12
                            try clear hx12
                            try clear c13
                            try clear c13b0
                            try clear c13b1
                            try clear c20
                            try clear c20b0
                            try clear c21
                            try clear c21b0
                            try clear c22
                            try clear c22b0
                            try clear hcz15_0
                            try clear hcz15_1
                            try clear hcz18_0
                            try clear hcz18_1
                            try clear hcz25_0
                            try clear hcz25_1
                            try clear hfz15_0
                            try clear hfz15_1
                            try clear hfz18_0
                            try clear hfz18_1
                            try clear hfz25_0
                            try clear hfz25_1
                            try clear hx115_0
                            try clear hx115_1
                            try clear hx122_0
                            try clear hx122_1
                            try clear p1
                            try clear p11
                            try clear p115
                            try clear p122
                            try clear p2
                            try clear p6
                            try clear q1
                            try clear q11
                            try clear q115
                            try clear q122
                            obtain ⟨x16_4, rfl, HA, HK4, HO_6, BK123, HB⟩ := hrel
                            cases gk with
                            | zero => exact absurd HA.out (by simp [expr_Check.l2])
                            | succ k4 =>
                              have H := HA.out
                              clear HA
                              simp only [expr_Check.l2] at H
                              by_cases c26 : 0 ≤ x52_3
                              · rw [if_pos c26] at H
                                have c26b0 : decide (0 ≤ x52_3) = true := decide_eq_true c26
                                clear c26
                                by_cases c27 : x52_3 < (t111.length : Int)
                                · rw [if_pos c27] at H
                                  have c27b0 : decide (x52_3 < (t111.length : Int)) = true := decide_eq_true c27
                                  clear c27
                                  by_cases c28 : x16_4 < (rd t111 x52_3)
                                  · rw [if_pos c28] at H
                                    have c28b0 : decide (x16_4 < (rd t111 x52_3)) = true := decide_eq_true c28
                                    clear c28
                                    by_cases c29 : 0 ≤ x16_4
                                    · rw [if_pos c29] at H
                                      have c29b0 : decide (0 ≤ x16_4) = true := decide_eq_true c29
                                      clear c29
                                      by_cases c30 : x16_4 < (l0.length : Int)
                                      · rw [if_pos c30] at H
                                        have c30b0 : decide (x16_4 < (l0.length : Int)) = true := decide_eq_true c30
                                        clear c30
                                        replace H := Option.bind_eq_some_iff.mp H
                                        obtain ⟨⟨t129, t130, t131⟩, A310, H⟩ := H
                                        replace H : (if (t129 != t125) = true then (some (false, 5)) else (if x16_4 < (t111.length : Int) then (expr_Check.l2 k4 l0 t111 x52_3 t125 (rd t111 x16_4) l0 (l0.length : Int) x52_3) else (none))) = some (r1, r2) := H
                                        have A31 := Aside0.mk A310
                                        clear A310
                                        by_cases c32 : (t129 != t125) = true
                                        · rw [if_pos c32] at H
                                          have c32b0 : (t129 != t125) = true := c32
                                          (try (have c32b1 : decide (t129 = t125) = false := by simpa using c32))
                                          (try (have c32b2 : (t129 == t125) = false := by simpa using c32))
                                          (try (have c32b3 : ¬ (t129 = t125) := by simpa using c32))
                                          clear c32
                                          simp only [Option.some.injEq, Prod.mk.injEq] at H
                                          obtain ⟨rfl, rfl⟩ := H
                                          obtain ⟨Ao33, co33, eo33⟩ := Kd.R_slice HO_6.out
                                          subst eo33
                                          have p127 : 0 ≤ (x52_3 : Int) := of_decide_eq_true (by first | (with_reducible assumption) | assumption)
                                          have q127 : x52_3 < (t111.length : Int) := of_decide_eq_true (by first | (with_reducible assumption) | assumption)
                                          obtain ⟨ad127, e127, hx127_0⟩ := Kd.at_int (Kd.R_reads' HO_6.out).2.2 x52_3 p127 q127
                                          cases e127
                                          replace p127 := eq_true p127
                                          replace q127 := eq_true q127
                                          have p128 : 0 ≤ (x16_4 : Int) := of_decide_eq_true (by first | (with_reducible assumption) | assumption)
                                          have q128 : x16_4 < (l0.length : Int) := of_decide_eq_true (by first | (with_reducible assumption) | assumption)
                                          obtain ⟨ad128, e128, hx128_0, hx128_1⟩ := at_T35 HR0.out x16_4 p128 q128
                                          obtain rfl : ad122 = ad128 := (by injection e128)
                                          replace hx128_0 := (HB.out.cell (World.block_lt_of_cell? w _ hx128_0)).trans hx128_0
                                          replace hx128_1 := (HB.out.cell (World.block_lt_of_cell? w _ hx128_1)).trans hx128_1
                                          replace p128 := eq_true p128
                                          replace q128 := eq_true q128
                                          go_wp2_with (first | ((with_reducible refine gate_callee (f := 54) rfl ?_); refine goesL_ (some 82) rfl rfl Tryd.func54 (by kernel_rfl) rfl #[.int .i64 ((rd_T35 l0 x16_4).f0)] rfl (by (try simp only [List.map_toArray, List.map_cons, List.map_nil]); first | done | rfl | (simp only [List.length_drop, List.length_take]; rfl)) ?_; (with_reducible refine (expr_truth.calls k4 ((rd_T35 l0 x16_4).f0) t129 t130 t131 _ A31.out).mono ?_); rintro e w' ⟨rfl, ⟨nd, rfl⟩⟩; refine ⟨_, rfl, ?_⟩))
                                          go_ret2
                                          exact ⟨by first | rfl | (simp [errW_none, errW_some] <;> rfl) | (simp [*, errW_none, errW_some] <;> rfl), by repeat (first | (with_reducible first | exact HB.out | apply below_alloc | apply pw_below_drewN | apply below_drew1 | refine below_set ?_ GE123.out) | exact HB.out)⟩
                                        · rw [if_neg c32] at H
                                          have c32b0 : (t129 != t125) = false := by simpa using c32
                                          (try (have c32b1 : decide (t129 = t125) = true := by simpa using c32))
                                          (try (have c32b2 : (t129 == t125) = true := by simpa using c32))
                                          clear c32
                                          by_cases c34 : x16_4 < (t111.length : Int)
                                          · rw [if_pos c34] at H
                                            have c34b0 : decide (x16_4 < (t111.length : Int)) = true := decide_eq_true c34
                                            clear c34
                                            have H' := Aside0.mk H
                                            clear H
                                            obtain ⟨Ao35, co35, eo35⟩ := Kd.R_slice HO_6.out
                                            subst eo35
                                            have p127 : 0 ≤ (x52_3 : Int) := of_decide_eq_true (by first | (with_reducible assumption) | assumption)
                                            have q127 : x52_3 < (t111.length : Int) := of_decide_eq_true (by first | (with_reducible assumption) | assumption)
                                            obtain ⟨ad127, e127, hx127_0⟩ := Kd.at_int (Kd.R_reads' HO_6.out).2.2 x52_3 p127 q127
                                            cases e127
                                            replace p127 := eq_true p127
                                            replace q127 := eq_true q127
                                            have p128 : 0 ≤ (x16_4 : Int) := of_decide_eq_true (by first | (with_reducible assumption) | assumption)
                                            have q128 : x16_4 < (l0.length : Int) := of_decide_eq_true (by first | (with_reducible assumption) | assumption)
                                            obtain ⟨ad128, e128, hx128_0, hx128_1⟩ := at_T35 HR0.out x16_4 p128 q128
                                            obtain rfl : ad122 = ad128 := (by injection e128)
                                            replace hx128_0 := (HB.out.cell (World.block_lt_of_cell? w _ hx128_0)).trans hx128_0
                                            replace hx128_1 := (HB.out.cell (World.block_lt_of_cell? w _ hx128_1)).trans hx128_1
                                            replace p128 := eq_true p128
                                            replace q128 := eq_true q128
                                            go_wp2_with (first | ((with_reducible refine gate_callee (f := 54) rfl ?_); refine goesL_ (some 82) rfl rfl Tryd.func54 (by kernel_rfl) rfl #[.int .i64 ((rd_T35 l0 x16_4).f0)] rfl (by (try simp only [List.map_toArray, List.map_cons, List.map_nil]); first | done | rfl | (simp only [List.length_drop, List.length_take]; rfl)) ?_; (with_reducible refine (expr_truth.calls k4 ((rd_T35 l0 x16_4).f0) t129 t130 t131 _ A31.out).mono ?_); rintro e w' ⟨rfl, ⟨nd, rfl⟩⟩; refine ⟨_, rfl, ?_⟩; have p132 : 0 ≤ (x16_4 : Int) := of_decide_eq_true (by first | (with_reducible assumption) | assumption); have q132 : x16_4 < (t111.length : Int) := of_decide_eq_true (by first | (with_reducible assumption) | assumption); obtain ⟨ad132, e132, hx132_0⟩ := Kd.at_int (Kd.R_reads' HO_6.out).2.2 x16_4 p132 q132; obtain rfl : ad127 = ad132 := (by injection e132); replace p132 := eq_true p132; replace q132 := eq_true q132))
                                            go_roundg k4
                                            case measure => have := HJ2.out; have := HK2.out; have := HK3.out; have := HK4.out; omega
                                            case rel => exact ⟨(rd t111 x16_4), (by first | rfl | (simp; done) | (simp [*]; done)), H', ⟨by have := HJ2.out; have := HK2.out; have := HK3.out; have := HK4.out; omega⟩, ⟨by (with_reducible repeat (first | apply Kd.R_alloc | apply Kd.R_drewN | apply Kd.R_drew)); exact HO_6.out⟩, ⟨by (with_reducible repeat (first | refine blk_drewN ?_ _ | refine blk_drew ?_ | refine blk_alloc ?_ _)); exact BK123.out⟩, ⟨by repeat (first | (with_reducible first | exact HB.out | apply below_alloc | apply pw_below_drewN | apply below_drew1 | refine below_set ?_ GE123.out) | exact HB.out)⟩⟩
                                          · rw [if_neg c34] at H
                                            exact absurd H (by simp)
                                      · rw [if_neg c30] at H
                                        exact absurd H (by simp)
                                    · rw [if_neg c29] at H
                                      exact absurd H (by simp)
                                  · rw [if_neg c28] at H
                                    have c28b0 : decide (x16_4 < (rd t111 x52_3)) = false := decide_eq_false c28
                                    clear c28
                                    have H' := Aside0.mk H
                                    clear H
                                    obtain ⟨Ao36, co36, eo36⟩ := Kd.R_slice HO_6.out
                                    subst eo36
                                    have p127 : 0 ≤ (x52_3 : Int) := of_decide_eq_true (by first | (with_reducible assumption) | assumption)
                                    have q127 : x52_3 < (t111.length : Int) := of_decide_eq_true (by first | (with_reducible assumption) | assumption)
                                    obtain ⟨ad127, e127, hx127_0⟩ := Kd.at_int (Kd.R_reads' HO_6.out).2.2 x52_3 p127 q127
                                    cases e127
                                    replace p127 := eq_true p127
                                    replace q127 := eq_true q127
                                    go_wp2
                                    go_roundg k4
                                    case measure => have := HJ2.out; have := HK2.out; have := HK3.out; have := HK4.out; omega
                                    case rel => exact ⟨(wrap64 (x52_3 + 1)), (by first | rfl | (simp; done) | (simp [*]; done)), H', ⟨by have := HJ2.out; have := HK2.out; have := HK3.out; have := HK4.out; omega⟩, ⟨by (with_reducible repeat (first | apply Kd.R_alloc | apply Kd.R_drewN | apply Kd.R_drew)); exact HO_6.out⟩, ⟨by repeat (first | (with_reducible first | exact HB.out | apply below_alloc | apply pw_below_drewN | apply below_drew1 | refine below_set ?_ GE123.out) | exact HB.out)⟩⟩
                                · rw [if_neg c27] at H
                                  exact absurd H (by simp)
                              · rw [if_neg c26] at H
                                exact absurd H (by simp)
                        · rw [if_neg c22] at H
                          exact absurd H (by simp)
                      · rw [if_neg c21] at H
                        exact absurd H (by simp)
                    · rw [if_neg c20] at H
                      have c20b0 : decide (x52_3 < (l0.length : Int)) = false := decide_eq_false c20
                      clear c20
                      by_cases c37 : 0 < (l0.length : Int)
                      · rw [if_pos c37] at H
                        have c37b0 : decide (0 < (l0.length : Int)) = true := decide_eq_true c37
                        have c37b1 : decide (0 < l0.length) = true := decide_eq_true (by omega)
                        clear c37
                        replace H := Option.bind_eq_some_iff.mp H
                        obtain ⟨⟨t119, t120, t121⟩, A380, H⟩ := H
                        replace H : (some (t119, 0)) = some (r1, r2) := H
                        have A38 := Aside0.mk A380
                        clear A380
                        simp only [Option.some.injEq, Prod.mk.injEq] at H
                        obtain ⟨rfl, rfl⟩ := H
                        have p118 : 0 ≤ (0 : Int) := (by omega)
                        have q118 : 0 < (l0.length : Int) := of_decide_eq_true (by first | (with_reducible assumption) | assumption)
                        obtain ⟨ad118, e118, hx118_0, hx118_1⟩ := at_T35 HR0.out 0 p118 q118
                        cases e118
                        have qi118 : (0 < l0.length) = True := eq_true (by omega)
                        (try rw [show ((0 : Int)).toNat = 0 from rfl] at hx118_0)
                        (try rw [show 0 * 2 = 0 from rfl] at hx118_0)
                        (try rw [Addr.add_zero'] at hx118_0)
                        (try rw [show ((0 : Int)).toNat = 0 from rfl] at hx118_1)
                        (try rw [show 0 * 2 = 0 from rfl] at hx118_1)
                        (try rw [Addr.add_zero'] at hx118_1)
                        replace hx118_0 := (HB.out.cell (World.block_lt_of_cell? w _ hx118_0)).trans hx118_0
                        replace hx118_1 := (HB.out.cell (World.block_lt_of_cell? w _ hx118_1)).trans hx118_1
                        replace p118 := eq_true p118
                        replace q118 := eq_true q118
                        go_wp2_with (first | ((with_reducible refine gate_callee (f := 54) rfl ?_); refine goesL_ (some 95) rfl rfl Tryd.func54 (by kernel_rfl) rfl #[.int .i64 ((rd_T35 l0 0).f0)] rfl (by (try simp only [List.map_toArray, List.map_cons, List.map_nil]); first | done | rfl | (simp only [List.length_drop, List.length_take]; rfl)) ?_; (with_reducible refine (expr_truth.calls k3 ((rd_T35 l0 0).f0) t119 t120 t121 _ A38.out).mono ?_); rintro e w' ⟨rfl, ⟨nd, rfl⟩⟩; refine ⟨_, rfl, ?_⟩))
                        go_ret2
                        exact ⟨by first | rfl | (simp [errW_none, errW_some] <;> rfl) | (simp [*, errW_none, errW_some] <;> rfl), by repeat (first | (with_reducible first | exact HB.out | apply below_alloc | apply pw_below_drewN | apply below_drew1) | exact HB.out)⟩
                      · rw [if_neg c37] at H
                        exact absurd H (by simp)
        · rw [if_neg c7] at H
          have c7b0 : (t112 == 0) = false := beq_eq_false_iff_ne.mpr c7
          have c7b1 : (t112 != 0) = true := bne_iff_ne.mpr c7
          simp only [Option.some.injEq, Prod.mk.injEq] at H
          obtain ⟨rfl, rfl⟩ := H
          go_wp2_with (first | ((with_reducible refine gate_callee (f := 52) rfl ?_); refine goesL_ (some 31) rfl rfl Tryd.func52 (by kernel_rfl) rfl #[.slice A0 l0.length c0] rfl (by (try simp only [List.map_toArray, List.map_cons, List.map_nil]); first | done | rfl | (simp only [List.length_drop, List.length_take]; rfl)) ?_; (with_reducible refine (polish_Ends.calls kj2 _ _ l0 t111 t112 _ ?side1 ?side2 ?side3 A6.out).mono ?_); (case side1 => repeat (first | exact (Kd.C_below HR0.out HB.out) | (with_reducible refine Kd.C_alloc ?_ _) | (with_reducible refine Kd.C_drewN ?_ _) | (with_reducible refine Kd.C_drew ?_))); (case side2 => exact HC0.out); (case side3 => first | exact hG_ | exact Glob.drewN hG_ _ | exact Glob.below hG_ (by repeat (first | (with_reducible first | exact HB.out | apply below_alloc | apply pw_below_drewN | apply below_drew1) | exact HB.out))); rintro e w39 ⟨v113, rfl, ho0, hb⟩; refine ⟨_, rfl, ?_⟩; have n0_ := Aside0.mk (Kd.R_lower ho0 (below_size (by repeat (first | (with_reducible first | exact HB.out | apply below_alloc | apply pw_below_drewN | apply below_drew1) | exact HB.out)))); have n1_ := Aside0.mk (below_step (by repeat (first | (with_reducible first | exact HB.out | apply below_alloc | apply pw_below_drewN | apply below_drew1) | exact HB.out)) hb); clear HB; have HO114 := n0_; have HB := n1_; clear n0_ n1_; (try clear hb); (try clear hb2); (try clear hk); (try clear hi); (try clear ho0)))
          go_ret2
          exact ⟨by first | rfl | (simp [errW_none, errW_some] <;> rfl) | (simp [*, errW_none, errW_some] <;> rfl), by repeat (first | (with_reducible first | exact HB.out | apply below_alloc | apply pw_below_drewN | apply below_drew1) | exact HB.out)⟩

end Go.Proofs.YteennleoieafiaaDoor.P
end
section
namespace Go.Proofs.YteennleoieafiaaDoor.P
open Go.RowKit Go.Proofs.YteennleoieafiaaDoorW.PrintWords Go.Proofs.YteennleoieafiaaDoorW.PrintLast Go.Proofs.YteennleoieafiaaDoorW.PrintMore Go.Proofs.YteennleoieafiaaDoor.G
attribute [local go_sem] max2_int min2_int max_two min_two max_three min_three max_four min_four   -- for this text's walks alone
set_option linter.unusedVariables false
set_option linter.unusedSimpArgs false

/-! ### model_kind: function 41 -/
def model_kind.f (k : Nat) (l0 : List (S35)) (a1 : Int) (a2 : Bool) : Option (Int) := (expr_Check.f k l0 a1).bind fun bt133 => (if bt133.2 = 0 then (if (bt133.1 != a2) = true then (some 5) else (some bt133.2)) else (some bt133.2))
theorem model_kind.mono : ∀ a0 a1 a2 k, LeO (model_kind.f k a0 a1 a2) (model_kind.f (k + 1) a0 a1 a2) := by
  intro a0 a1 a2 k
  unfold model_kind.f
  repeat' first
      | (with_reducible exact expr_Check.mono _ _ _)
      | (with_reducible exact LeO.refl _)
      | (with_reducible exact LeO.none _)
      | (with_reducible refine LeO.ite ?_ ?_)
      | (with_reducible refine LeO.bind ?_ (fun _ => ?_))
      | exact expr_Check.mono _ _ _
      | exact LeO.none _
      | refine LeO.ite ?_ ?_
      | refine LeO.bind ?_ (fun _ => ?_)
set_option maxHeartbeats 8000000 in
set_option maxRecDepth 100000 in
theorem model_kind.calls (k : Nat) (A0 : Option Addr) (c0 : Nat) (l0 : List (S35)) (a1 : Int) (a2 : Bool) (r : Int) (w : World) (hr0 : Kd.C k35 w A0 l0.length l0) (hc0 : l0.length ≤ c0) (hG_ : Glob w) (h : model_kind.f k l0 a1 a2 = some r) :
    Calls Tryd.prog 41 #[.slice A0 l0.length c0, .int .i64 a1, .bool a2] w fun e w' => e = .returned (.int .i64 r) ∧ Below w.heap.size w w' := by
  have HR0 := Aside0.mk hr0
  have HC0 := Aside0.mk hc0
  clear hr0 hc0
  have HB := Aside0.mk (Below.refl w.heap.size w)
  have H : ((expr_Check.f k l0 a1).bind fun bt133 => (if bt133.2 = 0 then (if (bt133.1 != a2) = true then (some 5) else (some bt133.2)) else (some bt133.2))) = some r := h
  clear h
  replace H := Option.bind_eq_some_iff.mp H
  obtain ⟨⟨t133, t134⟩, A40, H⟩ := H
  replace H : (if t134 = 0 then (if (t133 != a2) = true then (some 5) else (some t134)) else (some t134)) = some r := H
  have A4 := Aside0.mk A40
  clear A40
  by_cases c5 : t134 = 0
  · rw [if_pos c5] at H
    have c5b0 : (t134 == 0) = true := beq_iff_eq.mpr c5
    have c5b1 : (t134 != 0) = false := bne_eq_false_iff_eq.mpr c5
    clear c5
    by_cases c6 : (t133 != a2) = true
    · rw [if_pos c6] at H
      have c6b0 : (t133 != a2) = true := c6
      (try (have c6b1 : decide (t133 = a2) = false := by simpa using c6))
      (try (have c6b2 : (t133 == a2) = false := by simpa using c6))
      (try (have c6b3 : ¬ (t133 = a2) := by simpa using c6))
      clear c6
      obtain rfl := Option.some.inj H
      go_enter Tryd.func41, Tryd.ntmps41
      go_wp2_with (first | ((with_reducible refine gate_callee (f := 42) rfl ?_); refine goesL_ (some 12) rfl rfl Tryd.func42 (by kernel_rfl) rfl #[.slice A0 l0.length c0, .int .i64 a1] rfl (by (try simp only [List.map_toArray, List.map_cons, List.map_nil]); first | done | rfl | (simp only [List.length_drop, List.length_take]; rfl)) ?_; (with_reducible refine (expr_Check.calls k _ _ l0 a1 t133 t134 _ ?side1 ?side2 ?side3 A4.out).mono ?_); (case side1 => repeat (first | exact HR0.out | (with_reducible refine Kd.C_alloc ?_ _) | (with_reducible refine Kd.C_drewN ?_ _) | (with_reducible refine Kd.C_drew ?_))); (case side2 => exact HC0.out); (case side3 => first | exact hG_ | exact Glob.drewN hG_ _ | exact Glob.below hG_ (by repeat (first | (with_reducible first | exact HB.out | apply below_alloc | apply pw_below_drewN | apply below_drew1) | exact HB.out))); rintro e w7 ⟨rfl, hb⟩; refine ⟨_, rfl, ?_⟩; have n0_ := Aside0.mk (below_step (by repeat (first | (with_reducible first | exact HB.out | apply below_alloc | apply pw_below_drewN | apply below_drew1) | exact HB.out)) hb); clear HB; have HB := n0_; clear n0_; (try clear hb); (try clear hb2); (try clear hk); (try clear hi)))
      go_ret
      exact ⟨by first | rfl | (simp [errW_none, errW_some] <;> rfl) | (simp [*, errW_none, errW_some] <;> rfl), by repeat (first | (with_reducible first | exact HB.out | apply below_alloc | apply pw_below_drewN | apply below_drew1) | exact HB.out)⟩
    · rw [if_neg c6] at H
      have c6b0 : (t133 != a2) = false := by simpa using c6
      (try (have c6b1 : decide (t133 = a2) = true := by simpa using c6))
      (try (have c6b2 : (t133 == a2) = true := by simpa using c6))
      clear c6
      obtain rfl := Option.some.inj H
      go_enter Tryd.func41, Tryd.ntmps41
      go_wp2_with (first | ((with_reducible refine gate_callee (f := 42) rfl ?_); refine goesL_ (some 12) rfl rfl Tryd.func42 (by kernel_rfl) rfl #[.slice A0 l0.length c0, .int .i64 a1] rfl (by (try simp only [List.map_toArray, List.map_cons, List.map_nil]); first | done | rfl | (simp only [List.length_drop, List.length_take]; rfl)) ?_; (with_reducible refine (expr_Check.calls k _ _ l0 a1 t133 t134 _ ?side1 ?side2 ?side3 A4.out).mono ?_); (case side1 => repeat (first | exact HR0.out | (with_reducible refine Kd.C_alloc ?_ _) | (with_reducible refine Kd.C_drewN ?_ _) | (with_reducible refine Kd.C_drew ?_))); (case side2 => exact HC0.out); (case side3 => first | exact hG_ | exact Glob.drewN hG_ _ | exact Glob.below hG_ (by repeat (first | (with_reducible first | exact HB.out | apply below_alloc | apply pw_below_drewN | apply below_drew1) | exact HB.out))); rintro e w8 ⟨rfl, hb⟩; refine ⟨_, rfl, ?_⟩; have n0_ := Aside0.mk (below_step (by repeat (first | (with_reducible first | exact HB.out | apply below_alloc | apply pw_below_drewN | apply below_drew1) | exact HB.out)) hb); clear HB; have HB := n0_; clear n0_; (try clear hb); (try clear hb2); (try clear hk); (try clear hi)))
      go_ret
      exact ⟨by first | rfl | (simp [errW_none, errW_some] <;> rfl) | (simp [*, errW_none, errW_some] <;> rfl), by repeat (first | (with_reducible first | exact HB.out | apply below_alloc | apply pw_below_drewN | apply below_drew1) | exact HB.out)⟩
  · rw [if_neg c5] at H
    have c5b0 : (t134 == 0) = false := beq_eq_false_iff_ne.mpr c5
    have c5b1 : (t134 != 0) = true := bne_iff_ne.mpr c5
    obtain rfl := Option.some.inj H
    go_enter Tryd.func41, Tryd.ntmps41
    go_wp2_with (first | ((with_reducible refine gate_callee (f := 42) rfl ?_); refine goesL_ (some 12) rfl rfl Tryd.func42 (by kernel_rfl) rfl #[.slice A0 l0.length c0, .int .i64 a1] rfl (by (try simp only [List.map_toArray, List.map_cons, List.map_nil]); first | done | rfl | (simp only [List.length_drop, List.length_take]; rfl)) ?_; (with_reducible refine (expr_Check.calls k _ _ l0 a1 t133 t134 _ ?side1 ?side2 ?side3 A4.out).mono ?_); (case side1 => repeat (first | exact HR0.out | (with_reducible refine Kd.C_alloc ?_ _) | (with_reducible refine Kd.C_drewN ?_ _) | (with_reducible refine Kd.C_drew ?_))); (case side2 => exact HC0.out); (case side3 => first | exact hG_ | exact Glob.drewN hG_ _ | exact Glob.below hG_ (by repeat (first | (with_reducible first | exact HB.out | apply below_alloc | apply pw_below_drewN | apply below_drew1) | exact HB.out))); rintro e w9 ⟨rfl, hb⟩; refine ⟨_, rfl, ?_⟩; have n0_ := Aside0.mk (below_step (by repeat (first | (with_reducible first | exact HB.out | apply below_alloc | apply pw_below_drewN | apply below_drew1) | exact HB.out)) hb); clear HB; have HB := n0_; clear n0_; (try clear hb); (try clear hb2); (try clear hk); (try clear hi)))
    go_ret
    exact ⟨by first | rfl | (simp [errW_none, errW_some] <;> rfl) | (simp [*, errW_none, errW_some] <;> rfl), by repeat (first | (with_reducible first | exact HB.out | apply below_alloc | apply pw_below_drewN | apply below_drew1) | exact HB.out)⟩

end Go.Proofs.YteennleoieafiaaDoor.P
end
section
namespace Go.Proofs.YteennleoieafiaaDoor.P
open Go.RowKit Go.Proofs.YteennleoieafiaaDoorW.PrintWords Go.Proofs.YteennleoieafiaaDoorW.PrintLast Go.Proofs.YteennleoieafiaaDoorW.PrintMore Go.Proofs.YteennleoieafiaaDoor.G
attribute [local go_sem] max2_int min2_int max_two min_two max_three min_three max_four min_four   -- for this text's walks alone
set_option linter.unusedVariables false
set_option linter.unusedSimpArgs false

/-! ### model_rule: function 31 -/
--IMPORT FModelVariables
--IMPORT FModelKind
--IMPORT Derived.WalkSpells
--IMPORT Derived.WalkLawsBesides
--IMPORT Derived.Maps.OwnSet
--IMPORT Derived.Maps.Views
--IMPORT Derived.Maps.Keyed
--IMPORT Derived.ChangeKeys
open Go.Maps Go.WideMaps
abbrev model_rule.St := S39
def model_rule.go (k : Nat) (vars : Int) : List model_rule.St → List Int → Option Int
  | [], _ => some 0
  | v :: l, seen =>
    if v.f0 < 0 ∨ v.f0 ≥ vars then some 2
    else if v.f0 ∈ seen then some 7
    else (model_kind.f k v.f1 vars false).bind fun e => if e = 0 then model_rule.go k vars l (seen ++ [v.f0]) else some e
def model_rule.f (k : Nat) (l0_0 : List (S35)) (l0_1 : List (S39)) (a1 : Int) : Option (Int) := if (l0_1.length : Int) > 6 then some 1 else (model_kind.f k l0_0 a1 true).bind fun e => if e = 0 then (if a1 ≤ 1000000 then model_rule.go k a1 l0_1 [] else none) else some e
theorem model_rule.go_mono (k : Nat) (vars : Int) : ∀ l seen, LeO (model_rule.go k vars l seen) (model_rule.go (k + 1) vars l seen)
  | [], _ => LeO.refl _
  | v :: l, seen => by
    unfold model_rule.go
    exact LeO.ite (LeO.refl _) (LeO.ite (LeO.refl _) (LeO.bind (model_kind.mono _ _ _ _) (fun _ => LeO.ite (model_rule.go_mono k vars l _) (LeO.refl _))))
theorem model_rule.mono : ∀ a0 a1 a2 k, LeO (model_rule.f k a0 a1 a2) (model_rule.f (k + 1) a0 a1 a2) := by
  intro a0 a1 a2 k
  unfold model_rule.f
  exact LeO.ite (LeO.refl _) (LeO.bind (model_kind.mono _ _ _ _) (fun _ => LeO.ite (LeO.ite (model_rule.go_mono _ _ _ _) (LeO.none _)) (LeO.refl _)))
def model_rule.keys (l : List model_rule.St) : List Lit := l.map fun v => .int .i64 v.f0
def model_rule.set (l : List model_rule.St) : DataW Unit := setOf (.agg []) (model_rule.keys l)
theorem model_rule.set_snoc (l : List model_rule.St) (v : model_rule.St) : model_rule.set (l ++ [v]) = (model_rule.set l).put (.int .i64 v.f0) (.agg []) := by
  unfold model_rule.set model_rule.keys
  rw [List.map_append, List.map_singleton, setOf_snoc]
theorem same_int (a b : Int) : (Lit.int .i64 a).sameKey (Lit.int .i64 b) = decide (a = b) := by
  by_cases c : a = b
  · subst c
    simp [Lit.sameKey]
  · rw [sameKey_ne (fun h => c (by injection h)), decide_eq_false c]
theorem model_rule.has_set (l : List model_rule.St) (k : Int) : Maps.has (model_rule.set l) (.int .i64 k) = decide (k ∈ l.map fun v => v.f0) := by
  unfold model_rule.set
  rw [has_setOf _ _ _ (fun x hx => by
    obtain ⟨v, _, rfl⟩ := List.mem_map.1 hx
    trivial)]
  unfold model_rule.keys
  rw [List.any_map, Bool.eq_iff_iff, List.any_eq_true, decide_eq_true_iff, List.mem_map]
  constructor
  · rintro ⟨v, hv, h⟩
    rw [Function.comp_apply, same_int, decide_eq_true_iff] at h
    exact ⟨v, hv, h⟩
  · rintro ⟨v, hv, h⟩
    exact ⟨v, hv, by rw [Function.comp_apply, same_int, decide_eq_true_iff]; exact h⟩
def model_rule.At (w0 w : World) (gm q : Nat) (l : List model_rule.St) : Prop := w.ownsMap Tryd.prog 3 unitElem gm q (model_rule.set l) ∧ Below w0.heap.size w0 w ∧ w0.heap.size ≤ gm ∧ gm < w.heap.size ∧ True
theorem model_rule.law : Keyed Tryd.prog 3 := int_keyed Tryd.underlying3
theorem key_int {n : Int} (h0 : 0 ≤ n) (h1 : n ≤ 1000000) : keyOf Tryd.prog 3 (.int .i64 n) = some (.int .i64 n) := by
  refine keyOf_int_mk Tryd.underlying3 ?_
  simp only [Lit.wf, IntKind.min, IntKind.max, IntKind.signed, IntKind.bits, Bool.and_eq_true, decide_eq_true_eq, if_true]
  omega
theorem cell_of_below {w w' : World} (h : Below w.heap.size w w') {a : Addr} {v : Value} (hc : w.cell? a = some v) : w'.cell? a = some v := by
  rw [h.cell (World.block_lt_of_cell? w a hc)]
  exact hc
set_option maxHeartbeats 8000000 in
set_option maxRecDepth 100000 in
theorem model_rule.calls (k : Nat) (A0_0 : Option Addr) (c0_0 : Nat) (l0_0 : List (S35)) (A0_1 : Option Addr) (c0_1 : Nat) (l0_1 : List (S39)) (a1 : Int) (r : Int) (w : World) (hr0_0 : Kd.C k35 w A0_0 l0_0.length l0_0) (hc0_0 : l0_0.length ≤ c0_0) (hr0_1 : Kd.C k39 w A0_1 l0_1.length l0_1) (hc0_1 : l0_1.length ≤ c0_1) (hG_ : Glob w) (h : model_rule.f k l0_0 l0_1 a1 = some r) :
    Calls Tryd.prog 31 #[.agg #[.slice A0_0 l0_0.length c0_0, .slice A0_1 l0_1.length c0_1], .int .i64 a1] w fun e w' => e = .returned (.int .i64 r) ∧ Below w.heap.size w w' := by
  have R0 := Aside0.mk hr0_0
  have L0 := Aside0.mk hc0_0
  have R1 := Aside0.mk hr0_1
  have L1 := Aside0.mk hc0_1
  have GL := Aside0.mk hG_
  have hu42 := Tryd.underlying42
  have hu39 := Tryd.underlying39
  clear hr0_0 hc0_0 hr0_1 hc0_1 hG_
  unfold model_rule.f at h
  by_cases c0 : (l0_1.length : Int) > 6
  · rw [if_pos c0] at h
    cases h
    have c0' : decide ((l0_1.length : Int) > 6) = true := decide_eq_true c0
    go_enter Tryd.func31, Tryd.ntmps31
    go_wp2_with (first | ((with_reducible refine gate_dst (N := 2) rfl ?_); go_must (refine box_event ?hg (N := 2) ?hd (cs := #[(.slice A0_0 l0_0.length c0_0), (.slice A0_1 l0_1.length c0_1)]) (t := 42) ?hr ?_; (case hd => rfl); (case hg => rfl); (case hr => first | (go_simp; done) | (go_simp; rfl)); intro g2 hg w1 hbox hb; have K2 := Aside0.mk hbox; have B1 := Aside0.mk hb; clear hb hbox hg; have hz0 : w1.cell? ⟨g2, 0, none⟩ = some (.slice A0_0 l0_0.length c0_0) := (blk_cell K2.out 0).trans rfl; have hz1 : w1.cell? ⟨g2, 1, none⟩ = some (.slice A0_1 l0_1.length c0_1) := (blk_cell K2.out 1).trans rfl)))
    go_ret
    exact ⟨rfl, B1.out⟩
  · rw [if_neg c0] at h
    obtain ⟨e1, he, h⟩ := Option.bind_eq_some_iff.mp h
    have HE := Aside0.mk he
    have hn : (l0_1.length : Int) ≤ 6 := by omega
    clear c0 he
    have hmm := @run_makeMap Tryd.prog
    have hz75 : ∀ w : World, (zeroValue 75).run Tryd.prog w = .ok (.agg #[]) w := fun w => by kernel_rfl
    by_cases c1 : e1 = 0
    · rw [if_pos c1] at h
      subst c1
      by_cases c2 : a1 ≤ 1000000
      · rw [if_pos c2] at h
        have HR := Aside0.mk h
        have A1M := Aside0.mk c2
        clear h c2
        go_enter Tryd.func31, Tryd.ntmps31
        go_upto_region 7 with (first | ((with_reducible refine gate_dst (N := 2) rfl ?_); go_must (refine box_event ?hg (N := 2) ?hd (cs := #[(.slice A0_0 l0_0.length c0_0), (.slice A0_1 l0_1.length c0_1)]) (t := 42) ?hr ?_; (case hd => rfl); (case hg => rfl); (case hr => first | (go_simp; done) | (go_simp; rfl)); intro g2 hg w1 hbox hb; have K2 := Aside0.mk hbox; have B1 := Aside0.mk hb; clear hb hbox hg; have hz0 : w1.cell? ⟨g2, 0, none⟩ = some (.slice A0_0 l0_0.length c0_0) := (blk_cell K2.out 0).trans rfl; have hz1 : w1.cell? ⟨g2, 1, none⟩ = some (.slice A0_1 l0_1.length c0_1) := (blk_cell K2.out 1).trans rfl)) | (go_at_call 41; go_must (refine (model_kind.calls k _ _ l0_0 a1 true _ _ (Kd.C_below R0.out B1.out) L0.out (Glob.below GL.out B1.out) HE.out).mono ?_; rintro e w2 ⟨rfl, hb⟩; have K22 := Aside0.mk (blk_below K2.out hb); have B2 := Aside0.mk (below_step B1.out hb); clear hb; have hy0 : w2.cell? ⟨g2, 0, none⟩ = some (.slice A0_0 l0_0.length c0_0) := (blk_cell K22.out 0).trans rfl; have hy1 : w2.cell? ⟨g2, 1, none⟩ = some (.slice A0_1 l0_1.length c0_1) := (blk_cell K22.out 1).trans rfl)))
        have hal1 : ∀ o, (w2.alloc o).cell? ⟨g2, 1, none⟩ = some (.slice A0_1 l0_1.length c0_1) := fun o => cell_of_below (below_alloc (Below.refl _ _) o) hy1
        go_wp2
        clear hal1
        go_loopw [27] (fun v27 wr => ∃ (q : Nat), q ≤ l0_1.length ∧ v27 = .int .i64 q ∧ Aside0 (model_rule.go k a1 (l0_1.drop q) ((l0_1.take q).map fun v => v.f0) = some r) ∧ Aside0 (model_rule.At w wr w2.heap.size q (l0_1.take q))) (fun v27 _ => l0_1.length - (intOf v27).toNat)
        case atStart => exact ⟨0, by omega, rfl, HR, ⟨World.ownsMap_made _ _ _ _, below_alloc B2.out _, B2.out.size, by rw [World.size_alloc]; omega, trivial⟩⟩
        case round =>
          have hgm := Aside0.mk B2.out.size
          generalize w2.heap.size = gm at *
          obtain ⟨q, hq, rfl, HG, HA⟩ := hrel
          clear HR
          by_cases c1 : q < l0_1.length
          · have hdr : l0_1.drop q = l0_1[q] :: l0_1.drop (q + 1) := List.drop_eq_getElem_cons c1
            have htk : l0_1.take (q + 1) = l0_1.take q ++ [l0_1[q]] := List.take_succ_eq_append_getElem c1
            obtain ⟨ad, B, cb, e0, hv0, hv1, hv2, hv3⟩ := at_T39 R1.out (q : Int) (by omega) (by omega)
            subst e0
            have hrd : rd_T39 l0_1 (q : Int) = l0_1[q] := by
              unfold rd_T39
              rw [Int.toNat_natCast, List.getD_eq_getElem?_getD, List.getElem?_eq_getElem c1]
              rfl
            rw [hrd, Int.toNat_natCast] at hv0 hv1
            rw [hrd] at hv2 hv3
            have hx0 := cell_of_below HA.out.2.1 hv0
            have hx1 := cell_of_below HA.out.2.1 hv1
            have CBL := Aside0.mk hv2
            have CB := Aside0.mk hv3
            have hg := HG.out
            rw [hdr] at hg
            clear hrd hdr hv0 hv1 hv2 hv3
            generalize l0_1[q] = v at *
            have HTK := Aside0.mk htk
            clear htk
            simp only [model_rule.go] at hg
            by_cases c2 : v.f0 < 0 ∨ v.f0 ≥ a1
            · rw [if_pos c2] at hg
              cases hg
              have C2 := Aside0.mk c2
              clear c2
              have c2' : v.f0 < 0 ∨ (0 ≤ v.f0 ∧ v.f0 ≥ a1) := by have := C2.out; omega
              rcases c2' with d1 | ⟨d1, d2⟩
              all_goals go_wp2_with (first | ((with_reducible refine gate_dst (N := 8) rfl ?_); go_must (refine box_event ?hg (N := 8) ?hd (cs := #[(.int .i64 0), (.slice none 0 0)]) (t := 39) ?hr ?_; (case hd => rfl); (case hg => rfl); (case hr => first | (go_simp; done) | (go_simp; rfl)); intro g6 hg w3 hbox hb; have K6 := Aside0.mk hbox; have G6 := Aside0.mk (show wr.heap.size ≤ g6 by rw [hg]; exact Nat.le_refl _); have B3 := Aside0.mk hb; clear hb hbox hg; have ha0 : w3.cell? ⟨g6, 0, none⟩ = some (.int .i64 0) := (blk_cell K6.out 0).trans rfl; have fha0 := blk_frozen K6.out 0; have ha1 : w3.cell? ⟨g6, 1, none⟩ = some (.slice none 0 0) := (blk_cell K6.out 1).trans rfl; have fha1 := blk_frozen K6.out 1)) | ((with_reducible refine gate_store (t := 39) (p := 8) rfl ?_); go_must (refine store_event (t := 39) (p := 8) (v := .tmp 30) (w1 := ((w3.setCell ⟨g6, 0, none⟩ (.int .i64 v.f0)).setCell ⟨g6, 1, none⟩ (.slice B v.f1.length cb))) ?hg ?ho ?hn ?hr ?_; (case ho => rfl); (case hg => rfl); (case hn => rfl); (case hr => first | (go_simp; done) | (go_simp; rfl)); intro w4 hw; have K7 := Aside0.mk (show w4.heap[g6]? = some (.cells #[(.int .i64 v.f0), (.slice B v.f1.length cb)] 39 (0, 0)) by rw [hw]; exact blk_put (blk_put K6.out 0 _ rfl) 1 _ rfl); have B4 := Aside0.mk (show Below wr.heap.size wr w4 by rw [hw]; exact (B3.out.setCell G6.out _).setCell G6.out _); clear hw ha0 ha1 fha0 fha1; have hb0 : w4.cell? ⟨g6, 0, none⟩ = some (.int .i64 v.f0) := (blk_cell K7.out 0).trans rfl; have hb1 : w4.cell? ⟨g6, 1, none⟩ = some (.slice B v.f1.length cb) := (blk_cell K7.out 1).trans rfl)))
              all_goals go_ret
              all_goals exact ⟨rfl, HA.out.2.1.trans (B4.out.mono HA.out.2.1.size)⟩
            · rw [if_neg c2] at hg
              have c2a : 0 ≤ v.f0 := by omega
              have c2b : v.f0 < a1 := by omega
              have hkey := key_int c2a (by have := A1M.out; omega)
              clear c2
              have HG2 := Aside0.mk hg
              have HK := Aside0.mk hkey
              clear hg hkey
              go_upto_region 12 with (first | ((with_reducible refine gate_dst (N := 8) rfl ?_); go_must (refine box_event ?hg (N := 8) ?hd (cs := #[(.int .i64 0), (.slice none 0 0)]) (t := 39) ?hr ?_; (case hd => rfl); (case hg => rfl); (case hr => first | (go_simp; done) | (go_simp; rfl)); intro g6 hg w3 hbox hb; have K6 := Aside0.mk hbox; have G6 := Aside0.mk (show wr.heap.size ≤ g6 by rw [hg]; exact Nat.le_refl _); have B3 := Aside0.mk hb; clear hb hbox hg; have ha0 : w3.cell? ⟨g6, 0, none⟩ = some (.int .i64 0) := (blk_cell K6.out 0).trans rfl; have fha0 := blk_frozen K6.out 0; have ha1 : w3.cell? ⟨g6, 1, none⟩ = some (.slice none 0 0) := (blk_cell K6.out 1).trans rfl; have fha1 := blk_frozen K6.out 1)) | ((with_reducible refine gate_store (t := 39) (p := 8) rfl ?_); go_must (refine store_event (t := 39) (p := 8) (v := .tmp 30) (w1 := ((w3.setCell ⟨g6, 0, none⟩ (.int .i64 v.f0)).setCell ⟨g6, 1, none⟩ (.slice B v.f1.length cb))) ?hg ?ho ?hn ?hr ?_; (case ho => rfl); (case hg => rfl); (case hn => rfl); (case hr => first | (go_simp; done) | (go_simp; rfl)); intro w4 hw; have K7 := Aside0.mk (show w4.heap[g6]? = some (.cells #[(.int .i64 v.f0), (.slice B v.f1.length cb)] 39 (0, 0)) by rw [hw]; exact blk_put (blk_put K6.out 0 _ rfl) 1 _ rfl); have B4 := Aside0.mk (show Below wr.heap.size wr w4 by rw [hw]; exact (B3.out.setCell G6.out _).setCell G6.out _); clear hw ha0 ha1 fha0 fha1; have hb0 : w4.cell? ⟨g6, 0, none⟩ = some (.int .i64 v.f0) := (blk_cell K7.out 0).trans rfl; have hb1 : w4.cell? ⟨g6, 1, none⟩ = some (.slice B v.f1.length cb) := (blk_cell K7.out 1).trans rfl)))
              have hown := Aside0.mk (own_of (w' := w4) HA.out.1 (B4.out.block _ HA.out.2.2.2.1))
              have hhas := model_rule.has_set (l0_1.take q) v.f0
              clear hx0 hx1
              have hg := HG2.out
              by_cases c3 : v.f0 ∈ (l0_1.take q).map fun v => v.f0
              · rw [if_pos c3] at hg
                cases hg
                rw [decide_eq_true c3] at hhas
                go_wp2_with (first | (at_lookup; go_must (refine wpList_lookup_own_unit _ rfl (.tmp 41) (.tmp 43) 76 rfl 3 75 model_rule.law Tryd.underlying76 (hz75 _) gm q (model_rule.set (l0_1.take q)) rfl hown.out (.int .i64 v.f0) (.int .i64 v.f0) rfl HK.out ?_)))
                go_ret
                exact ⟨rfl, HA.out.2.1.trans ((below_alloc B4.out _).mono HA.out.2.1.size)⟩
              · rw [if_neg c3] at hg
                rw [decide_eq_false c3] at hhas
                obtain ⟨e2, he2, hg⟩ := Option.bind_eq_some_iff.mp hg
                have HE2 := Aside0.mk he2
                have HG3 := Aside0.mk hg
                clear hg he2 c3 HG2
                have GNE := Aside0.mk (show g6 ≠ gm by have := G6.out; have := HA.out.2.2.2.1; omega)
                have GMB := HA.out.2.2.1
                go_upto_region 16 with (first | (at_lookup; go_must (refine wpList_lookup_own_unit _ rfl (.tmp 41) (.tmp 43) 76 rfl 3 75 model_rule.law Tryd.underlying76 (hz75 _) gm q (model_rule.set (l0_1.take q)) rfl hown.out (.int .i64 v.f0) (.int .i64 v.f0) rfl HK.out ?_)) | ((with_reducible refine gate_dst (N := 9) rfl ?_); go_must (refine box_event ?hg (N := 9) ?hd (cs := #[]) (t := 75) ?hr ?_; (case hd => rfl); (case hg => rfl); (case hr => first | (go_simp; done) | (go_simp; rfl)); intro g7 hg w6 hbox hb; have K9 := Aside0.mk (blk_below K7.out hb); have B6 := Aside0.mk (below_step B4.out hb); have hown6 := Aside0.mk (own_of (w' := w6) HA.out.1 (B6.out.block _ HA.out.2.2.2.1)); clear hb hbox hg; have hd0 : w6.cell? ⟨g6, 0, none⟩ = some (.int .i64 v.f0) := (blk_cell K9.out 0).trans rfl; have hd1 : w6.cell? ⟨g6, 1, none⟩ = some (.slice B v.f1.length cb) := (blk_cell K9.out 1).trans rfl)) | (at_mapUpdate; go_must (refine wpList_mapUpdate_own _ rfl (.tmp 48) (.tmp 50) (.tmp 51) 76 rfl 3 75 model_rule.law Tryd.underlying76 unitElem gm q (model_rule.set (l0_1.take q)) rfl hown6.out (by unfold maxLen; omega) (.int .i64 v.f0) (.agg #[]) (.int .i64 v.f0) rfl rfl HK.out (.agg []) [] unitElem_mk ?_; intro w7 hown7 hgrow7; have O7 := Aside0.mk hown7; have GR7 := Aside0.mk hgrow7; have K10 := Aside0.mk (blk_grown K9.out hgrow7 (fun e => GNE.out (by injection e))); have BW := Aside0.mk (show Below w.heap.size w w7 from (HA.out.2.1.trans (B6.out.mono HA.out.2.1.size)).grown GR7.out (Nat.le_trans HA.out.2.1.size B6.out.size) (fun k hk => by cases hk; exact HA.out.2.2.1)); clear hown7 hgrow7; have he0 : w7.cell? ⟨g6, 0, none⟩ = some (.int .i64 v.f0) := (blk_cell K10.out 0).trans rfl; have he1 : w7.cell? ⟨g6, 1, none⟩ = some (.slice B v.f1.length cb) := (blk_cell K10.out 1).trans rfl)))
                clear hhas
                have hg := HG3.out
                by_cases c4 : e2 = 0
                · rw [if_pos c4] at hg
                  have HG4 := Aside0.mk hg
                  subst c4
                  clear hg
                  go_wp2_with (first | (go_at_call 41; go_must (refine (model_kind.calls k _ _ v.f1 a1 false _ _ (Kd.C_below CB.out BW.out) CBL.out (Glob.below GL.out BW.out) HE2.out).mono ?_; rintro e w8 ⟨rfl, hb⟩; have B8 := Aside0.mk hb; clear hb)))
                  go_roundw
                  case rel => exact ⟨q + 1, by omega, by go_num, ⟨by rw [HTK.out, List.map_append]; exact HG4.out⟩, ⟨by rw [HTK.out, model_rule.set_snoc]; exact own_of O7.out (B8.out.block _ (Nat.lt_of_lt_of_le HA.out.2.2.2.1 (Nat.le_trans B6.out.size GR7.out.size))), BW.out.trans (B8.out.mono BW.out.size), GMB, Nat.lt_of_lt_of_le HA.out.2.2.2.1 (Nat.le_trans B6.out.size (Nat.le_trans GR7.out.size B8.out.size)), trivial⟩⟩
                  case measure => simp [intOf]; omega
                · rw [if_neg c4] at hg
                  have c4' : (e2 != 0) = true := by simpa using c4
                  clear c4
                  cases hg
                  go_wp2_with (first | (go_at_call 41; go_must (refine (model_kind.calls k _ _ v.f1 a1 false _ _ (Kd.C_below CB.out BW.out) CBL.out (Glob.below GL.out BW.out) HE2.out).mono ?_; rintro e w8 ⟨rfl, hb⟩; have B8 := Aside0.mk hb; clear hb)))
                  go_ret
                  exact ⟨rfl, BW.out.trans (B8.out.mono BW.out.size)⟩
          · obtain rfl : q = l0_1.length := by omega
            have hg := HG.out
            rw [List.drop_length] at hg
            simp only [model_rule.go] at hg
            cases hg
            clear c1
            go_wp2
            go_ret
            exact ⟨rfl, HA.out.2.1⟩
      · rw [if_neg c2] at h
        exact absurd h (by simp)
    · rw [if_neg c1] at h
      have c1' : (e1 != 0) = true := by simpa using c1
      clear c1
      cases h
      go_enter Tryd.func31, Tryd.ntmps31
      go_wp2_with (first | ((with_reducible refine gate_dst (N := 2) rfl ?_); go_must (refine box_event ?hg (N := 2) ?hd (cs := #[(.slice A0_0 l0_0.length c0_0), (.slice A0_1 l0_1.length c0_1)]) (t := 42) ?hr ?_; (case hd => rfl); (case hg => rfl); (case hr => first | (go_simp; done) | (go_simp; rfl)); intro g2 hg w1 hbox hb; have K2 := Aside0.mk hbox; have B1 := Aside0.mk hb; clear hb hbox hg; have hz0 : w1.cell? ⟨g2, 0, none⟩ = some (.slice A0_0 l0_0.length c0_0) := (blk_cell K2.out 0).trans rfl; have hz1 : w1.cell? ⟨g2, 1, none⟩ = some (.slice A0_1 l0_1.length c0_1) := (blk_cell K2.out 1).trans rfl)) | (go_at_call 41; go_must (refine (model_kind.calls k _ _ l0_0 a1 true _ _ (Kd.C_below R0.out B1.out) L0.out (Glob.below GL.out B1.out) HE.out).mono ?_; rintro e w2 ⟨rfl, hb⟩; have K22 := Aside0.mk (blk_below K2.out hb); have B2 := Aside0.mk (below_step B1.out hb); clear hb; have hy0 : w2.cell? ⟨g2, 0, none⟩ = some (.slice A0_0 l0_0.length c0_0) := (blk_cell K22.out 0).trans rfl; have hy1 : w2.cell? ⟨g2, 1, none⟩ = some (.slice A0_1 l0_1.length c0_1) := (blk_cell K22.out 1).trans rfl)))
      go_ret
      exact ⟨rfl, B2.out⟩

end Go.Proofs.YteennleoieafiaaDoor.P
end
section
namespace Go.Proofs.YteennleoieafiaaDoor.P
open Go.RowKit Go.Proofs.YteennleoieafiaaDoorW.PrintWords Go.Proofs.YteennleoieafiaaDoorW.PrintLast Go.Proofs.YteennleoieafiaaDoorW.PrintMore Go.Proofs.YteennleoieafiaaDoor.G
attribute [local go_sem] max2_int min2_int max_two min_two max_three min_three max_four min_four   -- for this text's walks alone
set_option linter.unusedVariables false
set_option linter.unusedSimpArgs false

/-! ### model_Check: function 17 -/
def model_Check.l0 : Nat → List (S42) → Int → Int → List (S32) → List (S42) → Option (Int)
  | 0, _, _, _, _, _ => none
  | k + 1, x18, x19, x20, x136000, x136001 => if x20 < x19 then (if 0 ≤ x20 then (if x20 < (x18.length : Int) then ((model_rule.f k ((rd_T42 x18 x20).f0) ((rd_T42 x18 x20).f1) (x136000.length : Int)).bind fun t139 => (if t139 = 0 then (model_Check.l0 k x18 x19 (wrap64 (x20 + 1)) x136000 x136001) else (some t139))) else (none)) else (none)) else (some 0)
def model_Check.f (k : Nat) (l0_0 : List (S32)) (l0_1 : List (S42)) : Option (Int) := (model_variables.f k l0_0).bind fun t136 => (if t136 = 0 then (if (l0_1.length : Int) > 12 then (some 1) else (model_Check.l0 k l0_1 (l0_1.length : Int) 0 l0_0 l0_1)) else (some t136))
theorem model_Check.mono_l : ∀ k, (∀ y0 y1 y2 y3 y4, LeO (model_Check.l0 k y0 y1 y2 y3 y4) (model_Check.l0 (k + 1) y0 y1 y2 y3 y4))
  | 0 => fun _ _ _ _ _ r h => by simp [model_Check.l0] at h
  | k + 1 => by
    have ih0 := model_Check.mono_l k
    · intro y0 y1 y2 y3 y4
      unfold model_Check.l0
      repeat' first
      | (with_reducible exact ih0 _ _ _ _ _)
      | (with_reducible exact model_rule.mono _ _ _ _)
      | (with_reducible exact model_variables.mono _ _)
      | (with_reducible exact LeO.refl _)
      | (with_reducible exact LeO.none _)
      | (with_reducible refine LeO.ite ?_ ?_)
      | (with_reducible refine LeO.bind ?_ (fun _ => ?_))
      | exact ih0 _ _ _ _ _
      | exact model_rule.mono _ _ _ _
      | exact model_variables.mono _ _
      | exact LeO.none _
      | refine LeO.ite ?_ ?_
      | refine LeO.bind ?_ (fun _ => ?_)
theorem model_Check.mono : ∀ a0 a1 k, LeO (model_Check.f k a0 a1) (model_Check.f (k + 1) a0 a1) := by
  intro a0 a1 k
  have ih0 := model_Check.mono_l k
  unfold model_Check.f
  repeat' first
      | (with_reducible exact ih0 _ _ _ _ _)
      | (with_reducible exact model_rule.mono _ _ _ _)
      | (with_reducible exact model_variables.mono _ _)
      | (with_reducible exact LeO.refl _)
      | (with_reducible exact LeO.none _)
      | (with_reducible refine LeO.ite ?_ ?_)
      | (with_reducible refine LeO.bind ?_ (fun _ => ?_))
      | exact ih0 _ _ _ _ _
      | exact model_rule.mono _ _ _ _
      | exact model_variables.mono _ _
      | exact LeO.none _
      | refine LeO.ite ?_ ?_
      | refine LeO.bind ?_ (fun _ => ?_)
set_option maxHeartbeats 8000000 in
set_option maxRecDepth 100000 in
theorem model_Check.calls (k : Nat) (A0_0 : Option Addr) (c0_0 : Nat) (l0_0 : List (S32)) (A0_1 : Option Addr) (c0_1 : Nat) (l0_1 : List (S42)) (r : Int) (w : World) (hr0_0 : Kd.C k32 w A0_0 l0_0.length l0_0) (hc0_0 : l0_0.length ≤ c0_0) (hr0_1 : Kd.C k42 w A0_1 l0_1.length l0_1) (hc0_1 : l0_1.length ≤ c0_1) (hG_ : Glob w) (h : model_Check.f k l0_0 l0_1 = some r) :
    Calls Tryd.prog 17 #[.agg #[.slice A0_0 l0_0.length c0_0, .slice A0_1 l0_1.length c0_1]] w fun e w' => e = .returned (.int .i64 r) ∧ Below w.heap.size w w' := by
  have hu29 := Tryd.underlying29
  have hu42 := Tryd.underlying42
  have HR0_0 := Aside0.mk hr0_0
  have HC0_0 := Aside0.mk hc0_0
  clear hr0_0 hc0_0
  have HR0_1 := Aside0.mk hr0_1
  have HC0_1 := Aside0.mk hc0_1
  clear hr0_1 hc0_1
  have HB := Aside0.mk (Below.refl w.heap.size w)
  have H : ((model_variables.f k l0_0).bind fun t136 => (if t136 = 0 then (if (l0_1.length : Int) > 12 then (some 1) else (model_Check.l0 k l0_1 (l0_1.length : Int) 0 l0_0 l0_1)) else (some t136))) = some r := h
  clear h
  replace H := Option.bind_eq_some_iff.mp H
  obtain ⟨t136, A20, H⟩ := H
  replace H : (if t136 = 0 then (if (l0_1.length : Int) > 12 then (some 1) else (model_Check.l0 k l0_1 (l0_1.length : Int) 0 l0_0 l0_1)) else (some t136)) = some r := H
  have A2 := Aside0.mk A20
  clear A20
  by_cases c3 : t136 = 0
  · rw [if_pos c3] at H
    have c3b0 : (t136 == 0) = true := beq_iff_eq.mpr c3
    have c3b1 : (t136 != 0) = false := bne_eq_false_iff_eq.mpr c3
    clear c3
    by_cases c4 : (l0_1.length : Int) > 12
    · rw [if_pos c4] at H
      have c4b0 : decide (12 < (l0_1.length : Int)) = true := decide_eq_true c4
      have c4b1 : decide (12 < l0_1.length) = true := decide_eq_true (by omega)
      clear c4
      obtain rfl := Option.some.inj H
      go_enter Tryd.func17, Tryd.ntmps17
      go_wp2_with (first | ((with_reducible refine gate_dst (N := 1) rfl ?_); refine box_event ?hg (N := 1) ?hd (cs := #[.slice A0_0 l0_0.length c0_0, .slice A0_1 l0_1.length c0_1]) (t := 29) ?hr ?_; (case hd => rfl); (case hg => rfl); (case hr => first | (go_simp; done) | (go_simp; rfl)); intro gb135 hg w5 hbox hb; have n0_ := Aside0.mk (below_step (by repeat (first | (with_reducible first | exact HB.out | apply below_alloc | apply pw_below_drewN | apply below_drew1) | exact HB.out)) hb); have n1_ := Aside0.mk (hbox); have n2_ := Aside0.mk ((by rw [hg]; exact (below_size (by repeat (first | (with_reducible first | exact HB.out | apply below_alloc | apply pw_below_drewN | apply below_drew1) | exact HB.out))) : w.heap.size ≤ gb135)); have n3_ := Aside0.mk ((by rw [hg]; exact (below_size (by repeat (first | (with_reducible first | exact HB.out | apply below_alloc | apply pw_below_drewN | apply below_drew1) | exact HB.out))) : w.heap.size ≤ gb135)); clear HB; have HB := n0_; have BK135 := n1_; have GW135 := n2_; have GE135 := n3_; clear n0_ n1_ n2_ n3_; clear hb hbox hg; have hcz6_0 : w5.cell? ⟨gb135, 0, none⟩ = some (.slice A0_0 l0_0.length c0_0) := (blk_cell BK135.out 0).trans rfl; have hcz6_1 : w5.cell? ⟨gb135, 1, none⟩ = some (.slice A0_1 l0_1.length c0_1) := (blk_cell BK135.out 1).trans rfl; have hfz6_0 := blk_frozen BK135.out 0; have hfz6_1 := blk_frozen BK135.out 1) | ((with_reducible refine gate_callee (f := 30) rfl ?_); refine goesL_ (some 9) rfl rfl Tryd.func30 (by kernel_rfl) rfl #[.slice A0_0 l0_0.length c0_0] rfl (by (try simp only [List.map_toArray, List.map_cons, List.map_nil]); first | done | rfl | (simp only [List.length_drop, List.length_take]; rfl)) ?_; (with_reducible refine (model_variables.calls k _ _ l0_0 t136 _ ?side1 ?side2 A2.out).mono ?_); (case side1 => repeat (first | exact (Kd.C_below HR0_0.out HB.out) | (with_reducible refine Kd.C_alloc ?_ _) | (with_reducible refine Kd.C_drewN ?_ _) | (with_reducible refine Kd.C_drew ?_))); (case side2 => exact HC0_0.out); rintro e w7 ⟨rfl, hb⟩; refine ⟨_, rfl, ?_⟩; have n0_ := Aside0.mk (blk_below (g := gb135) (o := .cells #[.slice A0_0 l0_0.length c0_0, .slice A0_1 l0_1.length c0_1] 29 (0, 0)) (by (with_reducible repeat (first | refine blk_drewN ?_ _ | refine blk_drew ?_ | refine blk_alloc ?_ _)); exact BK135.out) hb); have n1_ := Aside0.mk (below_step (by repeat (first | (with_reducible first | exact HB.out | apply below_alloc | apply pw_below_drewN | apply below_drew1 | refine below_set ?_ GE135.out) | exact HB.out)) hb); clear BK135; clear HB; have BK135 := n0_; have HB := n1_; clear n0_ n1_; (try clear hb); (try clear hb2); (try clear hk); (try clear hi); have hcz8_0 : w7.cell? ⟨gb135, 0, none⟩ = some (.slice A0_0 l0_0.length c0_0) := (blk_cell BK135.out 0).trans rfl; have hcz8_1 : w7.cell? ⟨gb135, 1, none⟩ = some (.slice A0_1 l0_1.length c0_1) := (blk_cell BK135.out 1).trans rfl; have hfz8_0 := blk_frozen BK135.out 0; have hfz8_1 := blk_frozen BK135.out 1))
      go_ret
      exact ⟨by first | rfl | (simp [errW_none, errW_some] <;> rfl) | (simp [*, errW_none, errW_some] <;> rfl), by repeat (first | (with_reducible first | exact HB.out | apply below_alloc | apply pw_below_drewN | apply below_drew1 | refine below_set ?_ GE135.out) | exact HB.out)⟩
    · rw [if_neg c4] at H
      have c4b0 : decide (12 < (l0_1.length : Int)) = false := decide_eq_false c4
      have c4b1 : decide (12 < l0_1.length) = false := decide_eq_false (by omega)
      clear c4
      have H' := Aside0.mk H
      clear H
      go_enter Tryd.func17, Tryd.ntmps17
      go_wp2_with (first | ((with_reducible refine gate_dst (N := 1) rfl ?_); refine box_event ?hg (N := 1) ?hd (cs := #[.slice A0_0 l0_0.length c0_0, .slice A0_1 l0_1.length c0_1]) (t := 29) ?hr ?_; (case hd => rfl); (case hg => rfl); (case hr => first | (go_simp; done) | (go_simp; rfl)); intro gb135 hg w9 hbox hb; have n0_ := Aside0.mk (below_step (by repeat (first | (with_reducible first | exact HB.out | apply below_alloc | apply pw_below_drewN | apply below_drew1) | exact HB.out)) hb); have n1_ := Aside0.mk (hbox); have n2_ := Aside0.mk ((by rw [hg]; exact (below_size (by repeat (first | (with_reducible first | exact HB.out | apply below_alloc | apply pw_below_drewN | apply below_drew1) | exact HB.out))) : w.heap.size ≤ gb135)); have n3_ := Aside0.mk ((by rw [hg]; exact (below_size (by repeat (first | (with_reducible first | exact HB.out | apply below_alloc | apply pw_below_drewN | apply below_drew1) | exact HB.out))) : w.heap.size ≤ gb135)); clear HB; have HB := n0_; have BK135 := n1_; have GW135 := n2_; have GE135 := n3_; clear n0_ n1_ n2_ n3_; clear hb hbox hg; have hcz10_0 : w9.cell? ⟨gb135, 0, none⟩ = some (.slice A0_0 l0_0.length c0_0) := (blk_cell BK135.out 0).trans rfl; have hcz10_1 : w9.cell? ⟨gb135, 1, none⟩ = some (.slice A0_1 l0_1.length c0_1) := (blk_cell BK135.out 1).trans rfl; have hfz10_0 := blk_frozen BK135.out 0; have hfz10_1 := blk_frozen BK135.out 1) | ((with_reducible refine gate_callee (f := 30) rfl ?_); refine goesL_ (some 9) rfl rfl Tryd.func30 (by kernel_rfl) rfl #[.slice A0_0 l0_0.length c0_0] rfl (by (try simp only [List.map_toArray, List.map_cons, List.map_nil]); first | done | rfl | (simp only [List.length_drop, List.length_take]; rfl)) ?_; (with_reducible refine (model_variables.calls k _ _ l0_0 t136 _ ?side1 ?side2 A2.out).mono ?_); (case side1 => repeat (first | exact (Kd.C_below HR0_0.out HB.out) | (with_reducible refine Kd.C_alloc ?_ _) | (with_reducible refine Kd.C_drewN ?_ _) | (with_reducible refine Kd.C_drew ?_))); (case side2 => exact HC0_0.out); rintro e w11 ⟨rfl, hb⟩; refine ⟨_, rfl, ?_⟩; have n0_ := Aside0.mk (blk_below (g := gb135) (o := .cells #[.slice A0_0 l0_0.length c0_0, .slice A0_1 l0_1.length c0_1] 29 (0, 0)) (by (with_reducible repeat (first | refine blk_drewN ?_ _ | refine blk_drew ?_ | refine blk_alloc ?_ _)); exact BK135.out) hb); have n1_ := Aside0.mk (below_step (by repeat (first | (with_reducible first | exact HB.out | apply below_alloc | apply pw_below_drewN | apply below_drew1 | refine below_set ?_ GE135.out) | exact HB.out)) hb); clear BK135; clear HB; have BK135 := n0_; have HB := n1_; clear n0_ n1_; (try clear hb); (try clear hb2); (try clear hk); (try clear hi); have hcz12_0 : w11.cell? ⟨gb135, 0, none⟩ = some (.slice A0_0 l0_0.length c0_0) := (blk_cell BK135.out 0).trans rfl; have hcz12_1 : w11.cell? ⟨gb135, 1, none⟩ = some (.slice A0_1 l0_1.length c0_1) := (blk_cell BK135.out 1).trans rfl; have hfz12_0 := blk_frozen BK135.out 0; have hfz12_1 := blk_frozen BK135.out 1))
      go_loopg [20] k (fun kq v20 w' => ∃ (x20_1 : Int), v20 = .int .i64 x20_1 ∧ Aside0 (model_Check.l0 kq l0_1 (l0_1.length : Int) x20_1 l0_0 l0_1 = some r) ∧ Aside0 (kq ≤ k) ∧ Aside0 (w'.heap[gb135]? = some (.cells #[(.slice A0_0 l0_0.length c0_0), (.slice A0_1 l0_1.length c0_1)] 29 (0, 0))) ∧ Aside0 (Below w.heap.size w w'))
      case atStart => exact ⟨(0), (by first | rfl | (simp; done) | (simp [*]; done)), H', ⟨Nat.le_refl _⟩, ⟨by (with_reducible repeat (first | refine blk_drewN ?_ _ | refine blk_drew ?_ | refine blk_alloc ?_ _)); exact BK135.out⟩, ⟨by repeat (first | (with_reducible first | exact HB.out | apply below_alloc | apply pw_below_drewN | apply below_drew1 | refine below_set ?_ GE135.out) | exact HB.out)⟩⟩
      case round =>
        clear H'
        try clear c1
        try clear p2
        try clear c3
        try clear c3b0
        try clear c3b1
        try clear c4
        try clear c4b0
        try clear c4b1
        try clear hcz10_0
        try clear hcz10_1
        try clear hcz12_0
        try clear hcz12_1
        try clear hcz6_0
        try clear hcz6_1
        try clear hcz8_0
        try clear hcz8_1
        try clear hfz10_0
        try clear hfz10_1
        try clear hfz12_0
        try clear hfz12_1
        try clear hfz6_0
        try clear hfz6_1
        try clear hfz8_0
        try clear hfz8_1
        obtain ⟨x20_1, rfl, HA, HK1, BK135, HB⟩ := hrel
        cases gk with
        | zero => exact absurd HA.out (by simp [model_Check.l0])
        | succ k1 =>
          have H := HA.out
          clear HA
          simp only [model_Check.l0] at H
          by_cases c13 : x20_1 < (l0_1.length : Int)
          · rw [if_pos c13] at H
            have c13b0 : decide (x20_1 < (l0_1.length : Int)) = true := decide_eq_true c13
            clear c13
            by_cases c14 : 0 ≤ x20_1
            · rw [if_pos c14] at H
              have c14b0 : decide (0 ≤ x20_1) = true := decide_eq_true c14
              clear c14
              by_cases c15 : x20_1 < (l0_1.length : Int)
              · rw [if_pos c15] at H
                have c15b0 : decide (x20_1 < (l0_1.length : Int)) = true := decide_eq_true c15
                clear c15
                replace H := Option.bind_eq_some_iff.mp H
                obtain ⟨t139, A160, H⟩ := H
                replace H : (if t139 = 0 then (model_Check.l0 k1 l0_1 (l0_1.length : Int) (wrap64 (x20_1 + 1)) l0_0 l0_1) else (some t139)) = some r := H
                have A16 := Aside0.mk A160
                clear A160
                by_cases c17 : t139 = 0
                · rw [if_pos c17] at H
                  have c17b0 : (t139 == 0) = true := beq_iff_eq.mpr c17
                  have c17b1 : (t139 != 0) = false := bne_eq_false_iff_eq.mpr c17
                  clear c17
                  have H' := Aside0.mk H
                  clear H
                  have p137 : 0 ≤ (x20_1 : Int) := of_decide_eq_true (by first | (with_reducible assumption) | assumption)
                  have q137 : x20_1 < (l0_1.length : Int) := of_decide_eq_true (by first | (with_reducible assumption) | assumption)
                  obtain ⟨ad137, A137_0, c137_0, A137_1, c137_1, e137, hx137_0, hx137_1, hl137_0, hi137_0, hl137_1, hi137_1⟩ := at_T42 HR0_1.out x20_1 p137 q137
                  cases e137
                  replace hx137_0 := (HB.out.cell (World.block_lt_of_cell? w _ hx137_0)).trans hx137_0
                  replace hx137_1 := (HB.out.cell (World.block_lt_of_cell? w _ hx137_1)).trans hx137_1
                  have HR137_0 := Aside0.mk hi137_0
                  have HC137_0 := Aside0.mk hl137_0
                  clear hi137_0 hl137_0
                  have HR137_1 := Aside0.mk hi137_1
                  have HC137_1 := Aside0.mk hl137_1
                  clear hi137_1 hl137_1
                  replace p137 := eq_true p137
                  replace q137 := eq_true q137
                  go_wp2_with (first | ((with_reducible refine gate_dst (N := 5) rfl ?_); refine box_event ?hg (N := 5) ?hd (cs := #[.slice none 0 0, .slice none 0 0]) (t := 42) ?hr ?_; (case hd => rfl); (case hg => rfl); (case hr => first | (go_simp; done) | (go_simp; rfl)); intro gb138 hg w18 hbox hb; have n0_ := Aside0.mk (blk_below (g := gb135) (o := .cells #[.slice A0_0 l0_0.length c0_0, .slice (some ad137) l0_1.length c0_1] 29 (0, 0)) (by (with_reducible repeat (first | refine blk_drewN ?_ _ | refine blk_drew ?_ | refine blk_alloc ?_ _)); exact BK135.out) hb); have n1_ := Aside0.mk (below_step (by repeat (first | (with_reducible first | exact HB.out | apply below_alloc | apply pw_below_drewN | apply below_drew1 | refine below_set ?_ GE135.out) | exact HB.out)) hb); have n2_ := Aside0.mk (hbox); have n3_ := Aside0.mk ((by rw [hg]; exact (below_size (by repeat (first | (with_reducible first | exact HB.out | apply below_alloc | apply pw_below_drewN | apply below_drew1 | refine below_set ?_ GE135.out) | exact HB.out))) : w.heap.size ≤ gb138)); have n4_ := Aside0.mk ((by rw [hg]; exact (below_size (by repeat (first | (with_reducible first | exact HB.out | apply below_alloc | apply pw_below_drewN | apply below_drew1 | refine below_set ?_ GE135.out) | exact HB.out))) : w.heap.size ≤ gb138)); have n5_ := Aside0.mk ((by rw [hg]; exact Nat.ne_of_lt (blk_lt (g := gb135) (o := .cells #[.slice A0_0 l0_0.length c0_0, .slice (some ad137) l0_1.length c0_1] 29 (0, 0)) (by (with_reducible repeat (first | refine blk_drewN ?_ _ | refine blk_drew ?_ | refine blk_alloc ?_ _)); exact BK135.out)) : gb135 ≠ gb138)); have n6_ := Aside0.mk ((by rw [hg]; exact Nat.ne_of_gt (blk_lt (g := gb135) (o := .cells #[.slice A0_0 l0_0.length c0_0, .slice (some ad137) l0_1.length c0_1] 29 (0, 0)) (by (with_reducible repeat (first | refine blk_drewN ?_ _ | refine blk_drew ?_ | refine blk_alloc ?_ _)); exact BK135.out)) : gb138 ≠ gb135)); clear BK135; clear HB; have BK135 := n0_; have HB := n1_; have BK138 := n2_; have GW138 := n3_; have GE138 := n4_; have NB135_138 := n5_; have NB138_135 := n6_; clear n0_ n1_ n2_ n3_ n4_ n5_ n6_; clear hb hbox hg; have hnb19 := NB138_135.out; have hnc19 := NB135_138.out; have hcz20_0 : w18.cell? ⟨gb138, 0, none⟩ = some (.slice none 0 0) := (blk_cell BK138.out 0).trans rfl; have hcz20_1 : w18.cell? ⟨gb138, 1, none⟩ = some (.slice none 0 0) := (blk_cell BK138.out 1).trans rfl; have hfz20_0 := blk_frozen BK138.out 0; have hfz20_1 := blk_frozen BK138.out 1; have hcz21_0 : w18.cell? ⟨gb135, 0, none⟩ = some (.slice A0_0 l0_0.length c0_0) := (blk_cell BK135.out 0).trans rfl; have hcz21_1 : w18.cell? ⟨gb135, 1, none⟩ = some (.slice (some ad137) l0_1.length c0_1) := (blk_cell BK135.out 1).trans rfl; have hfz21_0 := blk_frozen BK135.out 0; have hfz21_1 := blk_frozen BK135.out 1) | ((with_reducible refine gate_callee (f := 31) rfl ?_); refine goesL_ (some 28) rfl rfl Tryd.func31 (by kernel_rfl) rfl #[.agg #[.slice A137_0 ((rd_T42 l0_1 x20_1).f0).length c137_0, .slice A137_1 ((rd_T42 l0_1 x20_1).f1).length c137_1], .int .i64 (l0_0.length : Int)] rfl (by (try simp only [List.map_toArray, List.map_cons, List.map_nil]); first | done | rfl | (simp only [List.length_drop, List.length_take]; rfl)) ?_; (with_reducible refine (model_rule.calls k1 _ _ ((rd_T42 l0_1 x20_1).f0) _ _ ((rd_T42 l0_1 x20_1).f1) (l0_0.length : Int) t139 _ ?side1 ?side2 ?side3 ?side4 ?side5 A16.out).mono ?_); (case side1 => exact Kd.C_below HR137_0.out (by repeat (first | (with_reducible first | exact HB.out | apply below_alloc | apply pw_below_drewN | apply below_drew1 | refine below_set ?_ GE135.out | refine below_set ?_ GE138.out) | exact HB.out))); (case side2 => exact HC137_0.out); (case side3 => exact Kd.C_below HR137_1.out (by repeat (first | (with_reducible first | exact HB.out | apply below_alloc | apply pw_below_drewN | apply below_drew1 | refine below_set ?_ GE135.out | refine below_set ?_ GE138.out) | exact HB.out))); (case side4 => exact HC137_1.out); (case side5 => first | exact hG_ | exact Glob.drewN hG_ _ | exact Glob.below hG_ (by repeat (first | (with_reducible first | exact HB.out | apply below_alloc | apply pw_below_drewN | apply below_drew1 | refine below_set ?_ GE135.out | refine below_set ?_ GE138.out) | exact HB.out))); rintro e w22 ⟨rfl, hb⟩; refine ⟨_, rfl, ?_⟩; have n0_ := Aside0.mk (blk_below (g := gb135) (o := .cells #[.slice A0_0 l0_0.length c0_0, .slice (some ad137) l0_1.length c0_1] 29 (0, 0)) (by (with_reducible repeat (first | refine blk_drewN ?_ _ | refine blk_drew ?_ | refine blk_alloc ?_ _)); refine blk_far ?_ NB135_138.out _; (with_reducible repeat (first | refine blk_drewN ?_ _ | refine blk_drew ?_ | refine blk_alloc ?_ _)); refine blk_far ?_ NB135_138.out _; (with_reducible repeat (first | refine blk_drewN ?_ _ | refine blk_drew ?_ | refine blk_alloc ?_ _)); exact BK135.out) hb); have n1_ := Aside0.mk (blk_below (g := gb138) (o := .cells #[.slice A137_0 ((rd_T42 l0_1 x20_1).f0).length c137_0, .slice A137_1 ((rd_T42 l0_1 x20_1).f1).length c137_1] 42 (0, 0)) (by (with_reducible repeat (first | refine blk_drewN ?_ _ | refine blk_drew ?_ | refine blk_alloc ?_ _)); refine blk_put (cs := #[.slice A137_0 ((rd_T42 l0_1 x20_1).f0).length c137_0, .slice none 0 0]) ?_ 1 _ rfl; (with_reducible repeat (first | refine blk_drewN ?_ _ | refine blk_drew ?_ | refine blk_alloc ?_ _)); refine blk_put (cs := #[.slice none 0 0, .slice none 0 0]) ?_ 0 _ rfl; (with_reducible repeat (first | refine blk_drewN ?_ _ | refine blk_drew ?_ | refine blk_alloc ?_ _)); exact BK138.out) hb); have n2_ := Aside0.mk (below_step (by repeat (first | (with_reducible first | exact HB.out | apply below_alloc | apply pw_below_drewN | apply below_drew1 | refine below_set ?_ GE135.out | refine below_set ?_ GE138.out) | exact HB.out)) hb); clear BK135; clear BK138; clear HB; have BK135 := n0_; have BK138 := n1_; have HB := n2_; clear n0_ n1_ n2_; (try clear hb); (try clear hb2); (try clear hk); (try clear hi)))
                  go_roundg k1
                  case measure => have := HK1.out; omega
                  case rel => exact ⟨(wrap64 (x20_1 + 1)), (by first | rfl | (simp; done) | (simp [*]; done)), H', ⟨by have := HK1.out; omega⟩, ⟨by (with_reducible repeat (first | refine blk_drewN ?_ _ | refine blk_drew ?_ | refine blk_alloc ?_ _)); exact BK135.out⟩, ⟨by repeat (first | (with_reducible first | exact HB.out | apply below_alloc | apply pw_below_drewN | apply below_drew1 | refine below_set ?_ GE135.out | refine below_set ?_ GE138.out) | exact HB.out)⟩⟩
                · rw [if_neg c17] at H
                  have c17b0 : (t139 == 0) = false := beq_eq_false_iff_ne.mpr c17
                  have c17b1 : (t139 != 0) = true := bne_iff_ne.mpr c17
                  obtain rfl := Option.some.inj H
                  have p137 : 0 ≤ (x20_1 : Int) := of_decide_eq_true (by first | (with_reducible assumption) | assumption)
                  have q137 : x20_1 < (l0_1.length : Int) := of_decide_eq_true (by first | (with_reducible assumption) | assumption)
                  obtain ⟨ad137, A137_0, c137_0, A137_1, c137_1, e137, hx137_0, hx137_1, hl137_0, hi137_0, hl137_1, hi137_1⟩ := at_T42 HR0_1.out x20_1 p137 q137
                  cases e137
                  replace hx137_0 := (HB.out.cell (World.block_lt_of_cell? w _ hx137_0)).trans hx137_0
                  replace hx137_1 := (HB.out.cell (World.block_lt_of_cell? w _ hx137_1)).trans hx137_1
                  have HR137_0 := Aside0.mk hi137_0
                  have HC137_0 := Aside0.mk hl137_0
                  clear hi137_0 hl137_0
                  have HR137_1 := Aside0.mk hi137_1
                  have HC137_1 := Aside0.mk hl137_1
                  clear hi137_1 hl137_1
                  replace p137 := eq_true p137
                  replace q137 := eq_true q137
                  go_wp2_with (first | ((with_reducible refine gate_dst (N := 5) rfl ?_); refine box_event ?hg (N := 5) ?hd (cs := #[.slice none 0 0, .slice none 0 0]) (t := 42) ?hr ?_; (case hd => rfl); (case hg => rfl); (case hr => first | (go_simp; done) | (go_simp; rfl)); intro gb138 hg w23 hbox hb; have n0_ := Aside0.mk (blk_below (g := gb135) (o := .cells #[.slice A0_0 l0_0.length c0_0, .slice (some ad137) l0_1.length c0_1] 29 (0, 0)) (by (with_reducible repeat (first | refine blk_drewN ?_ _ | refine blk_drew ?_ | refine blk_alloc ?_ _)); exact BK135.out) hb); have n1_ := Aside0.mk (below_step (by repeat (first | (with_reducible first | exact HB.out | apply below_alloc | apply pw_below_drewN | apply below_drew1 | refine below_set ?_ GE135.out) | exact HB.out)) hb); have n2_ := Aside0.mk (hbox); have n3_ := Aside0.mk ((by rw [hg]; exact (below_size (by repeat (first | (with_reducible first | exact HB.out | apply below_alloc | apply pw_below_drewN | apply below_drew1 | refine below_set ?_ GE135.out) | exact HB.out))) : w.heap.size ≤ gb138)); have n4_ := Aside0.mk ((by rw [hg]; exact (below_size (by repeat (first | (with_reducible first | exact HB.out | apply below_alloc | apply pw_below_drewN | apply below_drew1 | refine below_set ?_ GE135.out) | exact HB.out))) : w.heap.size ≤ gb138)); have n5_ := Aside0.mk ((by rw [hg]; exact Nat.ne_of_lt (blk_lt (g := gb135) (o := .cells #[.slice A0_0 l0_0.length c0_0, .slice (some ad137) l0_1.length c0_1] 29 (0, 0)) (by (with_reducible repeat (first | refine blk_drewN ?_ _ | refine blk_drew ?_ | refine blk_alloc ?_ _)); exact BK135.out)) : gb135 ≠ gb138)); have n6_ := Aside0.mk ((by rw [hg]; exact Nat.ne_of_gt (blk_lt (g := gb135) (o := .cells #[.slice A0_0 l0_0.length c0_0, .slice (some ad137) l0_1.length c0_1] 29 (0, 0)) (by (with_reducible repeat (first | refine blk_drewN ?_ _ | refine blk_drew ?_ | refine blk_alloc ?_ _)); exact BK135.out)) : gb138 ≠ gb135)); clear BK135; clear HB; have BK135 := n0_; have HB := n1_; have BK138 := n2_; have GW138 := n3_; have GE138 := n4_; have NB135_138 := n5_; have NB138_135 := n6_; clear n0_ n1_ n2_ n3_ n4_ n5_ n6_; clear hb hbox hg; have hnb24 := NB138_135.out; have hnc24 := NB135_138.out; have hcz25_0 : w23.cell? ⟨gb138, 0, none⟩ = some (.slice none 0 0) := (blk_cell BK138.out 0).trans rfl; have hcz25_1 : w23.cell? ⟨gb138, 1, none⟩ = some (.slice none 0 0) := (blk_cell BK138.out 1).trans rfl; have hfz25_0 := blk_frozen BK138.out 0; have hfz25_1 := blk_frozen BK138.out 1; have hcz26_0 : w23.cell? ⟨gb135, 0, none⟩ = some (.slice A0_0 l0_0.length c0_0) := (blk_cell BK135.out 0).trans rfl; have hcz26_1 : w23.cell? ⟨gb135, 1, none⟩ = some (.slice (some ad137) l0_1.length c0_1) := (blk_cell BK135.out 1).trans rfl; have hfz26_0 := blk_frozen BK135.out 0; have hfz26_1 := blk_frozen BK135.out 1) | ((with_reducible refine gate_callee (f := 31) rfl ?_); refine goesL_ (some 28) rfl rfl Tryd.func31 (by kernel_rfl) rfl #[.agg #[.slice A137_0 ((rd_T42 l0_1 x20_1).f0).length c137_0, .slice A137_1 ((rd_T42 l0_1 x20_1).f1).length c137_1], .int .i64 (l0_0.length : Int)] rfl (by (try simp only [List.map_toArray, List.map_cons, List.map_nil]); first | done | rfl | (simp only [List.length_drop, List.length_take]; rfl)) ?_; (with_reducible refine (model_rule.calls k1 _ _ ((rd_T42 l0_1 x20_1).f0) _ _ ((rd_T42 l0_1 x20_1).f1) (l0_0.length : Int) t139 _ ?side1 ?side2 ?side3 ?side4 ?side5 A16.out).mono ?_); (case side1 => exact Kd.C_below HR137_0.out (by repeat (first | (with_reducible first | exact HB.out | apply below_alloc | apply pw_below_drewN | apply below_drew1 | refine below_set ?_ GE135.out | refine below_set ?_ GE138.out) | exact HB.out))); (case side2 => exact HC137_0.out); (case side3 => exact Kd.C_below HR137_1.out (by repeat (first | (with_reducible first | exact HB.out | apply below_alloc | apply pw_below_drewN | apply below_drew1 | refine below_set ?_ GE135.out | refine below_set ?_ GE138.out) | exact HB.out))); (case side4 => exact HC137_1.out); (case side5 => first | exact hG_ | exact Glob.drewN hG_ _ | exact Glob.below hG_ (by repeat (first | (with_reducible first | exact HB.out | apply below_alloc | apply pw_below_drewN | apply below_drew1 | refine below_set ?_ GE135.out | refine below_set ?_ GE138.out) | exact HB.out))); rintro e w27 ⟨rfl, hb⟩; refine ⟨_, rfl, ?_⟩; have n0_ := Aside0.mk (blk_below (g := gb135) (o := .cells #[.slice A0_0 l0_0.length c0_0, .slice (some ad137) l0_1.length c0_1] 29 (0, 0)) (by (with_reducible repeat (first | refine blk_drewN ?_ _ | refine blk_drew ?_ | refine blk_alloc ?_ _)); refine blk_far ?_ NB135_138.out _; (with_reducible repeat (first | refine blk_drewN ?_ _ | refine blk_drew ?_ | refine blk_alloc ?_ _)); refine blk_far ?_ NB135_138.out _; (with_reducible repeat (first | refine blk_drewN ?_ _ | refine blk_drew ?_ | refine blk_alloc ?_ _)); exact BK135.out) hb); have n1_ := Aside0.mk (blk_below (g := gb138) (o := .cells #[.slice A137_0 ((rd_T42 l0_1 x20_1).f0).length c137_0, .slice A137_1 ((rd_T42 l0_1 x20_1).f1).length c137_1] 42 (0, 0)) (by (with_reducible repeat (first | refine blk_drewN ?_ _ | refine blk_drew ?_ | refine blk_alloc ?_ _)); refine blk_put (cs := #[.slice A137_0 ((rd_T42 l0_1 x20_1).f0).length c137_0, .slice none 0 0]) ?_ 1 _ rfl; (with_reducible repeat (first | refine blk_drewN ?_ _ | refine blk_drew ?_ | refine blk_alloc ?_ _)); refine blk_put (cs := #[.slice none 0 0, .slice none 0 0]) ?_ 0 _ rfl; (with_reducible repeat (first | refine blk_drewN ?_ _ | refine blk_drew ?_ | refine blk_alloc ?_ _)); exact BK138.out) hb); have n2_ := Aside0.mk (below_step (by repeat (first | (with_reducible first | exact HB.out | apply below_alloc | apply pw_below_drewN | apply below_drew1 | refine below_set ?_ GE135.out | refine below_set ?_ GE138.out) | exact HB.out)) hb); clear BK135; clear BK138; clear HB; have BK135 := n0_; have BK138 := n1_; have HB := n2_; clear n0_ n1_ n2_; (try clear hb); (try clear hb2); (try clear hk); (try clear hi)))
                  go_ret
                  exact ⟨by first | rfl | (simp [errW_none, errW_some] <;> rfl) | (simp [*, errW_none, errW_some] <;> rfl), by repeat (first | (with_reducible first | exact HB.out | apply below_alloc | apply pw_below_drewN | apply below_drew1 | refine below_set ?_ GE135.out | refine below_set ?_ GE138.out) | exact HB.out)⟩
              · rw [if_neg c15] at H
                exact absurd H (by simp)
            · rw [if_neg c14] at H
              exact absurd H (by simp)
          · rw [if_neg c13] at H
            have c13b0 : decide (x20_1 < (l0_1.length : Int)) = false := decide_eq_false c13
            clear c13
            obtain rfl := Option.some.inj H
            go_wp2
            go_ret
            exact ⟨by first | rfl | (simp [errW_none, errW_some] <;> rfl) | (simp [*, errW_none, errW_some] <;> rfl), by repeat (first | (with_reducible first | exact HB.out | apply below_alloc | apply pw_below_drewN | apply below_drew1 | refine below_set ?_ GE135.out) | exact HB.out)⟩
  · rw [if_neg c3] at H
    have c3b0 : (t136 == 0) = false := beq_eq_false_iff_ne.mpr c3
    have c3b1 : (t136 != 0) = true := bne_iff_ne.mpr c3
    obtain rfl := Option.some.inj H
    go_enter Tryd.func17, Tryd.ntmps17
    go_wp2_with (first | ((with_reducible refine gate_dst (N := 1) rfl ?_); refine box_event ?hg (N := 1) ?hd (cs := #[.slice A0_0 l0_0.length c0_0, .slice A0_1 l0_1.length c0_1]) (t := 29) ?hr ?_; (case hd => rfl); (case hg => rfl); (case hr => first | (go_simp; done) | (go_simp; rfl)); intro gb135 hg w28 hbox hb; have n0_ := Aside0.mk (below_step (by repeat (first | (with_reducible first | exact HB.out | apply below_alloc | apply pw_below_drewN | apply below_drew1) | exact HB.out)) hb); have n1_ := Aside0.mk (hbox); have n2_ := Aside0.mk ((by rw [hg]; exact (below_size (by repeat (first | (with_reducible first | exact HB.out | apply below_alloc | apply pw_below_drewN | apply below_drew1) | exact HB.out))) : w.heap.size ≤ gb135)); have n3_ := Aside0.mk ((by rw [hg]; exact (below_size (by repeat (first | (with_reducible first | exact HB.out | apply below_alloc | apply pw_below_drewN | apply below_drew1) | exact HB.out))) : w.heap.size ≤ gb135)); clear HB; have HB := n0_; have BK135 := n1_; have GW135 := n2_; have GE135 := n3_; clear n0_ n1_ n2_ n3_; clear hb hbox hg; have hcz29_0 : w28.cell? ⟨gb135, 0, none⟩ = some (.slice A0_0 l0_0.length c0_0) := (blk_cell BK135.out 0).trans rfl; have hcz29_1 : w28.cell? ⟨gb135, 1, none⟩ = some (.slice A0_1 l0_1.length c0_1) := (blk_cell BK135.out 1).trans rfl; have hfz29_0 := blk_frozen BK135.out 0; have hfz29_1 := blk_frozen BK135.out 1) | ((with_reducible refine gate_callee (f := 30) rfl ?_); refine goesL_ (some 9) rfl rfl Tryd.func30 (by kernel_rfl) rfl #[.slice A0_0 l0_0.length c0_0] rfl (by (try simp only [List.map_toArray, List.map_cons, List.map_nil]); first | done | rfl | (simp only [List.length_drop, List.length_take]; rfl)) ?_; (with_reducible refine (model_variables.calls k _ _ l0_0 t136 _ ?side1 ?side2 A2.out).mono ?_); (case side1 => repeat (first | exact (Kd.C_below HR0_0.out HB.out) | (with_reducible refine Kd.C_alloc ?_ _) | (with_reducible refine Kd.C_drewN ?_ _) | (with_reducible refine Kd.C_drew ?_))); (case side2 => exact HC0_0.out); rintro e w30 ⟨rfl, hb⟩; refine ⟨_, rfl, ?_⟩; have n0_ := Aside0.mk (blk_below (g := gb135) (o := .cells #[.slice A0_0 l0_0.length c0_0, .slice A0_1 l0_1.length c0_1] 29 (0, 0)) (by (with_reducible repeat (first | refine blk_drewN ?_ _ | refine blk_drew ?_ | refine blk_alloc ?_ _)); exact BK135.out) hb); have n1_ := Aside0.mk (below_step (by repeat (first | (with_reducible first | exact HB.out | apply below_alloc | apply pw_below_drewN | apply below_drew1 | refine below_set ?_ GE135.out) | exact HB.out)) hb); clear BK135; clear HB; have BK135 := n0_; have HB := n1_; clear n0_ n1_; (try clear hb); (try clear hb2); (try clear hk); (try clear hi)))
    go_ret
    exact ⟨by first | rfl | (simp [errW_none, errW_some] <;> rfl) | (simp [*, errW_none, errW_some] <;> rfl), by repeat (first | (with_reducible first | exact HB.out | apply below_alloc | apply pw_below_drewN | apply below_drew1 | refine below_set ?_ GE135.out) | exact HB.out)⟩

end Go.Proofs.YteennleoieafiaaDoor.P
end
section
namespace Go.Proofs.YteennleoieafiaaDoor.P
open Go.RowKit Go.Proofs.YteennleoieafiaaDoorW.PrintWords Go.Proofs.YteennleoieafiaaDoorW.PrintLast Go.Proofs.YteennleoieafiaaDoorW.PrintMore Go.Proofs.YteennleoieafiaaDoor.G
attribute [local go_sem] max2_int min2_int max_two min_two max_three min_three max_four min_four   -- for this text's walks alone
set_option linter.unusedVariables false
set_option linter.unusedSimpArgs false

/-! ### model_Count: function 18 -/
def model_Count.l0 : Nat → Int → List (S32) → Int → Int → Option (Int × Int)
  | 0, _, _, _, _ => none
  | k + 1, x5, x14, x15, x16 => if x16 < x15 then (if 0 ≤ x16 then (if x16 < (x14.length : Int) then (model_Count.l0 k (wrap64 (x5 * (wrap64 ((wrap64 (((rd_T32 x14 x16).f2) - ((rd_T32 x14 x16).f1))) + 1)))) x14 x15 (wrap64 (x16 + 1))) else (none)) else (none)) else (some (x5, 0))
def model_Count.f (k : Nat) (l0_0 : List (S32)) (l0_1 : List (S42)) : Option (Int × Int) := (model_Check.f k l0_0 l0_1).bind fun t191 => (if t191 = 0 then (model_Count.l0 k 1 l0_0 (l0_0.length : Int) 0) else (some (0, t191)))
theorem model_Count.mono_l : ∀ k, (∀ y0 y1 y2 y3, LeO (model_Count.l0 k y0 y1 y2 y3) (model_Count.l0 (k + 1) y0 y1 y2 y3))
  | 0 => fun _ _ _ _ r h => by simp [model_Count.l0] at h
  | k + 1 => by
    have ih0 := model_Count.mono_l k
    · intro y0 y1 y2 y3
      unfold model_Count.l0
      repeat' first
      | (with_reducible exact ih0 _ _ _ _)
      | (with_reducible exact model_Check.mono _ _ _)
      | (with_reducible exact LeO.refl _)
      | (with_reducible exact LeO.none _)
      | (with_reducible refine LeO.ite ?_ ?_)
      | (with_reducible refine LeO.bind ?_ (fun _ => ?_))
      | exact ih0 _ _ _ _
      | exact model_Check.mono _ _ _
      | exact LeO.none _
      | refine LeO.ite ?_ ?_
      | refine LeO.bind ?_ (fun _ => ?_)
theorem model_Count.mono : ∀ a0 a1 k, LeO (model_Count.f k a0 a1) (model_Count.f (k + 1) a0 a1) := by
  intro a0 a1 k
  have ih0 := model_Count.mono_l k
  unfold model_Count.f
  repeat' first
      | (with_reducible exact ih0 _ _ _ _)
      | (with_reducible exact model_Check.mono _ _ _)
      | (with_reducible exact LeO.refl _)
      | (with_reducible exact LeO.none _)
      | (with_reducible refine LeO.ite ?_ ?_)
      | (with_reducible refine LeO.bind ?_ (fun _ => ?_))
      | exact ih0 _ _ _ _
      | exact model_Check.mono _ _ _
      | exact LeO.none _
      | refine LeO.ite ?_ ?_
      | refine LeO.bind ?_ (fun _ => ?_)
set_option maxHeartbeats 8000000 in
set_option maxRecDepth 100000 in
theorem model_Count.calls (k : Nat) (A0_0 : Option Addr) (c0_0 : Nat) (l0_0 : List (S32)) (A0_1 : Option Addr) (c0_1 : Nat) (l0_1 : List (S42)) (r1 : Int) (r2 : Int) (w : World) (hr0_0 : Kd.C k32 w A0_0 l0_0.length l0_0) (hc0_0 : l0_0.length ≤ c0_0) (hr0_1 : Kd.C k42 w A0_1 l0_1.length l0_1) (hc0_1 : l0_1.length ≤ c0_1) (hG_ : Glob w) (h : model_Count.f k l0_0 l0_1 = some (r1, r2)) :
    Calls Tryd.prog 18 #[.agg #[.slice A0_0 l0_0.length c0_0, .slice A0_1 l0_1.length c0_1]] w fun e w' => e = .returned (.tuple #[.int .i64 r1, .int .i64 r2]) ∧ Below w.heap.size w w' := by
  have hu29 := Tryd.underlying29
  have hu32 := Tryd.underlying32
  have HR0_0 := Aside0.mk hr0_0
  have HC0_0 := Aside0.mk hc0_0
  clear hr0_0 hc0_0
  have HR0_1 := Aside0.mk hr0_1
  have HC0_1 := Aside0.mk hc0_1
  clear hr0_1 hc0_1
  have HB := Aside0.mk (Below.refl w.heap.size w)
  have H : ((model_Check.f k l0_0 l0_1).bind fun t191 => (if t191 = 0 then (model_Count.l0 k 1 l0_0 (l0_0.length : Int) 0) else (some (0, t191)))) = some (r1, r2) := h
  clear h
  replace H := Option.bind_eq_some_iff.mp H
  obtain ⟨t191, A20, H⟩ := H
  replace H : (if t191 = 0 then (model_Count.l0 k 1 l0_0 (l0_0.length : Int) 0) else (some (0, t191))) = some (r1, r2) := H
  have A2 := Aside0.mk A20
  clear A20
  by_cases c3 : t191 = 0
  · rw [if_pos c3] at H
    have c3b0 : (t191 == 0) = true := beq_iff_eq.mpr c3
    have c3b1 : (t191 != 0) = false := bne_eq_false_iff_eq.mpr c3
    clear c3
    have H' := Aside0.mk H
    clear H
    go_enter Tryd.func18, Tryd.ntmps18
    go_wp2_with (first | ((with_reducible refine gate_dst (N := 1) rfl ?_); refine box_event ?hg (N := 1) ?hd (cs := #[.slice A0_0 l0_0.length c0_0, .slice A0_1 l0_1.length c0_1]) (t := 29) ?hr ?_; (case hd => rfl); (case hg => rfl); (case hr => first | (go_simp; done) | (go_simp; rfl)); intro gb190 hg w4 hbox hb; have n0_ := Aside0.mk (below_step (by repeat (first | (with_reducible first | exact HB.out | apply below_alloc | apply pw_below_drewN | apply below_drew1) | exact HB.out)) hb); have n1_ := Aside0.mk (hbox); have n2_ := Aside0.mk ((by rw [hg]; exact (below_size (by repeat (first | (with_reducible first | exact HB.out | apply below_alloc | apply pw_below_drewN | apply below_drew1) | exact HB.out))) : w.heap.size ≤ gb190)); have n3_ := Aside0.mk ((by rw [hg]; exact (below_size (by repeat (first | (with_reducible first | exact HB.out | apply below_alloc | apply pw_below_drewN | apply below_drew1) | exact HB.out))) : w.heap.size ≤ gb190)); clear HB; have HB := n0_; have BK190 := n1_; have GW190 := n2_; have GE190 := n3_; clear n0_ n1_ n2_ n3_; clear hb hbox hg; have hcz5_0 : w4.cell? ⟨gb190, 0, none⟩ = some (.slice A0_0 l0_0.length c0_0) := (blk_cell BK190.out 0).trans rfl; have hcz5_1 : w4.cell? ⟨gb190, 1, none⟩ = some (.slice A0_1 l0_1.length c0_1) := (blk_cell BK190.out 1).trans rfl; have hfz5_0 := blk_frozen BK190.out 0; have hfz5_1 := blk_frozen BK190.out 1) | ((with_reducible refine gate_callee (f := 17) rfl ?_); refine goesL_ (some 9) rfl rfl Tryd.func17 (by kernel_rfl) rfl #[.agg #[.slice A0_0 l0_0.length c0_0, .slice A0_1 l0_1.length c0_1]] rfl (by (try simp only [List.map_toArray, List.map_cons, List.map_nil]); first | done | rfl | (simp only [List.length_drop, List.length_take]; rfl)) ?_; (with_reducible refine (model_Check.calls k _ _ l0_0 _ _ l0_1 t191 _ ?side1 ?side2 ?side3 ?side4 ?side5 A2.out).mono ?_); (case side1 => repeat (first | exact (Kd.C_below HR0_0.out HB.out) | (with_reducible refine Kd.C_alloc ?_ _) | (with_reducible refine Kd.C_drewN ?_ _) | (with_reducible refine Kd.C_drew ?_))); (case side2 => exact HC0_0.out); (case side3 => repeat (first | exact (Kd.C_below HR0_1.out HB.out) | (with_reducible refine Kd.C_alloc ?_ _) | (with_reducible refine Kd.C_drewN ?_ _) | (with_reducible refine Kd.C_drew ?_))); (case side4 => exact HC0_1.out); (case side5 => first | exact hG_ | exact Glob.drewN hG_ _ | exact Glob.below hG_ (by repeat (first | (with_reducible first | exact HB.out | apply below_alloc | apply pw_below_drewN | apply below_drew1 | refine below_set ?_ GE190.out) | exact HB.out))); rintro e w6 ⟨rfl, hb⟩; refine ⟨_, rfl, ?_⟩; have n0_ := Aside0.mk (blk_below (g := gb190) (o := .cells #[.slice A0_0 l0_0.length c0_0, .slice A0_1 l0_1.length c0_1] 29 (0, 0)) (by (with_reducible repeat (first | refine blk_drewN ?_ _ | refine blk_drew ?_ | refine blk_alloc ?_ _)); exact BK190.out) hb); have n1_ := Aside0.mk (below_step (by repeat (first | (with_reducible first | exact HB.out | apply below_alloc | apply pw_below_drewN | apply below_drew1 | refine below_set ?_ GE190.out) | exact HB.out)) hb); clear BK190; clear HB; have BK190 := n0_; have HB := n1_; clear n0_ n1_; (try clear hb); (try clear hb2); (try clear hk); (try clear hi); have hcz7_0 : w6.cell? ⟨gb190, 0, none⟩ = some (.slice A0_0 l0_0.length c0_0) := (blk_cell BK190.out 0).trans rfl; have hcz7_1 : w6.cell? ⟨gb190, 1, none⟩ = some (.slice A0_1 l0_1.length c0_1) := (blk_cell BK190.out 1).trans rfl; have hfz7_0 := blk_frozen BK190.out 0; have hfz7_1 := blk_frozen BK190.out 1))
    go_loopg [5, 16] k (fun kq v5 v16 w' => ∃ (x5_1 : Int) (x16_1 : Int), v5 = .int .i64 x5_1 ∧ v16 = .int .i64 x16_1 ∧ Aside0 (model_Count.l0 kq x5_1 l0_0 (l0_0.length : Int) x16_1 = some (r1, r2)) ∧ Aside0 (kq ≤ k) ∧ Aside0 (w'.heap[gb190]? = some (.cells #[(.slice A0_0 l0_0.length c0_0), (.slice A0_1 l0_1.length c0_1)] 29 (0, 0))) ∧ Aside0 (Below w.heap.size w w'))
    case atStart => exact ⟨(1), (0), (by first | rfl | (simp; done) | (simp [*]; done)), (by first | rfl | (simp; done) | (simp [*]; done)), H', ⟨Nat.le_refl _⟩, ⟨by (with_reducible repeat (first | refine blk_drewN ?_ _ | refine blk_drew ?_ | refine blk_alloc ?_ _)); exact BK190.out⟩, ⟨by repeat (first | (with_reducible first | exact HB.out | apply below_alloc | apply pw_below_drewN | apply below_drew1 | refine below_set ?_ GE190.out) | exact HB.out)⟩⟩
    case round =>
      clear H'
      try clear c1
      try clear p2
      try clear c3
      try clear c3b0
      try clear c3b1
      try clear hcz5_0
      try clear hcz5_1
      try clear hcz7_0
      try clear hcz7_1
      try clear hfz5_0
      try clear hfz5_1
      try clear hfz7_0
      try clear hfz7_1
      obtain ⟨x5_1, x16_1, rfl, rfl, HA, HK1, BK190, HB⟩ := hrel
      cases gk with
      | zero => exact absurd HA.out (by simp [model_Count.l0])
      | succ k1 =>
        have H := HA.out
        clear HA
        simp only [model_Count.l0] at H
        by_cases c8 : x16_1 < (l0_0.length : Int)
        · rw [if_pos c8] at H
          have c8b0 : decide (x16_1 < (l0_0.length : Int)) = true := decide_eq_true c8
          clear c8
          by_cases c9 : 0 ≤ x16_1
          · rw [if_pos c9] at H
            have c9b0 : decide (0 ≤ x16_1) = true := decide_eq_true c9
            clear c9
            by_cases c10 : x16_1 < (l0_0.length : Int)
            · rw [if_pos c10] at H
              have c10b0 : decide (x16_1 < (l0_0.length : Int)) = true := decide_eq_true c10
              clear c10
              have H' := Aside0.mk H
              clear H
              have p192 : 0 ≤ (x16_1 : Int) := of_decide_eq_true (by first | (with_reducible assumption) | assumption)
              have q192 : x16_1 < (l0_0.length : Int) := of_decide_eq_true (by first | (with_reducible assumption) | assumption)
              obtain ⟨ad192, e192, hx192_0, hx192_1, hx192_2, hx192_3⟩ := at_T32 HR0_0.out x16_1 p192 q192
              cases e192
              replace hx192_0 := (HB.out.cell (World.block_lt_of_cell? w _ hx192_0)).trans hx192_0
              replace hx192_1 := (HB.out.cell (World.block_lt_of_cell? w _ hx192_1)).trans hx192_1
              replace hx192_2 := (HB.out.cell (World.block_lt_of_cell? w _ hx192_2)).trans hx192_2
              replace hx192_3 := (HB.out.cell (World.block_lt_of_cell? w _ hx192_3)).trans hx192_3
              replace p192 := eq_true p192
              replace q192 := eq_true q192
              go_wp2_with (first | ((with_reducible refine gate_dst (N := 7) rfl ?_); refine box_event ?hg (N := 7) ?hd (cs := #[.string (⟨#[]⟩ : ByteArray), .int .i64 0, .int .i64 0, .int .i64 0]) (t := 32) ?hr ?_; (case hd => rfl); (case hg => rfl); (case hr => first | (go_simp; done) | (go_simp; rfl)); intro gb193 hg w11 hbox hb; have n0_ := Aside0.mk (blk_below (g := gb190) (o := .cells #[.slice (some ad192) l0_0.length c0_0, .slice A0_1 l0_1.length c0_1] 29 (0, 0)) (by (with_reducible repeat (first | refine blk_drewN ?_ _ | refine blk_drew ?_ | refine blk_alloc ?_ _)); exact BK190.out) hb); have n1_ := Aside0.mk (below_step (by repeat (first | (with_reducible first | exact HB.out | apply below_alloc | apply pw_below_drewN | apply below_drew1 | refine below_set ?_ GE190.out) | exact HB.out)) hb); have n2_ := Aside0.mk (hbox); have n3_ := Aside0.mk ((by rw [hg]; exact (below_size (by repeat (first | (with_reducible first | exact HB.out | apply below_alloc | apply pw_below_drewN | apply below_drew1 | refine below_set ?_ GE190.out) | exact HB.out))) : w.heap.size ≤ gb193)); have n4_ := Aside0.mk ((by rw [hg]; exact (below_size (by repeat (first | (with_reducible first | exact HB.out | apply below_alloc | apply pw_below_drewN | apply below_drew1 | refine below_set ?_ GE190.out) | exact HB.out))) : w.heap.size ≤ gb193)); have n5_ := Aside0.mk ((by rw [hg]; exact Nat.ne_of_lt (blk_lt (g := gb190) (o := .cells #[.slice (some ad192) l0_0.length c0_0, .slice A0_1 l0_1.length c0_1] 29 (0, 0)) (by (with_reducible repeat (first | refine blk_drewN ?_ _ | refine blk_drew ?_ | refine blk_alloc ?_ _)); exact BK190.out)) : gb190 ≠ gb193)); have n6_ := Aside0.mk ((by rw [hg]; exact Nat.ne_of_gt (blk_lt (g := gb190) (o := .cells #[.slice (some ad192) l0_0.length c0_0, .slice A0_1 l0_1.length c0_1] 29 (0, 0)) (by (with_reducible repeat (first | refine blk_drewN ?_ _ | refine blk_drew ?_ | refine blk_alloc ?_ _)); exact BK190.out)) : gb193 ≠ gb190)); clear BK190; clear HB; have BK190 := n0_; have HB := n1_; have BK193 := n2_; have GW193 := n3_; have GE193 := n4_; have NB190_193 := n5_; have NB193_190 := n6_; clear n0_ n1_ n2_ n3_ n4_ n5_ n6_; clear hb hbox hg; have hnb12 := NB193_190.out; have hnc12 := NB190_193.out; have hcz13_0 : w11.cell? ⟨gb193, 0, none⟩ = some (.string (⟨#[]⟩ : ByteArray)) := (blk_cell BK193.out 0).trans rfl; have hcz13_1 : w11.cell? ⟨gb193, 1, none⟩ = some (.int .i64 0) := (blk_cell BK193.out 1).trans rfl; have hcz13_2 : w11.cell? ⟨gb193, 2, none⟩ = some (.int .i64 0) := (blk_cell BK193.out 2).trans rfl; have hcz13_3 : w11.cell? ⟨gb193, 3, none⟩ = some (.int .i64 0) := (blk_cell BK193.out 3).trans rfl; have hfz13_0 := blk_frozen BK193.out 0; have hfz13_1 := blk_frozen BK193.out 1; have hfz13_2 := blk_frozen BK193.out 2; have hfz13_3 := blk_frozen BK193.out 3))
              go_roundg k1
              case measure => have := HK1.out; omega
              case rel => exact ⟨(wrap64 (x5_1 * (wrap64 ((wrap64 (((rd_T32 l0_0 x16_1).f2) - ((rd_T32 l0_0 x16_1).f1))) + 1)))), (wrap64 (x16_1 + 1)), (by first | rfl | (simp; done) | (simp [*]; done)), (by first | rfl | (simp; done) | (simp [*]; done)), H', ⟨by have := HK1.out; omega⟩, ⟨by (with_reducible repeat (first | refine blk_drewN ?_ _ | refine blk_drew ?_ | refine blk_alloc ?_ _)); refine blk_far ?_ NB190_193.out _; (with_reducible repeat (first | refine blk_drewN ?_ _ | refine blk_drew ?_ | refine blk_alloc ?_ _)); refine blk_far ?_ NB190_193.out _; (with_reducible repeat (first | refine blk_drewN ?_ _ | refine blk_drew ?_ | refine blk_alloc ?_ _)); refine blk_far ?_ NB190_193.out _; (with_reducible repeat (first | refine blk_drewN ?_ _ | refine blk_drew ?_ | refine blk_alloc ?_ _)); refine blk_far ?_ NB190_193.out _; (with_reducible repeat (first | refine blk_drewN ?_ _ | refine blk_drew ?_ | refine blk_alloc ?_ _)); exact BK190.out⟩, ⟨by repeat (first | (with_reducible first | exact HB.out | apply below_alloc | apply pw_below_drewN | apply below_drew1 | refine below_set ?_ GE190.out | refine below_set ?_ GE193.out) | exact HB.out)⟩⟩
            · rw [if_neg c10] at H
              exact absurd H (by simp)
          · rw [if_neg c9] at H
            exact absurd H (by simp)
        · rw [if_neg c8] at H
          have c8b0 : decide (x16_1 < (l0_0.length : Int)) = false := decide_eq_false c8
          clear c8
          simp only [Option.some.injEq, Prod.mk.injEq] at H
          obtain ⟨rfl, rfl⟩ := H
          go_wp2
          go_ret2
          exact ⟨by first | rfl | (simp [errW_none, errW_some] <;> rfl) | (simp [*, errW_none, errW_some] <;> rfl), by repeat (first | (with_reducible first | exact HB.out | apply below_alloc | apply pw_below_drewN | apply below_drew1 | refine below_set ?_ GE190.out) | exact HB.out)⟩
  · rw [if_neg c3] at H
    have c3b0 : (t191 == 0) = false := beq_eq_false_iff_ne.mpr c3
    have c3b1 : (t191 != 0) = true := bne_iff_ne.mpr c3
    simp only [Option.some.injEq, Prod.mk.injEq] at H
    obtain ⟨rfl, rfl⟩ := H
    go_enter Tryd.func18, Tryd.ntmps18
    go_wp2_with (first | ((with_reducible refine gate_dst (N := 1) rfl ?_); refine box_event ?hg (N := 1) ?hd (cs := #[.slice A0_0 l0_0.length c0_0, .slice A0_1 l0_1.length c0_1]) (t := 29) ?hr ?_; (case hd => rfl); (case hg => rfl); (case hr => first | (go_simp; done) | (go_simp; rfl)); intro gb190 hg w14 hbox hb; have n0_ := Aside0.mk (below_step (by repeat (first | (with_reducible first | exact HB.out | apply below_alloc | apply pw_below_drewN | apply below_drew1) | exact HB.out)) hb); have n1_ := Aside0.mk (hbox); have n2_ := Aside0.mk ((by rw [hg]; exact (below_size (by repeat (first | (with_reducible first | exact HB.out | apply below_alloc | apply pw_below_drewN | apply below_drew1) | exact HB.out))) : w.heap.size ≤ gb190)); have n3_ := Aside0.mk ((by rw [hg]; exact (below_size (by repeat (first | (with_reducible first | exact HB.out | apply below_alloc | apply pw_below_drewN | apply below_drew1) | exact HB.out))) : w.heap.size ≤ gb190)); clear HB; have HB := n0_; have BK190 := n1_; have GW190 := n2_; have GE190 := n3_; clear n0_ n1_ n2_ n3_; clear hb hbox hg; have hcz15_0 : w14.cell? ⟨gb190, 0, none⟩ = some (.slice A0_0 l0_0.length c0_0) := (blk_cell BK190.out 0).trans rfl; have hcz15_1 : w14.cell? ⟨gb190, 1, none⟩ = some (.slice A0_1 l0_1.length c0_1) := (blk_cell BK190.out 1).trans rfl; have hfz15_0 := blk_frozen BK190.out 0; have hfz15_1 := blk_frozen BK190.out 1) | ((with_reducible refine gate_callee (f := 17) rfl ?_); refine goesL_ (some 9) rfl rfl Tryd.func17 (by kernel_rfl) rfl #[.agg #[.slice A0_0 l0_0.length c0_0, .slice A0_1 l0_1.length c0_1]] rfl (by (try simp only [List.map_toArray, List.map_cons, List.map_nil]); first | done | rfl | (simp only [List.length_drop, List.length_take]; rfl)) ?_; (with_reducible refine (model_Check.calls k _ _ l0_0 _ _ l0_1 t191 _ ?side1 ?side2 ?side3 ?side4 ?side5 A2.out).mono ?_); (case side1 => repeat (first | exact (Kd.C_below HR0_0.out HB.out) | (with_reducible refine Kd.C_alloc ?_ _) | (with_reducible refine Kd.C_drewN ?_ _) | (with_reducible refine Kd.C_drew ?_))); (case side2 => exact HC0_0.out); (case side3 => repeat (first | exact (Kd.C_below HR0_1.out HB.out) | (with_reducible refine Kd.C_alloc ?_ _) | (with_reducible refine Kd.C_drewN ?_ _) | (with_reducible refine Kd.C_drew ?_))); (case side4 => exact HC0_1.out); (case side5 => first | exact hG_ | exact Glob.drewN hG_ _ | exact Glob.below hG_ (by repeat (first | (with_reducible first | exact HB.out | apply below_alloc | apply pw_below_drewN | apply below_drew1 | refine below_set ?_ GE190.out) | exact HB.out))); rintro e w16 ⟨rfl, hb⟩; refine ⟨_, rfl, ?_⟩; have n0_ := Aside0.mk (blk_below (g := gb190) (o := .cells #[.slice A0_0 l0_0.length c0_0, .slice A0_1 l0_1.length c0_1] 29 (0, 0)) (by (with_reducible repeat (first | refine blk_drewN ?_ _ | refine blk_drew ?_ | refine blk_alloc ?_ _)); exact BK190.out) hb); have n1_ := Aside0.mk (below_step (by repeat (first | (with_reducible first | exact HB.out | apply below_alloc | apply pw_below_drewN | apply below_drew1 | refine below_set ?_ GE190.out) | exact HB.out)) hb); clear BK190; clear HB; have BK190 := n0_; have HB := n1_; clear n0_ n1_; (try clear hb); (try clear hb2); (try clear hk); (try clear hi)))
    go_ret2
    exact ⟨by first | rfl | (simp [errW_none, errW_some] <;> rfl) | (simp [*, errW_none, errW_some] <;> rfl), by repeat (first | (with_reducible first | exact HB.out | apply below_alloc | apply pw_below_drewN | apply below_drew1 | refine below_set ?_ GE190.out) | exact HB.out)⟩

end Go.Proofs.YteennleoieafiaaDoor.P
end
section
namespace Go.Proofs.YteennleoieafiaaDoor.P
open Go.RowKit Go.Proofs.YteennleoieafiaaDoorW.PrintWords Go.Proofs.YteennleoieafiaaDoorW.PrintLast Go.Proofs.YteennleoieafiaaDoorW.PrintMore Go.Proofs.YteennleoieafiaaDoor.G
attribute [local go_sem] max2_int min2_int max_two min_two max_three min_three max_four min_four   -- for this text's walks alone
set_option linter.unusedVariables false
set_option linter.unusedSimpArgs false

/-! ### model_Values: function 19 -/
mutual
def model_Values.j0 : Nat → Int → Bool → List (S32) → List (S42) → Option (List Int × Int)
  | 0, _, _, _, _ => none
  | k + 1, x1, x26, x218000, x218001 => if x26 = true then (some (([] : List Int), 9)) else (if 0 ≤ (x218000.length : Int) then (if ((x218000.length : Int) : Int).toNat ≤ 35184372088832 then (model_Values.l0 k x1 (List.replicate ((x218000.length : Int) : Int).toNat 0) (wrap64 ((x218000.length : Int) - 1)) x218000 x218001) else (none)) else (none))
def model_Values.l0 : Nat → Int → List Int → Int → List (S32) → List (S42) → Option (List Int × Int)
  | 0, _, _, _, _, _ => none
  | k + 1, x1, x8, x9, x218000, x218001 => if x9 ≥ 0 then (if 0 ≤ x9 then (if x9 < (x218000.length : Int) then (if (wrap64 ((wrap64 (((rd_T32 x218000 x9).f2) - ((rd_T32 x218000 x9).f1))) + 1)) = 0 then (none) else (if x9 < (x8.length : Int) then (model_Values.l0 k (wrap64 (Int.tdiv x1 (wrap64 ((wrap64 (((rd_T32 x218000 x9).f2) - ((rd_T32 x218000 x9).f1))) + 1)))) (x8.set (x9 : Int).toNat (wrap64 (((rd_T32 x218000 x9).f1) + (Int.tmod x1 (wrap64 ((wrap64 (((rd_T32 x218000 x9).f2) - ((rd_T32 x218000 x9).f1))) + 1)))))) (wrap64 (x9 - 1)) x218000 x218001) else (none))) else (none)) else (none)) else (some (x8, 0))
end
def model_Values.f (k : Nat) (l0_0 : List (S32)) (l0_1 : List (S42)) (a1 : Int) : Option (List Int × Int) := (model_Count.f k l0_0 l0_1).bind fun bt218 => (if bt218.2 = 0 then (if a1 < 0 then (model_Values.j0 k a1 true l0_0 l0_1) else (model_Values.j0 k a1 (decide (a1 ≥ bt218.1)) l0_0 l0_1)) else (some (([] : List Int), bt218.2)))
theorem model_Values.mono_l : ∀ k, (∀ y0 y1 y2 y3, LeO (model_Values.j0 k y0 y1 y2 y3) (model_Values.j0 (k + 1) y0 y1 y2 y3)) ∧ (∀ y0 y1 y2 y3 y4, LeO (model_Values.l0 k y0 y1 y2 y3 y4) (model_Values.l0 (k + 1) y0 y1 y2 y3 y4))
  | 0 => ⟨fun _ _ _ _ r h => by simp [model_Values.j0] at h, fun _ _ _ _ _ r h => by simp [model_Values.l0] at h⟩
  | k + 1 => by
    obtain ⟨ih0, ih1⟩ := model_Values.mono_l k
    refine ⟨?_, ?_⟩
    · intro y0 y1 y2 y3
      unfold model_Values.j0
      repeat' first
      | (with_reducible exact ih0 _ _ _ _)
      | (with_reducible exact ih1 _ _ _ _ _)
      | (with_reducible exact model_Count.mono _ _ _)
      | (with_reducible exact LeO.refl _)
      | (with_reducible exact LeO.none _)
      | (with_reducible refine LeO.ite ?_ ?_)
      | (with_reducible refine LeO.bind ?_ (fun _ => ?_))
      | exact ih0 _ _ _ _
      | exact ih1 _ _ _ _ _
      | exact model_Count.mono _ _ _
      | exact LeO.none _
      | refine LeO.ite ?_ ?_
      | refine LeO.bind ?_ (fun _ => ?_)
    · intro y0 y1 y2 y3 y4
      unfold model_Values.l0
      repeat' first
      | (with_reducible exact ih0 _ _ _ _)
      | (with_reducible exact ih1 _ _ _ _ _)
      | (with_reducible exact model_Count.mono _ _ _)
      | (with_reducible exact LeO.refl _)
      | (with_reducible exact LeO.none _)
      | (with_reducible refine LeO.ite ?_ ?_)
      | (with_reducible refine LeO.bind ?_ (fun _ => ?_))
      | exact ih0 _ _ _ _
      | exact ih1 _ _ _ _ _
      | exact model_Count.mono _ _ _
      | exact LeO.none _
      | refine LeO.ite ?_ ?_
      | refine LeO.bind ?_ (fun _ => ?_)
theorem model_Values.mono : ∀ a0 a1 a2 k, LeO (model_Values.f k a0 a1 a2) (model_Values.f (k + 1) a0 a1 a2) := by
  intro a0 a1 a2 k
  obtain ⟨ih0, ih1⟩ := model_Values.mono_l k
  unfold model_Values.f
  repeat' first
      | (with_reducible exact ih0 _ _ _ _)
      | (with_reducible exact ih1 _ _ _ _ _)
      | (with_reducible exact model_Count.mono _ _ _)
      | (with_reducible exact LeO.refl _)
      | (with_reducible exact LeO.none _)
      | (with_reducible refine LeO.ite ?_ ?_)
      | (with_reducible refine LeO.bind ?_ (fun _ => ?_))
      | exact ih0 _ _ _ _
      | exact ih1 _ _ _ _ _
      | exact model_Count.mono _ _ _
      | exact LeO.none _
      | refine LeO.ite ?_ ?_
      | refine LeO.bind ?_ (fun _ => ?_)
def model_Values.T12 : Bool × List (List Nat × List Nat) := (true, [([], []), ([], []), ([], []), ([2], [2]), ([], []), ([], []), ([4, 5], [4, 5]), ([3, 6], [3, 6]), ([0, 1, 0, 1, 2, 3, 4, 5, 6, 7], [0, 1]), ([8, 7, 0, 1, 2, 3, 4, 5, 6, 7], [7, 8])])
def model_Values.B12 : List Nat := [0, 0, 0, 4, 0, 0, 48, 124, 255, 511]
theorem model_Values.tab12 : rtab .any (opsOf Tryd.f19 12) = model_Values.T12 := by kernel_rfl
theorem model_Values.bits12 : waitsOk model_Values.T12.2 model_Values.B12 = true := by kernel_rfl
set_option maxHeartbeats 8000000 in
set_option maxRecDepth 100000 in
theorem model_Values.calls (k : Nat) (A0_0 : Option Addr) (c0_0 : Nat) (l0_0 : List (S32)) (A0_1 : Option Addr) (c0_1 : Nat) (l0_1 : List (S42)) (a1 : Int) (r1 : List Int) (r2 : Int) (w : World) (hr0_0 : Kd.C k32 w A0_0 l0_0.length l0_0) (hc0_0 : l0_0.length ≤ c0_0) (hr0_1 : Kd.C k42 w A0_1 l0_1.length l0_1) (hc0_1 : l0_1.length ≤ c0_1) (hG_ : Glob w) (h : model_Values.f k l0_0 l0_1 a1 = some (r1, r2)) :
    Calls Tryd.prog 19 #[.agg #[.slice A0_0 l0_0.length c0_0, .slice A0_1 l0_1.length c0_1], .int .i64 a1] w fun e w' => ∃ v0_ : Value, e = .returned (.tuple #[v0_, .int .i64 r2]) ∧ Kd.R (Kd.int .i64) 3 w' w.heap.size (fun _ => True) v0_ r1 ∧ Below w.heap.size w w' := by
  have hu29 := Tryd.underlying29
  have hu32 := Tryd.underlying32
  have HR0_0 := Aside0.mk hr0_0
  have HC0_0 := Aside0.mk hc0_0
  clear hr0_0 hc0_0
  have HR0_1 := Aside0.mk hr0_1
  have HC0_1 := Aside0.mk hc0_1
  clear hr0_1 hc0_1
  have HB := Aside0.mk (Below.refl w.heap.size w)
  have H : ((model_Count.f k l0_0 l0_1).bind fun bt218 => (if bt218.2 = 0 then (if a1 < 0 then (model_Values.j0 k a1 true l0_0 l0_1) else (model_Values.j0 k a1 (decide (a1 ≥ bt218.1)) l0_0 l0_1)) else (some (([] : List Int), bt218.2)))) = some (r1, r2) := h
  clear h
  replace H := Option.bind_eq_some_iff.mp H
  obtain ⟨⟨t218, t219⟩, A30, H⟩ := H
  replace H : (if t219 = 0 then (if a1 < 0 then (model_Values.j0 k a1 true l0_0 l0_1) else (model_Values.j0 k a1 (decide (a1 ≥ t218)) l0_0 l0_1)) else (some (([] : List Int), t219))) = some (r1, r2) := H
  have A3 := Aside0.mk A30
  clear A30
  by_cases c4 : t219 = 0
  · rw [if_pos c4] at H
    have c4b0 : (t219 == 0) = true := beq_iff_eq.mpr c4
    have c4b1 : (t219 != 0) = false := bne_eq_false_iff_eq.mpr c4
    clear c4
    have HC5 := Aside0.mk H
    clear H
    go_enter Tryd.func19, Tryd.ntmps19
    go_upto_region 4 with (first | ((with_reducible refine gate_dst (N := 2) rfl ?_); refine box_event ?hg (N := 2) ?hd (cs := #[.slice A0_0 l0_0.length c0_0, .slice A0_1 l0_1.length c0_1]) (t := 29) ?hr ?_; (case hd => rfl); (case hg => rfl); (case hr => first | (go_simp; done) | (go_simp; rfl)); intro gb217 hg w6 hbox hb; have n0_ := Aside0.mk (below_step (by repeat (first | (with_reducible first | exact HB.out | apply below_alloc | apply pw_below_drewN | apply below_drew1) | exact HB.out)) hb); have n1_ := Aside0.mk (hbox); have n2_ := Aside0.mk ((by rw [hg]; exact (below_size (by repeat (first | (with_reducible first | exact HB.out | apply below_alloc | apply pw_below_drewN | apply below_drew1) | exact HB.out))) : w.heap.size ≤ gb217)); have n3_ := Aside0.mk ((by rw [hg]; exact (below_size (by repeat (first | (with_reducible first | exact HB.out | apply below_alloc | apply pw_below_drewN | apply below_drew1) | exact HB.out))) : w.heap.size ≤ gb217)); clear HB; have HB := n0_; have BK217 := n1_; have GW217 := n2_; have GE217 := n3_; clear n0_ n1_ n2_ n3_; clear hb hbox hg; have hcz7_0 : w6.cell? ⟨gb217, 0, none⟩ = some (.slice A0_0 l0_0.length c0_0) := (blk_cell BK217.out 0).trans rfl; have hcz7_1 : w6.cell? ⟨gb217, 1, none⟩ = some (.slice A0_1 l0_1.length c0_1) := (blk_cell BK217.out 1).trans rfl; have hfz7_0 := blk_frozen BK217.out 0; have hfz7_1 := blk_frozen BK217.out 1) | ((with_reducible refine gate_callee (f := 18) rfl ?_); refine goesL_ (some 14) rfl rfl Tryd.func18 (by kernel_rfl) rfl #[.agg #[.slice A0_0 l0_0.length c0_0, .slice A0_1 l0_1.length c0_1]] rfl (by (try simp only [List.map_toArray, List.map_cons, List.map_nil]); first | done | rfl | (simp only [List.length_drop, List.length_take]; rfl)) ?_; (with_reducible refine (model_Count.calls k _ _ l0_0 _ _ l0_1 t218 t219 _ ?side1 ?side2 ?side3 ?side4 ?side5 A3.out).mono ?_); (case side1 => repeat (first | exact (Kd.C_below HR0_0.out HB.out) | (with_reducible refine Kd.C_alloc ?_ _) | (with_reducible refine Kd.C_drewN ?_ _) | (with_reducible refine Kd.C_drew ?_))); (case side2 => exact HC0_0.out); (case side3 => repeat (first | exact (Kd.C_below HR0_1.out HB.out) | (with_reducible refine Kd.C_alloc ?_ _) | (with_reducible refine Kd.C_drewN ?_ _) | (with_reducible refine Kd.C_drew ?_))); (case side4 => exact HC0_1.out); (case side5 => first | exact hG_ | exact Glob.drewN hG_ _ | exact Glob.below hG_ (by repeat (first | (with_reducible first | exact HB.out | apply below_alloc | apply pw_below_drewN | apply below_drew1 | refine below_set ?_ GE217.out) | exact HB.out))); rintro e w8 ⟨rfl, hb⟩; refine ⟨_, rfl, ?_⟩; have n0_ := Aside0.mk (blk_below (g := gb217) (o := .cells #[.slice A0_0 l0_0.length c0_0, .slice A0_1 l0_1.length c0_1] 29 (0, 0)) (by (with_reducible repeat (first | refine blk_drewN ?_ _ | refine blk_drew ?_ | refine blk_alloc ?_ _)); exact BK217.out) hb); have n1_ := Aside0.mk (below_step (by repeat (first | (with_reducible first | exact HB.out | apply below_alloc | apply pw_below_drewN | apply below_drew1 | refine below_set ?_ GE217.out) | exact HB.out)) hb); clear BK217; clear HB; have BK217 := n0_; have HB := n1_; clear n0_ n1_; (try clear hb); (try clear hb2); (try clear hk); (try clear hi)))
    (try simp only [Act.put, List.setIfInBounds_toArray, List.set_cons_zero, List.set_cons_succ])
    go_cut [26] (fun v26 wc => ∃ (kq : Nat) (x26_4 : Bool), v26 = .bool x26_4 ∧ Aside0 (model_Values.j0 kq a1 x26_4 l0_0 l0_1 = some (r1, r2)) ∧ Aside0 (kq ≤ k) ∧ Aside0 (wc.heap[gb217]? = some (.cells #[(.slice A0_0 l0_0.length c0_0), (.slice A0_1 l0_1.length c0_1)] 29 (0, 0))) ∧ Aside0 (Below w.heap.size w wc))
    case first =>
      have H := HC5.out
      clear HC5
      by_cases c9 : a1 < 0
      · rw [if_pos c9] at H
        have c9b0 : decide (a1 < 0) = true := decide_eq_true c9
        clear c9
        (first | rw [c9b0] | (simp only [i64_w, i32_w]; rw [c9b0]) | skip)
        have H' := Aside0.mk H
        clear H
        go_wp2
        go_meet
        case rel => exact ⟨_, (true), (by first | rfl | (simp; done) | (simp [*]; done)), H', ⟨by first | omega | exact Nat.le_refl _⟩, ⟨by (with_reducible repeat (first | refine blk_drewN ?_ _ | refine blk_drew ?_ | refine blk_alloc ?_ _)); exact BK217.out⟩, ⟨by repeat (first | (with_reducible first | exact HB.out | apply below_alloc | apply pw_below_drewN | apply below_drew1 | refine below_set ?_ GE217.out) | exact HB.out)⟩⟩
      · rw [if_neg c9] at H
        have c9b0 : decide (a1 < 0) = false := decide_eq_false c9
        clear c9
        (first | rw [c9b0] | (simp only [i64_w, i32_w]; rw [c9b0]) | skip)
        have H' := Aside0.mk H
        clear H
        go_wp2
        go_meet
        case rel => exact ⟨_, (decide (a1 ≥ t218)), (by first | rfl | (simp; done) | (simp [*]; done)), H', ⟨by first | omega | exact Nat.le_refl _⟩, ⟨by (with_reducible repeat (first | refine blk_drewN ?_ _ | refine blk_drew ?_ | refine blk_alloc ?_ _)); exact BK217.out⟩, ⟨by repeat (first | (with_reducible first | exact HB.out | apply below_alloc | apply pw_below_drewN | apply below_drew1 | refine below_set ?_ GE217.out) | exact HB.out)⟩⟩
    case rest =>
      clear HC5
      try clear c1
      try clear p2
      try clear c4
      try clear c4b0
      try clear c4b1
      try clear c9
      try clear c9b0
      try clear hcz7_0
      try clear hcz7_1
      try clear hfz7_0
      try clear hfz7_1
      obtain ⟨kq, x26_4, rfl, HA, HJ4, BK217, HB⟩ := hcut
      cases kq with
      | zero => exact absurd HA.out (by simp [model_Values.j0])
      | succ kj4 =>
        have H := HA.out
        clear HA
        simp only [model_Values.j0] at H
        by_cases c10 : x26_4 = true
        · subst c10
          have H1 : (some (([] : List Int), 9)) = some (r1, r2) := by rw [if_pos rfl] at H; exact H
          clear H
          have H := H1
          clear H1
          simp only [Option.some.injEq, Prod.mk.injEq] at H
          obtain ⟨rfl, rfl⟩ := H
          go_wp2
          go_ret2
          exact ⟨_, by first | rfl | (simp [errW_none, errW_some] <;> rfl) | (simp [*, errW_none, errW_some] <;> rfl), by first | exact Kd.R_nil _ _ _ _ _ | exact Kd.N_nil _ _ _ _ _ | exact Kd.V_nil _ _ _ _ _ | exact Kd.Q_nil _ _ _ _ _ | exact Kd.S_nil _ _ _ _ _, by repeat (first | (with_reducible first | exact HB.out | apply below_alloc | apply pw_below_drewN | apply below_drew1 | refine below_set ?_ GE217.out) | exact HB.out)⟩
        · replace c10 := Bool.eq_false_iff.mpr c10
          subst c10
          have H1 : (if 0 ≤ (l0_0.length : Int) then (if ((l0_0.length : Int) : Int).toNat ≤ 35184372088832 then (model_Values.l0 kj4 a1 (List.replicate ((l0_0.length : Int) : Int).toNat 0) (wrap64 ((l0_0.length : Int) - 1)) l0_0 l0_1) else (none)) else (none)) = some (r1, r2) := by rw [if_neg (show ¬ (false = true) by decide)] at H; exact H
          clear H
          have H := H1
          clear H1
          by_cases c11 : 0 ≤ (l0_0.length : Int)
          · rw [if_pos c11] at H
            have c11b0 := eq_true c11
            have c11b1 : decide (0 ≤ (l0_0.length : Int)) = true := decide_eq_true c11
            clear c11
            by_cases c12 : ((l0_0.length : Int) : Int).toNat ≤ 35184372088832
            · rw [if_pos c12] at H
              have c12b0 := eq_true c12
              have c12b1 : decide (((l0_0.length : Int) : Int).toNat ≤ 35184372088832) = true := decide_eq_true c12
              clear c12
              obtain ⟨y220, hy220⟩ : ∃ y_ : List Int, y_ = (List.replicate ((l0_0.length : Int) : Int).toNat 0) := ⟨_, rfl⟩
              replace H : (model_Values.l0 kj4 a1 y220 (wrap64 ((l0_0.length : Int) - 1)) l0_0 l0_1) = some (r1, r2) := by first | (rw [hy220]; with_reducible exact H) | (have H2_ := (Option.bind_some _ _).symm.trans H; rw [hy220]; with_reducible exact H2_) | (have H2_ := (Option.bind_some _ _).symm.trans H; with_reducible exact H2_) | with_reducible exact H | (rw [hy220]; exact H) | exact H
              have Ny220 := Aside0.mk hy220
              clear hy220
              have H' := Aside0.mk H
              clear H
              have hcz13_0 : wc.cell? ⟨gb217, 0, none⟩ = some (.slice A0_0 l0_0.length c0_0) := (blk_cell BK217.out 0).trans rfl
              have hcz13_1 : wc.cell? ⟨gb217, 1, none⟩ = some (.slice A0_1 l0_1.length c0_1) := (blk_cell BK217.out 1).trans rfl
              have hfz13_0 := blk_frozen BK217.out 0
              have hfz13_1 := blk_frozen BK217.out 1
              go_wp2_with (first | ((with_reducible refine gate_dst (N := 30) rfl ?_); refine Kd.R_make (Kd.int .i64) _ 3 rfl (N := 30) rfl 48 _ _ rfl (l0_0.length : Int) rfl rfl Tryd.underlying48 (.int .i64 0) 8 info3 rfl (by decide) (by omega) 0 (ok := fun _ => True) (okp := fun _ => True) rfl (fun _ hk => hk) trivial (of_decide_eq_true (by first | (with_reducible assumption) | assumption)) (Nat.le_trans (Nat.mul_le_mul_right _ (of_decide_eq_true (by first | (with_reducible assumption) | assumption) : (l0_0.length : Int).toNat ≤ 35184372088832)) (by omega)) (Below.refl _ _) (Nat.le_refl _) ?_; intro v221 w14 ho15 hb hg_ hnew_; clear hg_ hnew_; (first | rw [← Ny220.out] at ho15 | (simp only [Int.reduceToNat] at ho15; rw [← Ny220.out] at ho15)); have n0_ := Aside0.mk (Kd.R_lower ho15 (below_size (by repeat (first | (with_reducible first | exact HB.out | apply below_alloc | apply pw_below_drewN | apply below_drew1 | refine below_set ?_ GE217.out) | exact HB.out)))); have n1_ := Aside0.mk (blk_below (g := gb217) (o := .cells #[.slice A0_0 l0_0.length c0_0, .slice A0_1 l0_1.length c0_1] 29 (0, 0)) (by (with_reducible repeat (first | refine blk_drewN ?_ _ | refine blk_drew ?_ | refine blk_alloc ?_ _)); exact BK217.out) hb); have n2_ := Aside0.mk (below_step (by repeat (first | (with_reducible first | exact HB.out | apply below_alloc | apply pw_below_drewN | apply below_drew1 | refine below_set ?_ GE217.out) | exact HB.out)) hb); clear BK217; clear HB; have HO222 := n0_; have BK217 := n1_; have HB := n2_; clear n0_ n1_ n2_; clear hb ho15; have hcz16_0 : w14.cell? ⟨gb217, 0, none⟩ = some (.slice A0_0 l0_0.length c0_0) := (blk_cell BK217.out 0).trans rfl; have hcz16_1 : w14.cell? ⟨gb217, 1, none⟩ = some (.slice A0_1 l0_1.length c0_1) := (blk_cell BK217.out 1).trans rfl; have hfz16_0 := blk_frozen BK217.out 0; have hfz16_1 := blk_frozen BK217.out 1))
              go_loopg [1, 9] kj4 (fun kq v1 v9 w' => ∃ (x1_2 : Int) (x8_2 : List Int) (x9_2 : Int), v1 = .int .i64 x1_2 ∧ v9 = .int .i64 x9_2 ∧ Aside0 (model_Values.l0 kq x1_2 x8_2 x9_2 l0_0 l0_1 = some (r1, r2)) ∧ Aside0 (kq ≤ kj4) ∧ Aside0 (Kd.R (Kd.int .i64) 3 w' w.heap.size (fun _ => True) v221 x8_2) ∧ Aside0 (w'.heap[gb217]? = some (.cells #[(.slice A0_0 l0_0.length c0_0), (.slice A0_1 l0_1.length c0_1)] 29 (0, 0))) ∧ Aside0 (Below w.heap.size w w'))
              case atStart => exact ⟨(a1), (y220), (wrap64 ((l0_0.length : Int) - 1)), (by first | rfl | (simp; done) | (simp [*]; done)), (by first | rfl | (simp; done) | (simp [*]; done)), H', ⟨Nat.le_refl _⟩, ⟨by (with_reducible repeat (first | apply Kd.R_alloc | apply Kd.R_drewN | apply Kd.R_drew)); exact HO222.out⟩, ⟨by (with_reducible repeat (first | refine blk_drewN ?_ _ | refine blk_drew ?_ | refine blk_alloc ?_ _)); exact BK217.out⟩, ⟨by repeat (first | (with_reducible first | exact HB.out | apply below_alloc | apply pw_below_drewN | apply below_drew1 | refine below_set ?_ GE217.out) | exact HB.out)⟩⟩
              case round =>
                clear H'
                try clear c1
                try clear p2
                try clear c4
                try clear c4b0
                try clear c4b1
                try clear p6
                try clear c9
                try clear c9b0
                try clear c10
                try clear c11
                try clear c11b0
                try clear c11b1
                try clear c12
                try clear c12b0
                try clear c12b1
                try clear hcz13_0
                try clear hcz13_1
                try clear hcz16_0
                try clear hcz16_1
                try clear hcz7_0
                try clear hcz7_1
                try clear hfz13_0
                try clear hfz13_1
                try clear hfz16_0
                try clear hfz16_1
                try clear hfz7_0
                try clear hfz7_1
                try clear p2
                obtain ⟨x1_2, x8_2, x9_2, rfl, rfl, HA, HK2, HO_8, BK217, HB⟩ := hrel
                cases gk with
                | zero => exact absurd HA.out (by simp [model_Values.l0])
                | succ k2 =>
                  have H := HA.out
                  clear HA
                  simp only [model_Values.l0] at H
                  by_cases c17 : x9_2 ≥ 0
                  · rw [if_pos c17] at H
                    have c17b0 : decide (0 ≤ x9_2) = true := decide_eq_true c17
                    clear c17
                    by_cases c18 : 0 ≤ x9_2
                    · rw [if_pos c18] at H
                      have c18b0 : decide (0 ≤ x9_2) = true := decide_eq_true c18
                      clear c18
                      by_cases c19 : x9_2 < (l0_0.length : Int)
                      · rw [if_pos c19] at H
                        have c19b0 : decide (x9_2 < (l0_0.length : Int)) = true := decide_eq_true c19
                        clear c19
                        by_cases c20 : (wrap64 ((wrap64 (((rd_T32 l0_0 x9_2).f2) - ((rd_T32 l0_0 x9_2).f1))) + 1)) = 0
                        · rw [if_pos c20] at H
                          exact absurd H (by simp)
                        · rw [if_neg c20] at H
                          have c20b0 : ((wrap64 ((wrap64 (((rd_T32 l0_0 x9_2).f2) - ((rd_T32 l0_0 x9_2).f1))) + 1)) == 0) = false := beq_eq_false_iff_ne.mpr c20
                          have c20b1 : ((wrap64 ((wrap64 (((rd_T32 l0_0 x9_2).f2) - ((rd_T32 l0_0 x9_2).f1))) + 1)) != 0) = true := bne_iff_ne.mpr c20
                          by_cases c21 : x9_2 < (x8_2.length : Int)
                          · rw [if_pos c21] at H
                            have c21b0 : decide (x9_2 < (x8_2.length : Int)) = true := decide_eq_true c21
                            clear c21
                            obtain ⟨y225, hy225⟩ : ∃ y_ : List Int, y_ = (x8_2.set (x9_2 : Int).toNat (wrap64 (((rd_T32 l0_0 x9_2).f1) + (Int.tmod x1_2 (wrap64 ((wrap64 (((rd_T32 l0_0 x9_2).f2) - ((rd_T32 l0_0 x9_2).f1))) + 1)))))) := ⟨_, rfl⟩
                            replace H : (model_Values.l0 k2 (wrap64 (Int.tdiv x1_2 (wrap64 ((wrap64 (((rd_T32 l0_0 x9_2).f2) - ((rd_T32 l0_0 x9_2).f1))) + 1)))) y225 (wrap64 (x9_2 - 1)) l0_0 l0_1) = some (r1, r2) := by first | (rw [hy225]; with_reducible exact H) | (have H2_ := (Option.bind_some _ _).symm.trans H; rw [hy225]; with_reducible exact H2_) | (have H2_ := (Option.bind_some _ _).symm.trans H; with_reducible exact H2_) | with_reducible exact H | (rw [hy225]; exact H) | exact H
                            have Ny225 := Aside0.mk hy225
                            clear hy225
                            have H' := Aside0.mk H
                            clear H
                            have hcz23_0 : wr.cell? ⟨gb217, 0, none⟩ = some (.slice A0_0 l0_0.length c0_0) := (blk_cell BK217.out 0).trans rfl
                            have hcz23_1 : wr.cell? ⟨gb217, 1, none⟩ = some (.slice A0_1 l0_1.length c0_1) := (blk_cell BK217.out 1).trans rfl
                            have hfz23_0 := blk_frozen BK217.out 0
                            have hfz23_1 := blk_frozen BK217.out 1
                            have p223 : 0 ≤ (x9_2 : Int) := of_decide_eq_true (by first | (with_reducible assumption) | assumption)
                            have q223 : x9_2 < (l0_0.length : Int) := of_decide_eq_true (by first | (with_reducible assumption) | assumption)
                            obtain ⟨ad223, e223, hx223_0, hx223_1, hx223_2, hx223_3⟩ := at_T32 HR0_0.out x9_2 p223 q223
                            cases e223
                            replace hx223_0 := (HB.out.cell (World.block_lt_of_cell? w _ hx223_0)).trans hx223_0
                            replace hx223_1 := (HB.out.cell (World.block_lt_of_cell? w _ hx223_1)).trans hx223_1
                            replace hx223_2 := (HB.out.cell (World.block_lt_of_cell? w _ hx223_2)).trans hx223_2
                            replace hx223_3 := (HB.out.cell (World.block_lt_of_cell? w _ hx223_3)).trans hx223_3
                            replace p223 := eq_true p223
                            replace q223 := eq_true q223
                            try go_wp2_with (first | ((with_reducible refine gate_dst (N := 10) rfl ?_); refine box_event ?hg (N := 10) ?hd (cs := #[.string (⟨#[]⟩ : ByteArray), .int .i64 0, .int .i64 0, .int .i64 0]) (t := 32) ?hr ?_; (case hd => rfl); (case hg => rfl); (case hr => first | (go_simp; done) | (go_simp; rfl)); intro gb224 hg w24 hbox hb; have n0_ := Aside0.mk (Kd.R_below (by (with_reducible repeat (first | apply Kd.R_alloc | apply Kd.R_drewN | apply Kd.R_drew)); exact HO_8.out) hb); have n1_ := Aside0.mk (blk_below (g := gb217) (o := .cells #[.slice (some ad223) l0_0.length c0_0, .slice A0_1 l0_1.length c0_1] 29 (0, 0)) (by (with_reducible repeat (first | refine blk_drewN ?_ _ | refine blk_drew ?_ | refine blk_alloc ?_ _)); exact BK217.out) hb); have n2_ := Aside0.mk (below_step (by repeat (first | (with_reducible first | exact HB.out | apply below_alloc | apply pw_below_drewN | apply below_drew1 | refine below_set ?_ GE217.out) | exact HB.out)) hb); have n3_ := Aside0.mk (hbox); have n4_ := Aside0.mk ((by rw [hg]; exact (below_size (by repeat (first | (with_reducible first | exact HB.out | apply below_alloc | apply pw_below_drewN | apply below_drew1 | refine below_set ?_ GE217.out) | exact HB.out))) : w.heap.size ≤ gb224)); have n5_ := Aside0.mk ((by rw [hg]; exact (below_size (by repeat (first | (with_reducible first | exact HB.out | apply below_alloc | apply pw_below_drewN | apply below_drew1 | refine below_set ?_ GE217.out) | exact HB.out))) : w.heap.size ≤ gb224)); have n6_ := Aside0.mk ((by rw [hg]; exact Nat.ne_of_lt (blk_lt (g := gb217) (o := .cells #[.slice (some ad223) l0_0.length c0_0, .slice A0_1 l0_1.length c0_1] 29 (0, 0)) (by (with_reducible repeat (first | refine blk_drewN ?_ _ | refine blk_drew ?_ | refine blk_alloc ?_ _)); exact BK217.out)) : gb217 ≠ gb224)); have n7_ := Aside0.mk ((by rw [hg]; exact Nat.ne_of_gt (blk_lt (g := gb217) (o := .cells #[.slice (some ad223) l0_0.length c0_0, .slice A0_1 l0_1.length c0_1] 29 (0, 0)) (by (with_reducible repeat (first | refine blk_drewN ?_ _ | refine blk_drew ?_ | refine blk_alloc ?_ _)); exact BK217.out)) : gb224 ≠ gb217)); clear HO_8; clear BK217; clear HB; have HO_8 := n0_; have BK217 := n1_; have HB := n2_; have BK224 := n3_; have GW224 := n4_; have GE224 := n5_; have NB217_224 := n6_; have NB224_217 := n7_; clear n0_ n1_ n2_ n3_ n4_ n5_ n6_ n7_; clear hb hbox hg; have hnb25 := NB224_217.out; have hnc25 := NB217_224.out; have hcz26_0 : w24.cell? ⟨gb224, 0, none⟩ = some (.string (⟨#[]⟩ : ByteArray)) := (blk_cell BK224.out 0).trans rfl; have hcz26_1 : w24.cell? ⟨gb224, 1, none⟩ = some (.int .i64 0) := (blk_cell BK224.out 1).trans rfl; have hcz26_2 : w24.cell? ⟨gb224, 2, none⟩ = some (.int .i64 0) := (blk_cell BK224.out 2).trans rfl; have hcz26_3 : w24.cell? ⟨gb224, 3, none⟩ = some (.int .i64 0) := (blk_cell BK224.out 3).trans rfl; have hfz26_0 := blk_frozen BK224.out 0; have hfz26_1 := blk_frozen BK224.out 1; have hfz26_2 := blk_frozen BK224.out 2; have hfz26_3 := blk_frozen BK224.out 3))
                            have n0_ : Aside0 (Kd.R (Kd.int .i64) 3 ((((w24.setCell ⟨gb224, 0, none⟩ (.string ((rd_T32 l0_0 x9_2).f0))).setCell ⟨gb224, 1, none⟩ (.int .i64 ((rd_T32 l0_0 x9_2).f1))).setCell ⟨gb224, 2, none⟩ (.int .i64 ((rd_T32 l0_0 x9_2).f2))).setCell ⟨gb224, 3, none⟩ (.int .i64 ((rd_T32 l0_0 x9_2).f3))) w.heap.size (fun _ => True) v221 x8_2) := ⟨by (with_reducible repeat (first | apply Kd.R_alloc | apply Kd.R_drewN | apply Kd.R_drew)); exact Kd.R_mono (Kd.R_far (p := ⟨gb224, 3, none⟩) (Kd.R_far (p := ⟨gb224, 2, none⟩) (Kd.R_far (p := ⟨gb224, 1, none⟩) (Kd.R_far (p := ⟨gb224, 0, none⟩) (Kd.R_types HO_8.out BK224.out (by decide)) (fun _ hk => hk.2) (.string ((rd_T32 l0_0 x9_2).f0))) (fun _ hk => hk.2) (.int .i64 ((rd_T32 l0_0 x9_2).f1))) (fun _ hk => hk.2) (.int .i64 ((rd_T32 l0_0 x9_2).f2))) (fun _ hk => hk.2) (.int .i64 ((rd_T32 l0_0 x9_2).f3))) (fun _ hk => trivial)⟩
                            have n1_ : Aside0 (((((w24.setCell ⟨gb224, 0, none⟩ (.string ((rd_T32 l0_0 x9_2).f0))).setCell ⟨gb224, 1, none⟩ (.int .i64 ((rd_T32 l0_0 x9_2).f1))).setCell ⟨gb224, 2, none⟩ (.int .i64 ((rd_T32 l0_0 x9_2).f2))).setCell ⟨gb224, 3, none⟩ (.int .i64 ((rd_T32 l0_0 x9_2).f3))).heap[gb217]? = some (.cells #[.slice (some ad223) l0_0.length c0_0, .slice A0_1 l0_1.length c0_1] 29 (0, 0))) := ⟨by (with_reducible repeat (first | refine blk_drewN ?_ _ | refine blk_drew ?_ | refine blk_alloc ?_ _)); refine blk_far ?_ NB217_224.out _; (with_reducible repeat (first | refine blk_drewN ?_ _ | refine blk_drew ?_ | refine blk_alloc ?_ _)); refine blk_far ?_ NB217_224.out _; (with_reducible repeat (first | refine blk_drewN ?_ _ | refine blk_drew ?_ | refine blk_alloc ?_ _)); refine blk_far ?_ NB217_224.out _; (with_reducible repeat (first | refine blk_drewN ?_ _ | refine blk_drew ?_ | refine blk_alloc ?_ _)); refine blk_far ?_ NB217_224.out _; (with_reducible repeat (first | refine blk_drewN ?_ _ | refine blk_drew ?_ | refine blk_alloc ?_ _)); exact BK217.out⟩
                            have n2_ : Aside0 (((((w24.setCell ⟨gb224, 0, none⟩ (.string ((rd_T32 l0_0 x9_2).f0))).setCell ⟨gb224, 1, none⟩ (.int .i64 ((rd_T32 l0_0 x9_2).f1))).setCell ⟨gb224, 2, none⟩ (.int .i64 ((rd_T32 l0_0 x9_2).f2))).setCell ⟨gb224, 3, none⟩ (.int .i64 ((rd_T32 l0_0 x9_2).f3))).heap[gb224]? = some (.cells #[.string ((rd_T32 l0_0 x9_2).f0), .int .i64 ((rd_T32 l0_0 x9_2).f1), .int .i64 ((rd_T32 l0_0 x9_2).f2), .int .i64 ((rd_T32 l0_0 x9_2).f3)] 32 (0, 0))) := ⟨by (with_reducible repeat (first | refine blk_drewN ?_ _ | refine blk_drew ?_ | refine blk_alloc ?_ _)); refine blk_put (cs := #[.string ((rd_T32 l0_0 x9_2).f0), .int .i64 ((rd_T32 l0_0 x9_2).f1), .int .i64 ((rd_T32 l0_0 x9_2).f2), .int .i64 0]) ?_ 3 _ rfl; (with_reducible repeat (first | refine blk_drewN ?_ _ | refine blk_drew ?_ | refine blk_alloc ?_ _)); refine blk_put (cs := #[.string ((rd_T32 l0_0 x9_2).f0), .int .i64 ((rd_T32 l0_0 x9_2).f1), .int .i64 0, .int .i64 0]) ?_ 2 _ rfl; (with_reducible repeat (first | refine blk_drewN ?_ _ | refine blk_drew ?_ | refine blk_alloc ?_ _)); refine blk_put (cs := #[.string ((rd_T32 l0_0 x9_2).f0), .int .i64 0, .int .i64 0, .int .i64 0]) ?_ 1 _ rfl; (with_reducible repeat (first | refine blk_drewN ?_ _ | refine blk_drew ?_ | refine blk_alloc ?_ _)); refine blk_put (cs := #[.string (⟨#[]⟩ : ByteArray), .int .i64 0, .int .i64 0, .int .i64 0]) ?_ 0 _ rfl; (with_reducible repeat (first | refine blk_drewN ?_ _ | refine blk_drew ?_ | refine blk_alloc ?_ _)); exact BK224.out⟩
                            have n3_ : Aside0 (Below w.heap.size w ((((w24.setCell ⟨gb224, 0, none⟩ (.string ((rd_T32 l0_0 x9_2).f0))).setCell ⟨gb224, 1, none⟩ (.int .i64 ((rd_T32 l0_0 x9_2).f1))).setCell ⟨gb224, 2, none⟩ (.int .i64 ((rd_T32 l0_0 x9_2).f2))).setCell ⟨gb224, 3, none⟩ (.int .i64 ((rd_T32 l0_0 x9_2).f3)))) := ⟨by repeat (first | (with_reducible first | exact HB.out | apply below_alloc | apply pw_below_drewN | apply below_drew1 | refine below_set ?_ GE217.out | refine below_set ?_ GE224.out) | exact HB.out)⟩
                            (try clear HO_8)
                            (try clear BK217)
                            (try clear BK224)
                            (try clear HB)
                            generalize ((((w24.setCell ⟨gb224, 0, none⟩ (.string ((rd_T32 l0_0 x9_2).f0))).setCell ⟨gb224, 1, none⟩ (.int .i64 ((rd_T32 l0_0 x9_2).f1))).setCell ⟨gb224, 2, none⟩ (.int .i64 ((rd_T32 l0_0 x9_2).f2))).setCell ⟨gb224, 3, none⟩ (.int .i64 ((rd_T32 l0_0 x9_2).f3))) = w27 at n0_ n1_ n2_ n3_ ⊢
                            have HO_8 := n0_
                            have BK217 := n1_
                            have BK224 := n2_
                            have HB := n3_
                            clear n0_ n1_ n2_ n3_
                            have n0_ := Aside0.mk (Kd.R_drew HO_8.out)
                            have n1_ := Aside0.mk (blk_drew BK217.out)
                            have n2_ := Aside0.mk (blk_drew BK224.out)
                            have n3_ := Aside0.mk (below_drew1 HB.out)
                            clear HO_8
                            clear BK217
                            clear BK224
                            clear HB
                            have HO_8 := n0_
                            have BK217 := n1_
                            have BK224 := n2_
                            have HB := n3_
                            clear n0_ n1_ n2_ n3_
                            have p22 : 0 ≤ (x9_2 : Int) := of_decide_eq_true (by first | (with_reducible assumption) | assumption)
                            have q22 : (x9_2 : Int) < ((x8_2.length : Int) : Int) := of_decide_eq_true (by first | (with_reducible assumption) | assumption)
                            obtain ⟨go22, co22, eo22, gb22, gl22, cl22, HG22⟩ := Kd.R_form HO_8.out (by omega)
                            (first | cases eo22 | (injection eo22 with ea_ en_ ec_; (first | subst ea_ | (injection ea_ with ea_; subst ea_)); subst ec_; clear en_))
                            have GB22 := Aside0.mk gb22
                            have GG22 := Aside0.mk HG22
                            clear gb22 gl22 HG22
                            obtain ⟨hx22_0, hf22_0⟩ := Kd.R_celln 0 HO_8.out (x9_2 : Int) p22 q22
                            replace p22 := eq_true p22
                            replace q22 := eq_true q22
                            have HP29 := Kd.R_putn HO_8.out (x9_2 : Int) (wrap64 (((rd_T32 l0_0 x9_2).f1) + (Int.tmod x1_2 (wrap64 ((wrap64 (((rd_T32 l0_0 x9_2).f2) - ((rd_T32 l0_0 x9_2).f1))) + 1)))))
                            rw [← Ny225.out] at HP29
                            have HQ29 := Aside0.mk HP29
                            clear HP29
                            refine start_ (n := 10) (S := fun w' => w'.cell? ⟨gb224, 0, none⟩ = some (.string ((rd_T32 l0_0 x9_2).f0)) ∧ w'.cell? ⟨gb224, 1, none⟩ = some (.int .i64 ((rd_T32 l0_0 x9_2).f1)) ∧ w'.cell? ⟨gb224, 2, none⟩ = some (.int .i64 ((rd_T32 l0_0 x9_2).f2)) ∧ w'.cell? ⟨gb224, 3, none⟩ = some (.int .i64 ((rd_T32 l0_0 x9_2).f3))) (ds := [9]) #[false, false, false, false, false, false, false, false, false, false] (by kernel_rfl) rfl rfl ⟨(blk_cell BK224.out 0).trans rfl, (blk_cell BK224.out 1).trans rfl, (blk_cell BK224.out 2).trans rfl, (blk_cell BK224.out 3).trans rfl⟩ (fun hHeld => ?_); refine with_tabW model_Values.tab12 model_Values.bits12 (fun HT_ HW_ => ?_)
                            generalize w27.drew = w28 at HO_8 BK217 BK224 HB GG22 HQ29 hf22_0 hx22_0 hHeld ⊢
                            refine pure_ (i := 0) (N := some 50) (v := ?_) (a' := ?_) #[true, false, false, false, false, false, false, false, false, false] rfl rfl (any_of HT_.out (by kernel_rfl)) (fun _ _ _ h => h) (Or.inl ⟨by rfl, ?_⟩) ?_ ?_
                            rotate_left
                            · intro w'
                              go_simp
                              with_reducible rfl
                            rotate_left
                            · simp only [Act.put, List.setIfInBounds_toArray, List.set_cons_zero, List.set_cons_succ, i64_w, i32_w]
                              rfl
                            refine pure_ (i := 1) (N := some 51) (v := ?_) (a' := ?_) #[true, true, false, false, false, false, false, false, false, false] rfl rfl (any_of HT_.out (by kernel_rfl)) (fun _ _ _ h => h) (Or.inl ⟨by rfl, ?_⟩) ?_ ?_
                            rotate_left
                            · intro w'
                              go_simp
                              with_reducible rfl
                            rotate_left
                            · simp only [Act.put, List.setIfInBounds_toArray, List.set_cons_zero, List.set_cons_succ, i64_w, i32_w]
                              rfl
                            refine pure_ (i := 2) (N := some 52) (v := ?_) (a' := ?_) #[true, true, true, false, false, false, false, false, false, false] rfl rfl (any_of HT_.out (by kernel_rfl)) (fun _ _ _ h => h) (Or.inl ⟨by rfl, ?_⟩) ?_ ?_
                            rotate_left
                            · intro w'
                              go_simp
                              with_reducible rfl
                            rotate_left
                            · simp only [Act.put, List.setIfInBounds_toArray, List.set_cons_zero, List.set_cons_succ, i64_w, i32_w]
                              rfl
                            refine pure_ (i := 4) (N := some 54) (v := ?_) (a' := ?_) #[true, true, true, false, true, false, false, false, false, false] rfl rfl (any_of HT_.out (by kernel_rfl)) (fun _ _ _ h => h) (Or.inl ⟨by rfl, ?_⟩) ?_ ?_
                            rotate_left
                            · intro w'
                              go_simp
                              with_reducible rfl
                            rotate_left
                            · simp only [Act.put, List.setIfInBounds_toArray, List.set_cons_zero, List.set_cons_succ, i64_w, i32_w]
                              rfl
                            refine pure_ (i := 5) (N := some 55) (v := ?_) (a' := ?_) #[true, true, true, false, true, true, false, false, false, false] rfl rfl (any_of HT_.out (by kernel_rfl)) (fun _ _ _ h => h) (Or.inl ⟨by rfl, ?_⟩) ?_ ?_
                            rotate_left
                            · intro w'
                              go_simp
                              with_reducible rfl
                            rotate_left
                            · simp only [Act.put, List.setIfInBounds_toArray, List.set_cons_zero, List.set_cons_succ, i64_w, i32_w]
                              rfl
                            refine pure_ (i := 6) (N := some 56) (v := ?_) (a' := ?_) #[true, true, true, false, true, true, true, false, false, false] rfl rfl (any_of HT_.out (by kernel_rfl)) (fun _ _ _ h => h) (Or.inl ⟨by rfl, ?_⟩) ?_ ?_
                            rotate_left
                            · intro w'
                              go_simp
                              with_reducible rfl
                            rotate_left
                            · simp only [Act.put, List.setIfInBounds_toArray, List.set_cons_zero, List.set_cons_succ, i64_w, i32_w]
                              rfl
                            refine take_ (i := 3) (N := some 53) (v := ?_) (a' := ?_) #[true, true, true, true, true, true, true, false, false, false] rfl rfl (take_ofW HT_.out HW_.out (by kernel_rfl)) (fun _ _ _ h => h) (Or.inl ⟨by rfl, ?_⟩) hHeld ?_ ?_
                            rotate_left
                            · rintro w' ⟨s0, s1, s2, s3⟩
                              go_simp
                              with_reducible rfl
                            rotate_left
                            · simp only [Act.put, List.setIfInBounds_toArray, List.set_cons_zero, List.set_cons_succ, i64_w, i32_w]
                              rfl
                            refine pure_ (i := 7) (N := some 57) (v := ?_) (a' := ?_) #[true, true, true, true, true, true, true, true, false, false] rfl rfl (any_of HT_.out (by kernel_rfl)) (fun _ _ _ h => h) (Or.inl ⟨by rfl, ?_⟩) ?_ ?_
                            rotate_left
                            · intro w'
                              go_simp
                              with_reducible rfl
                            rotate_left
                            · simp only [Act.put, List.setIfInBounds_toArray, List.set_cons_zero, List.set_cons_succ, i64_w, i32_w]
                              rfl
                            refine pure_ (i := 8) (N := some 58) (v := ?_) (a' := ?_) #[true, true, true, true, true, true, true, true, true, false] rfl rfl (any_of HT_.out (by kernel_rfl)) (fun _ _ _ h => h) (Or.inl ⟨by rfl, ?_⟩) ?_ ?_
                            rotate_left
                            · intro w'
                              go_simp
                              with_reducible rfl
                            rotate_left
                            · simp only [Act.put, List.setIfInBounds_toArray, List.set_cons_zero, List.set_cons_succ, i64_w, i32_w]
                              rfl
                            refine last_ (i := 9) (N := none) #[true, true, true, true, true, true, true, true, true, true] rfl rfl (one_of HT_.out (by kernel_rfl)) (by decide) (fun K hK => ?_)
                            refine skip_ (w1 := ?_) (by rfl) rfl ?_ ?_
                            rotate_left
                            · go_simp
                              rfl
                            refine hK.out _ _ ?_
                            clear hK K
                            refine done_ (done_of HT_.out (by kernel_rfl)) ?_
                            try go_wp2
                            go_roundg k2
                            case measure => have := HJ4.out; have := HK2.out; omega
                            case rel => exact ⟨(wrap64 (Int.tdiv x1_2 (wrap64 ((wrap64 (((rd_T32 l0_0 x9_2).f2) - ((rd_T32 l0_0 x9_2).f1))) + 1)))), (y225), (wrap64 (x9_2 - 1)), (by first | rfl | (simp; done) | (simp [*]; done)), (by first | rfl | (simp; done) | (simp [*]; done)), H', ⟨by have := HJ4.out; have := HK2.out; omega⟩, ⟨by (with_reducible repeat (first | apply Kd.R_alloc | apply Kd.R_drewN | apply Kd.R_drew)); exact HQ29.out⟩, ⟨by (with_reducible repeat (first | refine blk_drewN ?_ _ | refine blk_drew ?_ | refine blk_alloc ?_ _)); refine blk_far ?_ (by have h_ := Kd.R_ne HO_8.out BK217.out (by decide); intro e_; exact h_ (by rw [e_]; rfl)) _; (with_reducible repeat (first | refine blk_drewN ?_ _ | refine blk_drew ?_ | refine blk_alloc ?_ _)); exact BK217.out⟩, ⟨by repeat (first | (with_reducible first | exact HB.out | apply below_alloc | apply pw_below_drewN | apply below_drew1 | refine below_set ?_ GB22.out | refine below_set ?_ GE217.out | refine below_set ?_ GE224.out) | exact HB.out)⟩⟩
                          · rw [if_neg c21] at H
                            exact absurd H (by simp)
                      · rw [if_neg c19] at H
                        exact absurd H (by simp)
                    · rw [if_neg c18] at H
                      exact absurd H (by simp)
                  · rw [if_neg c17] at H
                    have c17b0 : decide (0 ≤ x9_2) = false := decide_eq_false c17
                    clear c17
                    simp only [Option.some.injEq, Prod.mk.injEq] at H
                    obtain ⟨rfl, rfl⟩ := H
                    go_wp2
                    go_ret2
                    exact ⟨_, by first | rfl | (simp [errW_none, errW_some] <;> rfl) | (simp [*, errW_none, errW_some] <;> rfl), by (with_reducible repeat (first | apply Kd.R_alloc | apply Kd.R_drewN | apply Kd.R_drew)); exact HO_8.out, by repeat (first | (with_reducible first | exact HB.out | apply below_alloc | apply pw_below_drewN | apply below_drew1 | refine below_set ?_ GE217.out) | exact HB.out)⟩
            · rw [if_neg c12] at H
              exact absurd H (by simp)
          · rw [if_neg c11] at H
            exact absurd H (by simp)
  · rw [if_neg c4] at H
    have c4b0 : (t219 == 0) = false := beq_eq_false_iff_ne.mpr c4
    have c4b1 : (t219 != 0) = true := bne_iff_ne.mpr c4
    simp only [Option.some.injEq, Prod.mk.injEq] at H
    obtain ⟨rfl, rfl⟩ := H
    go_enter Tryd.func19, Tryd.ntmps19
    go_wp2_with (first | ((with_reducible refine gate_dst (N := 2) rfl ?_); refine box_event ?hg (N := 2) ?hd (cs := #[.slice A0_0 l0_0.length c0_0, .slice A0_1 l0_1.length c0_1]) (t := 29) ?hr ?_; (case hd => rfl); (case hg => rfl); (case hr => first | (go_simp; done) | (go_simp; rfl)); intro gb217 hg w30 hbox hb; have n0_ := Aside0.mk (below_step (by repeat (first | (with_reducible first | exact HB.out | apply below_alloc | apply pw_below_drewN | apply below_drew1) | exact HB.out)) hb); have n1_ := Aside0.mk (hbox); have n2_ := Aside0.mk ((by rw [hg]; exact (below_size (by repeat (first | (with_reducible first | exact HB.out | apply below_alloc | apply pw_below_drewN | apply below_drew1) | exact HB.out))) : w.heap.size ≤ gb217)); have n3_ := Aside0.mk ((by rw [hg]; exact (below_size (by repeat (first | (with_reducible first | exact HB.out | apply below_alloc | apply pw_below_drewN | apply below_drew1) | exact HB.out))) : w.heap.size ≤ gb217)); clear HB; have HB := n0_; have BK217 := n1_; have GW217 := n2_; have GE217 := n3_; clear n0_ n1_ n2_ n3_; clear hb hbox hg; have hcz31_0 : w30.cell? ⟨gb217, 0, none⟩ = some (.slice A0_0 l0_0.length c0_0) := (blk_cell BK217.out 0).trans rfl; have hcz31_1 : w30.cell? ⟨gb217, 1, none⟩ = some (.slice A0_1 l0_1.length c0_1) := (blk_cell BK217.out 1).trans rfl; have hfz31_0 := blk_frozen BK217.out 0; have hfz31_1 := blk_frozen BK217.out 1) | ((with_reducible refine gate_callee (f := 18) rfl ?_); refine goesL_ (some 14) rfl rfl Tryd.func18 (by kernel_rfl) rfl #[.agg #[.slice A0_0 l0_0.length c0_0, .slice A0_1 l0_1.length c0_1]] rfl (by (try simp only [List.map_toArray, List.map_cons, List.map_nil]); first | done | rfl | (simp only [List.length_drop, List.length_take]; rfl)) ?_; (with_reducible refine (model_Count.calls k _ _ l0_0 _ _ l0_1 t218 t219 _ ?side1 ?side2 ?side3 ?side4 ?side5 A3.out).mono ?_); (case side1 => repeat (first | exact (Kd.C_below HR0_0.out HB.out) | (with_reducible refine Kd.C_alloc ?_ _) | (with_reducible refine Kd.C_drewN ?_ _) | (with_reducible refine Kd.C_drew ?_))); (case side2 => exact HC0_0.out); (case side3 => repeat (first | exact (Kd.C_below HR0_1.out HB.out) | (with_reducible refine Kd.C_alloc ?_ _) | (with_reducible refine Kd.C_drewN ?_ _) | (with_reducible refine Kd.C_drew ?_))); (case side4 => exact HC0_1.out); (case side5 => first | exact hG_ | exact Glob.drewN hG_ _ | exact Glob.below hG_ (by repeat (first | (with_reducible first | exact HB.out | apply below_alloc | apply pw_below_drewN | apply below_drew1 | refine below_set ?_ GE217.out) | exact HB.out))); rintro e w32 ⟨rfl, hb⟩; refine ⟨_, rfl, ?_⟩; have n0_ := Aside0.mk (blk_below (g := gb217) (o := .cells #[.slice A0_0 l0_0.length c0_0, .slice A0_1 l0_1.length c0_1] 29 (0, 0)) (by (with_reducible repeat (first | refine blk_drewN ?_ _ | refine blk_drew ?_ | refine blk_alloc ?_ _)); exact BK217.out) hb); have n1_ := Aside0.mk (below_step (by repeat (first | (with_reducible first | exact HB.out | apply below_alloc | apply pw_below_drewN | apply below_drew1 | refine below_set ?_ GE217.out) | exact HB.out)) hb); clear BK217; clear HB; have BK217 := n0_; have HB := n1_; clear n0_ n1_; (try clear hb); (try clear hb2); (try clear hk); (try clear hi)))
    go_ret2
    exact ⟨_, by first | rfl | (simp [errW_none, errW_some] <;> rfl) | (simp [*, errW_none, errW_some] <;> rfl), by first | exact Kd.R_nil _ _ _ _ _ | exact Kd.N_nil _ _ _ _ _ | exact Kd.V_nil _ _ _ _ _ | exact Kd.Q_nil _ _ _ _ _ | exact Kd.S_nil _ _ _ _ _, by repeat (first | (with_reducible first | exact HB.out | apply below_alloc | apply pw_below_drewN | apply below_drew1 | refine below_set ?_ GE217.out) | exact HB.out)⟩

end Go.Proofs.YteennleoieafiaaDoor.P
end
section
namespace Go.Proofs.YteennleoieafiaaDoor.Q
open Go.RowKit Go.Proofs.YteennleoieafiaaDoorW.PrintWords Go.Proofs.YteennleoieafiaaDoorW.PrintMore Go.Proofs.YteennleoieafiaaDoor.P
set_option linter.unusedVariables false
inductive NumT (vars : Int) : Tm → Prop
  | num (v : Int) (h0 : -4 ≤ v) (h1 : v ≤ 4) : NumT vars (.leaf ⟨1, v⟩)
  | var (v : Int) (h0 : 0 ≤ v) (h1 : v < vars) : NumT vars (.leaf ⟨2, v⟩)
  | bin (o : Int) (a b : Tm) (h0 : 3 ≤ o) (h1 : o ≤ 5) (ha : NumT vars a) (hb : NumT vars b) : NumT vars (.bin ⟨o, 0⟩ a b)
inductive TruthT (vars : Int) : Tm → Prop
  | yes (o : Int) (h : o = 11 ∨ o = 12) : TruthT vars (.leaf ⟨o, 0⟩)
  | cmp (o : Int) (a b : Tm) (h : o = 6 ∨ o = 7) (ha : NumT vars a) (hb : NumT vars b) (hs : a.size ≤ 3 ∧ b.size ≤ 3) : TruthT vars (.bin ⟨o, 0⟩ a b)
  | not (a : Tm) (ha : TruthT vars a) : TruthT vars (.un ⟨10, 0⟩ a)
  | log (o : Int) (a b : Tm) (h : o = 8 ∨ o = 9) (ha : TruthT vars a) (hb : TruthT vars b) : TruthT vars (.bin ⟨o, 0⟩ a b)
theorem NumT.ok {vars : Int} {t : Tm} (h : NumT vars t) : t.ok := by
  induction h with
  | num v => exact ⟨(by decide : (1 : Int) ≤ 1), (by decide : (1 : Int) ≤ 18), (by decide : polish_Parts.tab.getD (1 : Int).toNat 0 = 0)⟩
  | var v => exact ⟨(by decide : (1 : Int) ≤ 2), (by decide : (2 : Int) ≤ 18), (by decide : polish_Parts.tab.getD (2 : Int).toNat 0 = 0)⟩
  | bin o a b h0 h1 _ _ iha ihb =>
    have : o = 3 ∨ o = 4 ∨ o = 5 := by omega
    rcases this with rfl | rfl | rfl <;> exact ⟨by decide, by decide, by decide, iha, ihb⟩
theorem TruthT.ok {vars : Int} {t : Tm} (h : TruthT vars t) : t.ok := by
  induction h with
  | yes o h => rcases h with rfl | rfl <;> exact ⟨by decide, by decide, by decide⟩
  | cmp o a b h ha hb _ => rcases h with rfl | rfl <;> exact ⟨by decide, by decide, by decide, ha.ok, hb.ok⟩
  | not a _ ih => exact ⟨by decide, by decide, by decide, ih⟩
  | log o a b h _ _ iha ihb => rcases h with rfl | rfl <;> exact ⟨by decide, by decide, by decide, iha, ihb⟩
theorem number_gen {raw : List Raw} (hw : rawWf raw) (vars : Int) (hv : vars ≤ 100) : ∀ (d : Nat), d ≤ 3 → ∀ (a tp : Int) (out : List Op), 0 ≤ a → a + (2 ^ (d + 1) : Nat) ≤ 100000 → out.length + 2 ^ (d + 1) ≤ 100000 →
    ∃ t, NumT vars t ∧ t.size + 1 ≤ 2 ^ (d + 1) ∧ (14 ≤ a → t.size = 1) ∧ Ev (fun k => grown_number.f k raw vars ⟨a, tp, out⟩ (d : Int)) ⟨a + t.size, tp, out ++ t.flat⟩ := by
  intro d
  induction d with
  | zero =>
    intro _ a tp out h0 h1 ho
    obtain ⟨r, hr, w0, w1⟩ := take_is hw a tp out h0 (by omega)
    have p5 := picked_is w0 (m := 5) (by decide)
    have p2 := picked_is w0 (m := 2) (by decide)
    have l2 := pk_lo r.f0 (m := 2) (by decide)
    have u2 := pk_hi r.f0 (m := 2) (by decide)
    generalize pk r.f0 2 = op at *
    by_cases c : op = 1 ∧ 0 < vars
    · have pv := picked_is w1 (m := vars) c.2
      have lv := pk_lo r.f1 c.2
      have uv := pk_hi r.f1 c.2
      generalize pk r.f1 vars = v at *
      refine ⟨.leaf ⟨2, v⟩, .var v lv uv, by simp [Tm.size], fun _ => rfl, Ev.step (f := fun _ => some ⟨a + 1, tp, out ++ [⟨2, v⟩]⟩) (fun k => ?_) (Ev.now _)⟩
      simp only [grown_number.f, hr, p5, p2, Option.bind_some]
      rw [if_pos (.inl rfl), Option.bind_some, if_pos c, pv, Option.bind_some, put_ok _ _ _ _ _ (by omega)]
    · have pv := picked_is w1 (m := 9) (by decide)
      have lv := pk_lo r.f1 (m := 9) (by decide)
      have uv := pk_hi r.f1 (m := 9) (by decide)
      generalize pk r.f1 9 = v at *
      refine ⟨.leaf ⟨1, v - 4⟩, .num (v - 4) (by omega) (by omega), by simp [Tm.size], fun _ => rfl, Ev.step (f := fun _ => some ⟨a + 1, tp, out ++ [⟨1, v - 4⟩]⟩) (fun k => ?_) (Ev.now _)⟩
      simp only [grown_number.f, hr, p5, p2, Option.bind_some]
      rw [if_pos (.inl rfl), Option.bind_some, if_neg c, if_pos (by omega), pv, Option.bind_some, w64 (n := v - 4) (by omega) (by omega), put_ok _ _ _ _ _ (by omega)]
  | succ d ih =>
    intro hd a tp out h0 h1 ho
    have hpow : 2 ≤ 2 ^ (d + 1) := by
      have : 2 ^ (d + 1) = 2 ^ d * 2 := Nat.pow_succ 2 d
      have : 0 < 2 ^ d := Nat.pow_pos (by decide)
      omega
    have hpow2 : 2 ^ (d + 1 + 1) = 2 ^ (d + 1) * 2 := Nat.pow_succ 2 (d + 1)
    have hpow3 : 2 ^ (d + 1) ≤ 8 := by
      have : d + 1 ≤ 3 := hd
      exact Nat.pow_le_pow_right (by decide) this
    obtain ⟨r, hr, w0, w1⟩ := take_is hw a tp out h0 (by omega)
    have p5 := picked_is w0 (m := 5) (by decide)
    have p2 := picked_is w0 (m := 2) (by decide)
    have l2 := pk_lo r.f0 (m := 2) (by decide)
    have u2 := pk_hi r.f0 (m := 2) (by decide)
    have l5 := pk_lo r.f0 (m := 5) (by decide)
    have u5 := pk_hi r.f0 (m := 5) (by decide)
    obtain ⟨op, hop, o0, o1, o2⟩ : ∃ op : Int, (if ((d + 1 : Nat) : Int) = 0 ∨ 14 < a + 1 then foretellkeep_picked.f r.f0 2 else some (pk r.f0 5)) = some op ∧ 0 ≤ op ∧ op < 5 ∧ (14 ≤ a → op < 2) := by
      by_cases c : ((d + 1 : Nat) : Int) = 0 ∨ 14 < a + 1
      · rw [if_pos c, p2]
        exact ⟨_, rfl, l2, by omega, fun _ => u2⟩
      · rw [if_neg c]
        exact ⟨_, rfl, l5, u5, by omega⟩
    by_cases c : op = 1 ∧ 0 < vars
    · have pv := picked_is w1 (m := vars) c.2
      have lv := pk_lo r.f1 c.2
      have uv := pk_hi r.f1 c.2
      generalize pk r.f1 vars = v at *
      refine ⟨.leaf ⟨2, v⟩, .var v lv uv, by simp [Tm.size]; omega, fun _ => rfl, Ev.step (f := fun _ => some ⟨a + 1, tp, out ++ [⟨2, v⟩]⟩) (fun k => ?_) (Ev.now _)⟩
      simp only [grown_number.f, hr, p5, Option.bind_some]
      rw [hop, Option.bind_some, if_pos c, pv, Option.bind_some, put_ok _ _ _ _ _ (by omega)]
    · by_cases c2 : op < 2
      · have pv := picked_is w1 (m := 9) (by decide)
        have lv := pk_lo r.f1 (m := 9) (by decide)
        have uv := pk_hi r.f1 (m := 9) (by decide)
        generalize pk r.f1 9 = v at *
        refine ⟨.leaf ⟨1, v - 4⟩, .num (v - 4) (by omega) (by omega), by simp [Tm.size]; omega, fun _ => rfl, Ev.step (f := fun _ => some ⟨a + 1, tp, out ++ [⟨1, v - 4⟩]⟩) (fun k => ?_) (Ev.now _)⟩
        simp only [grown_number.f, hr, p5, Option.bind_some]
        rw [hop, Option.bind_some, if_neg c, if_pos c2, pv, Option.bind_some, w64 (n := v - 4) (by omega) (by omega), put_ok _ _ _ _ _ (by omega)]
      · obtain ⟨t1, n1, s1, _, e1⟩ := ih (by omega) (a + 1) tp (out ++ [⟨1 + op, 0⟩]) (by omega) (by omega) (by rw [List.length_append, List.length_singleton]; omega)
        obtain ⟨t2, n2, s2, _, e2⟩ := ih (by omega) (a + 1 + t1.size) tp (out ++ [⟨1 + op, 0⟩] ++ t1.flat) (by omega) (by omega) (by rw [List.length_append, List.length_append, List.length_singleton, Tm.flat_len]; omega)
        refine ⟨.bin ⟨1 + op, 0⟩ t1 t2, .bin _ _ _ (by omega) (by omega) n1 n2, by simp only [Tm.size]; omega, fun h => by have := o2 h; omega, ?_⟩
        refine Ev.step (f := fun k => (grown_number.f k raw vars ⟨a + 1, tp, out ++ [⟨1 + op, 0⟩]⟩ (d : Int)).bind fun s2 => grown_number.f k raw vars s2 (d : Int)) (fun k => ?_) (Ev.bind e1 ?_)
        · simp only [grown_number.f, hr, p5, Option.bind_some]
          rw [hop, Option.bind_some, if_neg c, if_neg c2, w64 (n := 3 + op) (by omega) (by omega), w64 (n := 3 + op - 2) (by omega) (by omega), put_ok _ _ _ _ _ (by omega), Option.bind_some, w64 (n := ((d + 1 : Nat) : Int) - 1) (by omega) (by omega), show ((d + 1 : Nat) : Int) - 1 = (d : Int) by omega, show 3 + op - 2 = 1 + op by omega]
        · have e : (⟨a + (Tm.bin ⟨1 + op, 0⟩ t1 t2).size, tp, out ++ (Tm.bin ⟨1 + op, 0⟩ t1 t2).flat⟩ : GrSt) = ⟨a + 1 + t1.size + t2.size, tp, out ++ [⟨1 + op, 0⟩] ++ t1.flat ++ t2.flat⟩ := by
            simp [Tm.size, Tm.flat]
            omega
          rw [e]
          exact e2
theorem truth_gen {raw : List Raw} (hw : rawWf raw) (vars : Int) (hv : vars ≤ 100) : ∀ (d : Nat) (a tp : Int) (out : List Op), d ≤ 10 → 0 ≤ a → a + 1000 * d ≤ 40000 → out.length + 1000 * d ≤ 40000 →
    ∃ t, TruthT vars t ∧ ((a ≤ 9 → a + t.size ≤ 16 + 3 * d) ∧ (10 ≤ a → t.size ≤ 6) ∧ (13 ≤ a → t.size ≤ 3)) ∧ Ev (fun k => grown_truth.f k raw vars ⟨a, tp, out⟩ (d : Int)) ⟨a + t.size, tp, out ++ t.flat⟩ := by
  have hcmp : ∀ (o : Int), (o = 6 ∨ o = 7) → ∀ (a tp : Int) (out : List Op), 0 ≤ a → a ≤ 50000 → out.length ≤ 50000 →
      ∃ t, TruthT vars t ∧ (t.size ≤ 7 ∧ (10 ≤ a → t.size ≤ 6) ∧ (13 ≤ a → t.size ≤ 3)) ∧ Ev (fun k => (grown_number.f k raw vars ⟨a + 1, tp, out ++ [⟨o, 0⟩]⟩ 1).bind fun s2 => grown_number.f k raw vars s2 1) ⟨a + t.size, tp, out ++ t.flat⟩ := by
    intro o ho a tp out h0 h1 hl
    obtain ⟨t1, n1, s1, z1, e1⟩ := number_gen hw vars hv 1 (by decide) (a + 1) tp (out ++ [⟨o, 0⟩]) (by omega) (by omega) (by rw [List.length_append, List.length_singleton]; omega)
    obtain ⟨t2, n2, s2, z2, e2⟩ := number_gen hw vars hv 1 (by decide) (a + 1 + t1.size) tp (out ++ [⟨o, 0⟩] ++ t1.flat) (by omega) (by omega) (by rw [List.length_append, List.length_append, List.length_singleton, Tm.flat_len]; omega)
    have q1 := t1.size_pos
    have q2 := t2.size_pos
    refine ⟨.bin ⟨o, 0⟩ t1 t2, .cmp _ _ _ ho n1 n2 ⟨by omega, by omega⟩, by simp only [Tm.size]; refine ⟨?_, ?_, ?_⟩ <;> omega, Ev.bind e1 ?_⟩
    have e : (⟨a + (Tm.bin ⟨o, 0⟩ t1 t2).size, tp, out ++ (Tm.bin ⟨o, 0⟩ t1 t2).flat⟩ : GrSt) = ⟨a + 1 + t1.size + t2.size, tp, out ++ [⟨o, 0⟩] ++ t1.flat ++ t2.flat⟩ := by
      simp [Tm.size, Tm.flat]
      omega
    rw [e]
    exact e2
  intro d
  induction d with
  | zero =>
    intro a tp out hd h0 h1 ho
    obtain ⟨r, hr, w0, w1⟩ := take_is hw a tp out h0 (by omega)
    have p9 := picked_is w0 (m := 9) (by decide)
    have p3 := picked_is w0 (m := 3) (by decide)
    have l3 := pk_lo r.f0 (m := 3) (by decide)
    have u3 := pk_hi r.f0 (m := 3) (by decide)
    generalize pk r.f0 3 = op at *
    have hop : op = 0 ∨ op = 1 ∨ op = 2 := by omega
    rcases hop with rfl | rfl | rfl
    · have pv := picked_is w1 (m := 2) (by decide)
      have lv := pk_lo r.f1 (m := 2) (by decide)
      have uv := pk_hi r.f1 (m := 2) (by decide)
      generalize pk r.f1 2 = v at *
      refine ⟨.leaf ⟨11 + v, 0⟩, .yes _ (by omega), by simp only [Tm.size]; refine ⟨?_, ?_, ?_⟩ <;> omega, Ev.step (f := fun _ => some ⟨a + 1, tp, out ++ [⟨11 + v, 0⟩]⟩) (fun k => ?_) (Ev.now _)⟩
      simp only [grown_truth.f, hr, p9, p3, Option.bind_some]
      rw [if_pos (.inl rfl), Option.bind_some, if_pos rfl, pv, Option.bind_some, w64 (n := 11 + v) (by omega) (by omega), put_ok _ _ _ _ _ (by omega)]
    · obtain ⟨t, ht, hs, he⟩ := hcmp 7 (.inr rfl) a tp out h0 (by omega) (by omega)
      refine ⟨t, ht, by omega, Ev.step (fun k => ?_) he⟩
      simp only [grown_truth.f, hr, p9, p3, Option.bind_some]
      rw [if_pos (.inl rfl), Option.bind_some, if_neg (by decide), if_pos (.inl rfl), put_ok _ _ _ _ _ (by omega), Option.bind_some]
    · obtain ⟨t, ht, hs, he⟩ := hcmp 6 (.inl rfl) a tp out h0 (by omega) (by omega)
      refine ⟨t, ht, by omega, Ev.step (fun k => ?_) he⟩
      simp only [grown_truth.f, hr, p9, p3, Option.bind_some]
      rw [if_pos (.inl rfl), Option.bind_some, if_neg (by decide), if_neg (by decide), if_pos (.inl rfl), put_ok _ _ _ _ _ (by omega), Option.bind_some]
  | succ d ih =>
    intro a tp out hd h0 h1 ho
    obtain ⟨r, hr, w0, w1⟩ := take_is hw a tp out h0 (by omega)
    have p9 := picked_is w0 (m := 9) (by decide)
    have p3 := picked_is w0 (m := 3) (by decide)
    have l3 := pk_lo r.f0 (m := 3) (by decide)
    have u3 := pk_hi r.f0 (m := 3) (by decide)
    have l9 := pk_lo r.f0 (m := 9) (by decide)
    have u9 := pk_hi r.f0 (m := 9) (by decide)
    obtain ⟨op, hop, o0, o1, o2⟩ : ∃ op : Int, (if ((d + 1 : Nat) : Int) = 0 ∨ 10 < a + 1 then foretellkeep_picked.f r.f0 3 else some (pk r.f0 9)) = some op ∧ 0 ≤ op ∧ op < 9 ∧ (10 ≤ a → op < 3) := by
      by_cases c : ((d + 1 : Nat) : Int) = 0 ∨ 10 < a + 1
      · rw [if_pos c, p3]
        exact ⟨_, rfl, l3, by omega, fun _ => u3⟩
      · rw [if_neg c]
        exact ⟨_, rfl, l9, u9, by omega⟩
    by_cases c0 : op = 0
    · have pv := picked_is w1 (m := 2) (by decide)
      have lv := pk_lo r.f1 (m := 2) (by decide)
      have uv := pk_hi r.f1 (m := 2) (by decide)
      generalize pk r.f1 2 = v at *
      refine ⟨.leaf ⟨11 + v, 0⟩, .yes _ (by omega), by simp only [Tm.size]; refine ⟨?_, ?_, ?_⟩ <;> omega, Ev.step (f := fun _ => some ⟨a + 1, tp, out ++ [⟨11 + v, 0⟩]⟩) (fun k => ?_) (Ev.now _)⟩
      simp only [grown_truth.f, hr, p9, Option.bind_some]
      rw [hop, Option.bind_some, if_pos c0, pv, Option.bind_some, w64 (n := 11 + v) (by omega) (by omega), put_ok _ _ _ _ _ (by omega)]
    by_cases c1 : op = 1 ∨ op = 3
    · obtain ⟨t, ht, hs, he⟩ := hcmp 7 (.inr rfl) a tp out h0 (by omega) (by omega)
      refine ⟨t, ht, by omega, Ev.step (fun k => ?_) he⟩
      simp only [grown_truth.f, hr, p9, Option.bind_some]
      rw [hop, Option.bind_some, if_neg c0, if_pos c1, put_ok _ _ _ _ _ (by omega), Option.bind_some]
    by_cases c2 : op = 2 ∨ op = 4
    · obtain ⟨t, ht, hs, he⟩ := hcmp 6 (.inl rfl) a tp out h0 (by omega) (by omega)
      refine ⟨t, ht, by omega, Ev.step (fun k => ?_) he⟩
      simp only [grown_truth.f, hr, p9, Option.bind_some]
      rw [hop, Option.bind_some, if_neg c0, if_neg c1, if_pos c2, put_ok _ _ _ _ _ (by omega), Option.bind_some]
    by_cases c3 : op = 5
    · obtain ⟨t1, n1, s1, e1⟩ := ih (a + 1) tp (out ++ [⟨10, 0⟩]) (by omega) (by omega) (by omega) (by rw [List.length_append, List.length_singleton]; omega)
      refine ⟨.un ⟨10, 0⟩ t1, .not _ n1, by simp only [Tm.size]; refine ⟨?_, ?_, ?_⟩ <;> omega, ?_⟩
      refine Ev.step (f := fun k => grown_truth.f k raw vars ⟨a + 1, tp, out ++ [⟨10, 0⟩]⟩ (d : Int)) (fun k => ?_) ?_
      · simp only [grown_truth.f, hr, p9, Option.bind_some]
        rw [hop, Option.bind_some, if_neg c0, if_neg c1, if_neg c2, if_pos c3, put_ok _ _ _ _ _ (by omega), Option.bind_some, w64 (n := ((d + 1 : Nat) : Int) - 1) (by omega) (by omega), show ((d + 1 : Nat) : Int) - 1 = (d : Int) by omega]
      · have e : (⟨a + (Tm.un ⟨10, 0⟩ t1).size, tp, out ++ (Tm.un ⟨10, 0⟩ t1).flat⟩ : GrSt) = ⟨a + 1 + t1.size, tp, out ++ [⟨10, 0⟩] ++ t1.flat⟩ := by
          simp [Tm.size, Tm.flat]
          omega
        rw [e]
        exact e1
    · have hm := Int.tmod_eq_emod_of_nonneg (a := op) (b := 2) o0
      have hkind : ∃ o : Int, (o = 8 ∨ o = 9) ∧ 8 + Int.tmod op 2 = o := ⟨_, by omega, rfl⟩
      obtain ⟨o, ho89, hko⟩ := hkind
      obtain ⟨t1, n1, s1, e1⟩ := ih (a + 1) tp (out ++ [⟨o, 0⟩]) (by omega) (by omega) (by omega) (by rw [List.length_append, List.length_singleton]; omega)
      obtain ⟨t2, n2, s2, e2⟩ := ih (a + 1 + t1.size) tp (out ++ [⟨o, 0⟩] ++ t1.flat) (by omega) (by omega) (by omega) (by rw [List.length_append, List.length_append, List.length_singleton, Tm.flat_len]; omega)
      refine ⟨.bin ⟨o, 0⟩ t1 t2, .log _ _ _ ho89 n1 n2, by simp only [Tm.size]; refine ⟨?_, ?_, ?_⟩ <;> omega, ?_⟩
      refine Ev.step (f := fun k => (grown_truth.f k raw vars ⟨a + 1, tp, out ++ [⟨o, 0⟩]⟩ (d : Int)).bind fun s2 => grown_truth.f k raw vars s2 (d : Int)) (fun k => ?_) (Ev.bind e1 ?_)
      · simp only [grown_truth.f, hr, p9, Option.bind_some]
        rw [hop, Option.bind_some, if_neg c0, if_neg c1, if_neg c2, if_neg c3, hko, w64 (n := o) (by omega) (by omega), put_ok _ _ _ _ _ (by omega), Option.bind_some, w64 (n := ((d + 1 : Nat) : Int) - 1) (by omega) (by omega), show ((d + 1 : Nat) : Int) - 1 = (d : Int) by omega]
      · have e : (⟨a + (Tm.bin ⟨o, 0⟩ t1 t2).size, tp, out ++ (Tm.bin ⟨o, 0⟩ t1 t2).flat⟩ : GrSt) = ⟨a + 1 + t1.size + t2.size, tp, out ++ [⟨o, 0⟩] ++ t1.flat ++ t2.flat⟩ := by
          simp [Tm.size, Tm.flat]
          omega
        rw [e]
        exact e2
theorem truth_is {raw : List Raw} (hw : rawWf raw) (vars : Int) (hv : vars ≤ 100) : ∃ t, TruthT vars t ∧ t.size ≤ 25 ∧ Ev (fun k => foretellkeep_Truth.f k raw vars) t.flat := by
  obtain ⟨t, ht, hs, he⟩ := truth_gen hw vars hv 3 0 0 [] (by decide) (by decide) (by decide) (by decide)
  refine ⟨t, ht, by omega, ?_⟩
  unfold foretellkeep_Truth.f
  exact Ev.bind he (Ev.now _)
theorem number_is {raw : List Raw} (hw : rawWf raw) (vars : Int) (hv : vars ≤ 100) : ∃ t, NumT vars t ∧ t.size ≤ 7 ∧ Ev (fun k => foretellkeep_Number.f k raw vars) t.flat := by
  obtain ⟨t, ht, hs, _, he⟩ := number_gen hw vars hv 2 (by decide) 0 0 [] (by decide) (by decide) (by decide)
  refine ⟨t, ht, by omega, ?_⟩
  unfold foretellkeep_Number.f
  exact Ev.bind he (Ev.now _)
end Go.Proofs.YteennleoieafiaaDoor.Q
end
section
namespace Go.Proofs.YteennleoieafiaaDoor.P
open Go.RowKit Go.Proofs.YteennleoieafiaaDoorW.PrintWords Go.Proofs.YteennleoieafiaaDoorW.PrintLast Go.Proofs.YteennleoieafiaaDoorW.PrintMore Go.Proofs.YteennleoieafiaaDoor.G
attribute [local go_sem] max2_int min2_int max_two min_two max_three min_three max_four min_four   -- for this text's walks alone
set_option linter.unusedVariables false
set_option linter.unusedSimpArgs false

/-! ### foretellkeep_joined: function 34 -/
def foretellkeep_joined.l0 : Nat → List (List (S35)) → List (S35) → Int → Option ((List (S35)))
  | 0, _, _, _ => none
  | k + 1, x1, x5, x6 => if x6 < (x1.length : Int) then (if 0 ≤ x6 then (if x5.length + (rd_L4 x1 x6).length < 8796093022208 then (foretellkeep_joined.l0 k x1 (x5 ++ (rd_L4 x1 x6)) (wrap64 (x6 + 1))) else (none)) else (none)) else (some x5)
def foretellkeep_joined.f (k : Nat) (a0 : Int) (l1 : List (List (S35))) : Option ((List (S35))) := foretellkeep_joined.l0 k l1 (([(⟨a0, 0⟩ : S35)] : List (S35))) 0
theorem foretellkeep_joined.mono_l : ∀ k, (∀ y0 y1 y2, LeO (foretellkeep_joined.l0 k y0 y1 y2) (foretellkeep_joined.l0 (k + 1) y0 y1 y2))
  | 0 => fun _ _ _ r h => by simp [foretellkeep_joined.l0] at h
  | k + 1 => by
    have ih0 := foretellkeep_joined.mono_l k
    · intro y0 y1 y2
      unfold foretellkeep_joined.l0
      repeat' first
      | (with_reducible exact ih0 _ _ _)
      | (with_reducible exact LeO.refl _)
      | (with_reducible exact LeO.none _)
      | (with_reducible refine LeO.ite ?_ ?_)
      | (with_reducible refine LeO.bind ?_ (fun _ => ?_))
      | exact ih0 _ _ _
      | exact LeO.none _
      | refine LeO.ite ?_ ?_
      | refine LeO.bind ?_ (fun _ => ?_)
theorem foretellkeep_joined.mono : ∀ a0 a1 k, LeO (foretellkeep_joined.f k a0 a1) (foretellkeep_joined.f (k + 1) a0 a1) := by
  intro a0 a1 k
  have ih0 := foretellkeep_joined.mono_l k
  unfold foretellkeep_joined.f
  repeat' first
      | (with_reducible exact ih0 _ _ _)
      | (with_reducible exact LeO.refl _)
      | (with_reducible exact LeO.none _)
      | (with_reducible refine LeO.ite ?_ ?_)
      | (with_reducible refine LeO.bind ?_ (fun _ => ?_))
      | exact ih0 _ _ _
      | exact LeO.none _
      | refine LeO.ite ?_ ?_
      | refine LeO.bind ?_ (fun _ => ?_)
set_option maxHeartbeats 8000000 in
set_option maxRecDepth 100000 in
theorem foretellkeep_joined.calls (k : Nat) (a0 : Int) (A1 : Option Addr) (c1 : Nat) (l1 : List (List (S35))) (r : List (S35)) (w : World) (hr1 : Kd.C (Kd.slice 35 k35) w A1 l1.length l1) (hc1 : l1.length ≤ c1) (h : foretellkeep_joined.f k a0 l1 = some r) :
    Calls Tryd.prog 34 #[.int .i64 a0, .slice A1 l1.length c1] w fun e w' => ∃ v0_ : Value, e = .returned (v0_) ∧ Kd.R k35 35 w' w.heap.size (fun _ => True) v0_ r ∧ Below w.heap.size w w' := by
  have hu35 := Tryd.underlying35
  have HR1 := Aside0.mk hr1
  have HC1 := Aside0.mk hc1
  clear hr1 hc1
  have HB := Aside0.mk (Below.refl w.heap.size w)
  have H : (foretellkeep_joined.l0 k l1 (([(⟨a0, 0⟩ : S35)] : List (S35))) 0) = some r := h
  clear h
  obtain ⟨y344, hy344⟩ : ∃ y_ : List (S35), y_ = (([(⟨a0, 0⟩ : S35)] : List (S35))) := ⟨_, rfl⟩
  replace H : (foretellkeep_joined.l0 k l1 y344 0) = some r := by first | (rw [hy344]; with_reducible exact H) | (have H2_ := (Option.bind_some _ _).symm.trans H; rw [hy344]; with_reducible exact H2_) | (have H2_ := (Option.bind_some _ _).symm.trans H; with_reducible exact H2_) | with_reducible exact H | (rw [hy344]; exact H) | exact H
  have Ny344 := Aside0.mk hy344
  clear hy344
  have H' := Aside0.mk H
  clear H
  go_enter Tryd.func34, Tryd.ntmps34
  go_wp2_with (first | ((with_reducible refine gate_dst (N := 9) rfl ?_); refine Kd.R_lit k35 _ 35 ?hg (N := 9) ?hd (xs := ([(⟨a0, 0⟩ : S35)] : List (S35))) (inner := [.int .i64 a0, .int .i64 0]) (ok := fun _ => True) (okp := fun _ => True) ?hr ?hp (fun _ hk => hk) trivial (Below.refl _ _) (Nat.le_refl _) (by simp) ?_; (case hd => rfl); (case hg => rfl); (case hr => first | (go_simp; done) | (go_simp; rfl)); (case hp => exact (Reps.c2 (show Kd.M k35 _ _ _ (⟨a0, 0⟩ : S35) [.int .i64 a0, .int .i64 0] from (k35_mkM _ _ _ (⟨a0, 0⟩ : S35) )) (Reps.none _ _))); intro v345 w3 ho4 hb hg_ hnew_; clear hg_ hnew_; (first | rw [← Ny344.out] at ho4 | (simp only [Int.reduceToNat] at ho4; rw [← Ny344.out] at ho4)); have n0_ := Aside0.mk (Kd.R_lower ho4 (below_size (by repeat (first | (with_reducible first | exact HB.out | apply below_alloc | apply pw_below_drewN | apply below_drew1) | exact HB.out)))); have n1_ := Aside0.mk (below_step (by repeat (first | (with_reducible first | exact HB.out | apply below_alloc | apply pw_below_drewN | apply below_drew1) | exact HB.out)) hb); clear HB; have HO346 := n0_; have HB := n1_; clear n0_ n1_; clear hb ho4))
  go_loopg [5, 6] k (fun kq v5 v6 w' => ∃ (x5_1 : List (S35)) (x6_1 : Int), v6 = .int .i64 x6_1 ∧ Aside0 (foretellkeep_joined.l0 kq l1 x5_1 x6_1 = some r) ∧ Aside0 (kq ≤ k) ∧ Aside0 (Kd.R k35 35 w' w.heap.size (fun _ => True) v5 x5_1) ∧ Aside0 (Below w.heap.size w w'))
  case atStart => exact ⟨(y344), (0), (by first | rfl | (simp; done) | (simp [*]; done)), H', ⟨Nat.le_refl _⟩, ⟨by (with_reducible repeat (first | apply Kd.R_alloc | apply Kd.R_drewN | apply Kd.R_drew)); exact HO346.out⟩, ⟨by repeat (first | (with_reducible first | exact HB.out | apply below_alloc | apply pw_below_drewN | apply below_drew1) | exact HB.out)⟩⟩
  case round =>
    clear H'
    try clear c1
    try clear c2
    try clear p2
    try clear c3
    obtain ⟨x5_1, x6_1, rfl, HA, HK1, HO_5, HB⟩ := hrel
    cases gk with
    | zero => exact absurd HA.out (by simp [foretellkeep_joined.l0])
    | succ k1 =>
      have H := HA.out
      clear HA
      simp only [foretellkeep_joined.l0] at H
      by_cases c5 : x6_1 < (l1.length : Int)
      · rw [if_pos c5] at H
        have c5b0 : decide (x6_1 < (l1.length : Int)) = true := decide_eq_true c5
        clear c5
        by_cases c6 : 0 ≤ x6_1
        · rw [if_pos c6] at H
          have c6b0 : decide (0 ≤ x6_1) = true := decide_eq_true c6
          clear c6
          by_cases c7 : x5_1.length + (rd_L4 l1 x6_1).length < 8796093022208
          · rw [if_pos c7] at H
            have LMc7 := Aside0.mk c7
            clear c7
            obtain ⟨y348, hy348⟩ : ∃ y_ : List (S35), y_ = (x5_1 ++ (rd_L4 l1 x6_1)) := ⟨_, rfl⟩
            replace H : (foretellkeep_joined.l0 k1 l1 y348 (wrap64 (x6_1 + 1))) = some r := by first | (rw [hy348]; with_reducible exact H) | (have H2_ := (Option.bind_some _ _).symm.trans H; rw [hy348]; with_reducible exact H2_) | (have H2_ := (Option.bind_some _ _).symm.trans H; with_reducible exact H2_) | with_reducible exact H | (rw [hy348]; exact H) | exact H
            have Ny348 := Aside0.mk hy348
            clear hy348
            have H' := Aside0.mk H
            clear H
            have p347 : 0 ≤ (x6_1 : Int) := of_decide_eq_true (by first | (with_reducible assumption) | assumption)
            have q347 : x6_1 < (l1.length : Int) := of_decide_eq_true (by first | (with_reducible assumption) | assumption)
            obtain ⟨ad347, A347_0, c347_0, e347, hx347_0, hl347_0, hi347_0⟩ := at_L4 HR1.out x6_1 p347 q347
            cases e347
            replace hx347_0 := (HB.out.cell (World.block_lt_of_cell? w _ hx347_0)).trans hx347_0
            have HR347_0 := Aside0.mk hi347_0
            have HC347_0 := Aside0.mk hl347_0
            clear hi347_0 hl347_0
            replace p347 := eq_true p347
            replace q347 := eq_true q347
            go_wp2_with (first | ((with_reducible refine gate_builtin (b := .append) (xs := #[.tmp 16, .tmp 20]) rfl ?_); at_builtin; refine Kd.R_append_rows k35 (w0 := w) w.heap.size rfl (.tmp 16) (.tmp 20) 36 35 (.agg #[(.int .i64 0), (.int .i64 0)]) 16 rfl Tryd.underlying36 info35 rfl (by decide) (by omega) u5 x5_1 (rd_L4 l1 x6_1) _ _ _ (fun _ => True) (fun _ => False) rfl rfl ?aO ?aR (fun _ _ h => h) (fun _ h => h.elim) ?aF ?aB ?aS ?aL ?_; (case aR => repeat (first | exact (Kd.C_below HR347_0.out HB.out) | (with_reducible refine Kd.C_alloc ?_ _) | (with_reducible refine Kd.C_drewN ?_ _) | (with_reducible refine Kd.C_drew ?_))); (case aB => exact (by repeat (first | (with_reducible first | exact HB.out | apply below_alloc | apply pw_below_drewN | apply below_drew1) | exact HB.out))); (case aF => exact (fun _ _ => trivial)); (case aO => exact (by (with_reducible repeat (first | apply Kd.R_alloc | apply Kd.R_drewN | apply Kd.R_drew)); exact HO_5.out)); (case aS => exact (below_size (by repeat (first | (with_reducible first | exact HB.out | apply below_alloc | apply pw_below_drewN | apply below_drew1) | exact HB.out)))); (case aL => have := LMc7.out; omega); intro v349 w8 ho hb hg hat; rw [← Ny348.out] at ho; have n0_ := Aside0.mk (hb); have n1_ := Aside0.mk (ho); clear HB; clear HO_5; have HB := n0_; have HO350 := n1_; clear n0_ n1_; clear ho hb hg hat))
            go_roundg k1
            case measure => have := HK1.out; omega
            case rel => exact ⟨(y348), (wrap64 (x6_1 + 1)), (by first | rfl | (simp; done) | (simp [*]; done)), H', ⟨by have := HK1.out; omega⟩, ⟨by (with_reducible repeat (first | apply Kd.R_alloc | apply Kd.R_drewN | apply Kd.R_drew)); exact HO350.out⟩, ⟨by repeat (first | (with_reducible first | exact HB.out | apply below_alloc | apply pw_below_drewN | apply below_drew1) | exact HB.out)⟩⟩
          · rw [if_neg c7] at H
            exact absurd H (by simp)
        · rw [if_neg c6] at H
          exact absurd H (by simp)
      · rw [if_neg c5] at H
        have c5b0 : decide (x6_1 < (l1.length : Int)) = false := decide_eq_false c5
        clear c5
        obtain rfl := Option.some.inj H
        go_wp2
        go_ret
        exact ⟨_, by first | rfl | (simp [errW_none, errW_some] <;> rfl) | (simp [*, errW_none, errW_some] <;> rfl), by (with_reducible repeat (first | apply Kd.R_alloc | apply Kd.R_drewN | apply Kd.R_drew)); exact HO_5.out, by repeat (first | (with_reducible first | exact HB.out | apply below_alloc | apply pw_below_drewN | apply below_drew1) | exact HB.out)⟩

end Go.Proofs.YteennleoieafiaaDoor.P
end
section
namespace Go.Proofs.YteennleoieafiaaDoor.Q
open Go.RowKit Go.Proofs.YteennleoieafiaaDoorW.PrintWords Go.Proofs.YteennleoieafiaaDoorW.PrintMore Go.Proofs.YteennleoieafiaaDoor.P
set_option linter.unusedVariables false
end Go.Proofs.YteennleoieafiaaDoor.Q
end
section
namespace Go.Proofs.YteennleoieafiaaDoor.Q
open Go.RowKit Go.Proofs.YteennleoieafiaaDoorW.PrintWords Go.Proofs.YteennleoieafiaaDoorW.PrintMore Go.Proofs.YteennleoieafiaaDoor.P
set_option linter.unusedVariables false
inductive Ty (vars : Int) : Bool → Tm → Prop
  | num (v : Int) (h0 : -1000 ≤ v) (h1 : v ≤ 1000) : Ty vars false (.leaf ⟨1, v⟩)
  | var (v : Int) (h0 : 0 ≤ v) (h1 : v < vars) : Ty vars false (.leaf ⟨2, v⟩)
  | yes (o : Int) (h : o = 11 ∨ o = 12) : Ty vars true (.leaf ⟨o, 0⟩)
  | arith (o : Int) (a b : Tm) (h : o = 3 ∨ o = 4 ∨ o = 5) (ha : Ty vars false a) (hb : Ty vars false b) : Ty vars false (.bin ⟨o, 0⟩ a b)
  | cmp (o : Int) (a b : Tm) (h : o = 6 ∨ o = 7) (ha : Ty vars false a) (hb : Ty vars false b) : Ty vars true (.bin ⟨o, 0⟩ a b)
  | not (a : Tm) (ha : Ty vars true a) : Ty vars true (.un ⟨10, 0⟩ a)
  | log (o : Int) (a b : Tm) (h : o = 8 ∨ o = 9) (ha : Ty vars true a) (hb : Ty vars true b) : Ty vars true (.bin ⟨o, 0⟩ a b)
theorem NumT.ty {vars : Int} {t : Tm} (h : NumT vars t) : Ty vars false t := by
  induction h with
  | num v h0 h1 => exact .num v (by omega) (by omega)
  | var v h0 h1 => exact .var v h0 h1
  | bin o a b h0 h1 _ _ iha ihb => exact .arith o a b (by omega) iha ihb
theorem TruthT.ty {vars : Int} {t : Tm} (h : TruthT vars t) : Ty vars true t := by
  induction h with
  | yes o h => exact .yes o h
  | cmp o a b h ha hb _ => exact .cmp o a b h ha.ty hb.ty
  | not a _ ih => exact .not a ih
  | log o a b h _ _ iha ihb => exact .log o a b h iha ihb
theorem Ty.ok {vars : Int} {b : Bool} {t : Tm} (h : Ty vars b t) : t.ok := by
  induction h with
  | num v => exact ⟨(by decide : (1 : Int) ≤ 1), (by decide : (1 : Int) ≤ 18), (by decide : polish_Parts.tab.getD (1 : Int).toNat 0 = 0)⟩
  | var v => exact ⟨(by decide : (1 : Int) ≤ 2), (by decide : (2 : Int) ≤ 18), (by decide : polish_Parts.tab.getD (2 : Int).toNat 0 = 0)⟩
  | yes o h => rcases h with rfl | rfl <;> exact ⟨by decide, by decide, by decide⟩
  | arith o a b h _ _ iha ihb => rcases h with rfl | rfl | rfl <;> exact ⟨by decide, by decide, by decide, iha, ihb⟩
  | cmp o a b h _ _ iha ihb => rcases h with rfl | rfl <;> exact ⟨by decide, by decide, by decide, iha, ihb⟩
  | not a _ ih => exact ⟨by decide, by decide, by decide, ih⟩
  | log o a b h _ _ iha ihb => rcases h with rfl | rfl <;> exact ⟨by decide, by decide, by decide, iha, ihb⟩
def opok (vars : Int) (o : Op) : Prop := 1 ≤ o.f0 ∧ o.f0 ≤ 12 ∧ (o.f0 = 1 → -1000 ≤ o.f1 ∧ o.f1 ≤ 1000) ∧ (o.f0 = 2 → 0 ≤ o.f1 ∧ o.f1 < vars) ∧ (o.f0 ≠ 1 → o.f0 ≠ 2 → o.f1 = 0)
theorem opok_of (vars o : Int) (h0 : 3 ≤ o) (h1 : o ≤ 12) : opok vars ⟨o, 0⟩ :=
  ⟨show 1 ≤ o by omega, h1, fun h => absurd (show o = 1 from h) (by omega), fun h => absurd (show o = 2 from h) (by omega), fun _ _ => rfl⟩
theorem Ty.ops {vars : Int} {b : Bool} {t : Tm} (h : Ty vars b t) : ∀ o ∈ t.flat, opok vars o := by
  induction h with
  | num v h0 h1 =>
    intro o ho
    obtain rfl := List.mem_singleton.mp ho
    exact ⟨show (1 : Int) ≤ 1 by decide, show (1 : Int) ≤ 12 by decide, fun _ => ⟨h0, h1⟩, fun h => absurd (show (1 : Int) = 2 from h) (by decide), fun h => absurd rfl h⟩
  | var v h0 h1 =>
    intro o ho
    obtain rfl := List.mem_singleton.mp ho
    exact ⟨show (1 : Int) ≤ 2 by decide, show (2 : Int) ≤ 12 by decide, fun h => absurd (show (2 : Int) = 1 from h) (by decide), fun _ => ⟨h0, h1⟩, fun _ h => absurd rfl h⟩
  | yes o h =>
    intro x hx
    obtain rfl := List.mem_singleton.mp hx
    exact opok_of vars o (by omega) (by omega)
  | arith o a b h _ _ iha ihb =>
    intro x hx
    simp only [Tm.flat, List.mem_cons, List.mem_append] at hx
    rcases hx with rfl | hx | hx
    · exact opok_of vars o (by omega) (by omega)
    · exact iha x hx
    · exact ihb x hx
  | cmp o a b h _ _ iha ihb =>
    intro x hx
    simp only [Tm.flat, List.mem_cons, List.mem_append] at hx
    rcases hx with rfl | hx | hx
    · exact opok_of vars o (by omega) (by omega)
    · exact iha x hx
    · exact ihb x hx
  | not a _ ih =>
    intro x hx
    simp only [Tm.flat, List.mem_cons] at hx
    rcases hx with rfl | hx
    · exact opok_of vars 10 (by decide) (by decide)
    · exact ih x hx
  | log o a b h _ _ iha ihb =>
    intro x hx
    simp only [Tm.flat, List.mem_cons, List.mem_append] at hx
    rcases hx with rfl | hx | hx
    · exact opok_of vars o (by omega) (by omega)
    · exact iha x hx
    · exact ihb x hx
def mk (o : Int) : Bool := decide (6 ≤ o)
def tk (o : Int) : Bool := decide (8 ≤ o)
theorem truth_f (o : Int) (h0 : 1 ≤ o) (h1 : o ≤ 12) : Ev (fun k => expr_truth.f k o) (mk o, tk o, true) := by
  have : o = 1 ∨ o = 2 ∨ o = 3 ∨ o = 4 ∨ o = 5 ∨ o = 6 ∨ o = 7 ∨ o = 8 ∨ o = 9 ∨ o = 10 ∨ o = 11 ∨ o = 12 := by omega
  refine ev_le 2 (fun k hk => ?_) (Ev.now _)
  obtain ⟨m, rfl⟩ : ∃ m, k = m + 2 := ⟨k - 2, by omega⟩
  rcases this with rfl | rfl | rfl | rfl | rfl | rfl | rfl | rfl | rfl | rfl | rfl | rfl <;> rfl
theorem op_f (vars : Int) (hv0 : 0 ≤ vars) (hv1 : vars ≤ 6) (o : Op) (h : opok vars o) : Ev (fun k => expr_op.f k o.f0 o.f1 vars) 0 := by
  obtain ⟨h0, h1, h2, h3, h4⟩ := h
  refine Ev.bind (truth_f o.f0 h0 h1) ?_
  simp only [if_true]
  by_cases c1 : o.f0 = 1
  · rw [if_pos c1]
    have := h2 c1
    rw [if_neg (by omega), if_neg (by omega)]
    exact Ev.now _
  · rw [if_neg c1]
    by_cases c2 : o.f0 = 2
    · rw [if_pos c2]
      have := h3 c2
      rw [if_neg (by omega), w64 (n := vars - 1) (by omega) (by omega), if_neg (by omega)]
      exact Ev.now _
    · rw [if_neg c2]
      have := h4 c1 c2
      rw [if_neg (by omega), if_neg (by omega)]
      exact Ev.now _
theorem check_ops (vars : Int) (hv0 : 0 ≤ vars) (hv1 : vars ≤ 6) (l : List Op) (es : List Int) (hl : l.length ≤ 1000) (h : ∀ o ∈ l, opok vars o) (r : Bool × Int) (hr : Ev (fun k => expr_Check.l1 k l es l (l.length : Int) 0) r) :
    Ev (fun k => expr_Check.l0 k l vars es l (l.length : Int) 0) r := by
  have hgo : ∀ (d i : Nat), i + d = l.length → Ev (fun k => expr_Check.l0 k l vars es l (l.length : Int) (i : Int)) r := by
    intro d
    induction d with
    | zero =>
      intro i hi
      refine Ev.step (f := fun k => expr_Check.l1 k l es l (l.length : Int) 0) (fun k => ?_) hr
      simp only [expr_Check.l0]
      rw [if_neg (by omega)]
    | succ d ih =>
      intro i hi
      have hil : i < l.length := by omega
      have hrd : rd_T35 l (i : Int) = l[i] := by simp [rd_T35, hil]
      refine Ev.step (f := fun k => (expr_op.f k l[i].f0 l[i].f1 vars).bind fun t => if t = 0 then expr_Check.l0 k l vars es l (l.length : Int) ((i + 1 : Nat) : Int) else some (false, t)) (fun k => ?_) ?_
      · simp only [expr_Check.l0, hrd]
        rw [if_pos (by omega), if_pos (by omega), if_pos (by omega), w64 (n := (i : Int) + 1) (by omega) (by omega)]
        rfl
      · refine Ev.bind (op_f vars hv0 hv1 _ (h _ (List.getElem_mem hil))) ?_
        simp only [if_true]
        exact ih (i + 1) (by omega)
  exact hgo l.length 0 (Nat.zero_add _)
theorem rt_of (o : Int) (h0 : 1 ≤ o) (h1 : o ≤ 12) (b : Bool) (hb : mk o = b) {t : Tm} (ht : t.rt.f0 = o) : 1 ≤ t.rt.f0 ∧ t.rt.f0 ≤ 12 ∧ mk t.rt.f0 = b := by
  rw [ht]; exact ⟨h0, h1, hb⟩
theorem Ty.rt {vars : Int} {b : Bool} {t : Tm} (h : Ty vars b t) : 1 ≤ t.rt.f0 ∧ t.rt.f0 ≤ 12 ∧ mk t.rt.f0 = b := by
  cases h with
  | num v => exact rt_of 1 (by decide) (by decide) _ rfl rfl
  | var v => exact rt_of 2 (by decide) (by decide) _ rfl rfl
  | yes o h => exact rt_of o (by omega) (by omega) _ (by rcases h with rfl | rfl <;> rfl) rfl
  | arith o a b h => exact rt_of o (by omega) (by omega) _ (by rcases h with rfl | rfl | rfl <;> rfl) rfl
  | cmp o a b h => exact rt_of o (by omega) (by omega) _ (by rcases h with rfl | rfl <;> rfl) rfl
  | not a => exact rt_of 10 (by decide) (by decide) _ rfl rfl
  | log o a b h => exact rt_of o (by omega) (by omega) _ (by rcases h with rfl | rfl <;> rfl) rfl
section
variable {vars : Int} {l : List Op} {es : List Int} {r : Bool × Int}
theorem l1_at {t : Tm} {p : Int} (h : Lies t p l es) (hl : l.length ≤ 1000) (h0 : 1 ≤ t.rt.f0) (h1 : t.rt.f0 ≤ 12) (hr : Ev (fun k => expr_Check.l2 k l es p (tk t.rt.f0) (p + 1) l (l.length : Int) p) r) :
    Ev (fun k => expr_Check.l1 k l es l (l.length : Int) p) r := by
  obtain ⟨q0, q1, q2⟩ := h.p0
  obtain ⟨e1, e2⟩ := h.rt
  have hs := t.size_pos
  refine Ev.step (f := fun k => (expr_truth.f k t.rt.f0).bind fun bt => expr_Check.l2 k l es p bt.2.1 (p + 1) l (l.length : Int) p) (fun k => ?_) (Ev.bind (truth_f _ h0 h1) hr)
  simp only [expr_Check.l1, e1]
  rw [if_pos (by omega), if_pos (by omega), if_pos (by omega), w64 (n := p + 1) (by omega) (by omega)]
theorem l2_end {p x : Int} {b : Bool} (h0 : 0 ≤ p) (h1 : p < es.length) (h2 : p ≤ 100000) (hx : ¬ x < rd es p) (hr : Ev (fun k => expr_Check.l1 k l es l (l.length : Int) (p + 1)) r) :
    Ev (fun k => expr_Check.l2 k l es p b x l (l.length : Int) p) r := by
  refine Ev.step (f := fun k => expr_Check.l1 k l es l (l.length : Int) (p + 1)) (fun k => ?_) hr
  simp only [expr_Check.l2]
  rw [if_pos (by omega), if_pos (by omega), if_neg hx, w64 (n := p + 1) (by omega) (by omega)]
theorem l2_part {p x : Int} {b : Bool} {a : Tm} (h : Lies a x l es) (h0 : 0 ≤ p) (h1 : p < es.length) (hx : x < rd es p) (ha0 : 1 ≤ a.rt.f0) (ha1 : a.rt.f0 ≤ 12) (hb : mk a.rt.f0 = b)
    (hr : Ev (fun k => expr_Check.l2 k l es p b (x + a.size) l (l.length : Int) p) r) : Ev (fun k => expr_Check.l2 k l es p b x l (l.length : Int) p) r := by
  obtain ⟨q0, q1, q2⟩ := h.p0
  obtain ⟨e1, e2⟩ := h.rt
  have hs := a.size_pos
  refine Ev.step (f := fun k => (expr_truth.f k a.rt.f0).bind fun bt => if (bt.1 != b) = true then some (false, 5) else expr_Check.l2 k l es p b (x + a.size) l (l.length : Int) p) (fun k => ?_) (Ev.bind (truth_f _ ha0 ha1) ?_)
  · simp only [expr_Check.l2, e1, e2]
    rw [if_pos (by omega), if_pos (by omega), if_pos hx, if_pos (by omega), if_pos (by omega)]
    congr 1
    funext bt
    rw [if_pos (show x < (es.length : Int) by omega)]
  · simp only [hb, bne_self_eq_false, Bool.false_eq_true, if_false]
    exact hr
theorem bin_parts {o : Op} {a b : Tm} {p : Int} {ba bb : Bool} (h : Lies (.bin o a b) p l es) (hl : l.length ≤ 1000) (h0 : 1 ≤ o.f0) (h1 : o.f0 ≤ 12) (ha : Ty vars ba a) (hb : Ty vars bb b) (h3 : ba = tk o.f0) (h4 : bb = tk o.f0)
    (hr : Ev (fun k => expr_Check.l1 k l es l (l.length : Int) (p + 1)) r) : Ev (fun k => expr_Check.l1 k l es l (l.length : Int) p) r := by
  obtain ⟨q0, q1, q2⟩ := h.p0
  obtain ⟨e1, e2⟩ := h.rt
  obtain ⟨a0, a1, a2⟩ := ha.rt
  obtain ⟨b0, b1, b2⟩ := hb.rt
  have sa := a.size_pos
  have sb := b.size_pos
  simp only [Tm.size] at q1 q2 e2
  refine l1_at h hl h0 h1 ?_
  refine l2_part h.left q0 (by omega) (by rw [e2]; omega) a0 a1 (a2.trans h3) ?_
  refine l2_part h.right q0 (by omega) (by rw [e2]; omega) b0 b1 (b2.trans h4) ?_
  exact l2_end q0 (by omega) (by omega) (by rw [e2]; omega) hr
theorem check_tm {b : Bool} {t : Tm} (h : Ty vars b t) : ∀ (p : Int), Lies t p l es → l.length ≤ 1000 → Ev (fun k => expr_Check.l1 k l es l (l.length : Int) (p + t.size)) r → Ev (fun k => expr_Check.l1 k l es l (l.length : Int) p) r := by
  have hleaf : ∀ (o : Op) (p : Int), 1 ≤ o.f0 → o.f0 ≤ 12 → Lies (.leaf o) p l es → l.length ≤ 1000 → Ev (fun k => expr_Check.l1 k l es l (l.length : Int) (p + (Tm.leaf o).size)) r → Ev (fun k => expr_Check.l1 k l es l (l.length : Int) p) r := by
    intro o p h0 h1 hp hl hr
    obtain ⟨q0, q1, q2⟩ := hp.p0
    obtain ⟨e1, e2⟩ := hp.rt
    simp only [Tm.size] at q1 q2 e2 hr
    exact l1_at hp hl h0 h1 (l2_end q0 (by omega) (by omega) (by rw [e2]; omega) hr)
  have hbin : ∀ (o : Op) (a b : Tm) (ba : Bool) (p : Int), 1 ≤ o.f0 → o.f0 ≤ 12 → ba = tk o.f0 → Ty vars ba a → Ty vars ba b → (∀ (p : Int), Lies a p l es → l.length ≤ 1000 → Ev (fun k => expr_Check.l1 k l es l (l.length : Int) (p + a.size)) r → Ev (fun k => expr_Check.l1 k l es l (l.length : Int) p) r) →
      (∀ (p : Int), Lies b p l es → l.length ≤ 1000 → Ev (fun k => expr_Check.l1 k l es l (l.length : Int) (p + b.size)) r → Ev (fun k => expr_Check.l1 k l es l (l.length : Int) p) r) → Lies (.bin o a b) p l es → l.length ≤ 1000 → Ev (fun k => expr_Check.l1 k l es l (l.length : Int) (p + (Tm.bin o a b).size)) r → Ev (fun k => expr_Check.l1 k l es l (l.length : Int) p) r := by
    intro o a b ba p h0 h1 h2 ha hb iha ihb hp hl hr
    refine bin_parts hp hl h0 h1 ha hb h2 h2 ?_
    refine iha (p + 1) hp.left hl ?_
    refine ihb (p + 1 + a.size) hp.right hl ?_
    have e : p + 1 + (a.size : Int) + (b.size : Int) = p + ((Tm.bin o a b).size : Int) := by simp only [Tm.size]; omega
    rw [e]
    exact hr
  induction h with
  | num v => exact fun p => hleaf _ p (show (1 : Int) ≤ 1 by decide) (show (1 : Int) ≤ 12 by decide)
  | var v => exact fun p => hleaf _ p (show (1 : Int) ≤ 2 by decide) (show (2 : Int) ≤ 12 by decide)
  | yes o h => exact fun p => hleaf _ p (show 1 ≤ o by omega) (show o ≤ 12 by omega)
  | arith o a b h ha hb iha ihb => exact fun p => hbin _ a b false p (show 1 ≤ o by omega) (show o ≤ 12 by omega) (by rcases h with rfl | rfl | rfl <;> rfl) ha hb iha ihb
  | cmp o a b h ha hb iha ihb => exact fun p => hbin _ a b false p (show 1 ≤ o by omega) (show o ≤ 12 by omega) (by rcases h with rfl | rfl <;> rfl) ha hb iha ihb
  | log o a b h ha hb iha ihb => exact fun p => hbin _ a b true p (show 1 ≤ o by omega) (show o ≤ 12 by omega) (by rcases h with rfl | rfl <;> rfl) ha hb iha ihb
  | not a ha ih =>
    intro p hp hl hr
    obtain ⟨q0, q1, q2⟩ := hp.p0
    obtain ⟨e1, e2⟩ := hp.rt
    obtain ⟨a0, a1, a2⟩ := ha.rt
    have sa := a.size_pos
    simp only [Tm.size] at q1 q2 e2
    refine l1_at hp hl (show (1 : Int) ≤ 10 by decide) (show (10 : Int) ≤ 12 by decide) ?_
    refine l2_part hp.un q0 (by omega) (by rw [e2]; omega) a0 a1 a2 ?_
    refine l2_end q0 (by omega) (by omega) (by rw [e2]; omega) ?_
    refine ih (p + 1) hp.un hl ?_
    have e : p + 1 + (a.size : Int) = p + ((Tm.un ⟨10, 0⟩ a).size : Int) := by simp only [Tm.size]; omega
    rw [e]
    exact hr
end
theorem check_from {vars : Int} (hv0 : 0 ≤ vars) (hv1 : vars ≤ 6) {t : Tm} (hk : t.ok) (ho : ∀ o ∈ t.flat, opok vars o) (hs : t.size ≤ 60) {r : Bool × Int} (hr : Ev (fun k => expr_Check.l1 k t.flat (t.ends 0) t.flat (t.flat.length : Int) 0) r) :
    Ev (fun k => expr_Check.f k t.flat vars) r := by
  unfold expr_Check.f
  simp only [if_neg (show ¬ vars < 0 by omega), decide_eq_false (show ¬ vars > 6 by omega)]
  refine Ev.step (f := fun k => (polish_Ends.f k t.flat).bind fun bt => if bt.2 = 0 then expr_Check.l0 k t.flat vars bt.1 t.flat (t.flat.length : Int) 0 else some (false, bt.2)) (fun k => ?_) (Ev.bind (ends_ok t hk hs) ?_)
  · simp only [expr_Check.j0, Bool.false_eq_true, if_false]
  · simp only [if_true]
    exact check_ops vars hv0 hv1 t.flat _ (by rw [t.flat_len]; omega) ho r hr
theorem check_good {vars : Int} (hv0 : 0 ≤ vars) (hv1 : vars ≤ 6) {b : Bool} {t : Tm} (h : Ty vars b t) (hs : t.size ≤ 60) : Ev (fun k => expr_Check.f k t.flat vars) (b, 0) := by
  have hl := t.flat_len
  have hp := t.size_pos
  obtain ⟨a0, a1, a2⟩ := h.rt
  refine check_from hv0 hv1 h.ok h.ops hs ?_
  refine check_tm h 0 (lies_whole t) (by omega) ?_
  refine Ev.step (f := fun k => (expr_truth.f k t.rt.f0).bind fun bt => some (bt.1, 0)) (fun k => ?_) (Ev.bind (truth_f _ a0 a1) ?_)
  · simp only [expr_Check.l1, (lies_whole t).rt.1]
    rw [if_neg (by omega), if_pos (by omega)]
  · simp only [a2]
    exact Ev.now _
end Go.Proofs.YteennleoieafiaaDoor.Q
end
section
/- How a law's arguments, whatever their type is made of (numbers, truths, texts, slices, structs, short arrays), read as the printed kinds. Nothing of the program stands here. -/
namespace Go.Proofs.YteennleoieafiaaDoor.O
open Go.RowKit Go.Deep Go.Proofs.YteennleoieafiaaDoorW.PrintWords Go.Proofs.YteennleoieafiaaDoorW.PrintLast Go.Proofs.YteennleoieafiaaDoorW.PrintMore
set_option linter.unusedVariables false
variable {P : Program}

/-- What reads as data of type t reads as kind d, and is well formed. -/
def Opens (P : Program) (t : TypeId) {α : Type} (d : Kd α) (wf : α → Prop) : Prop :=
  ∀ {H : Type} {enc : TypeId × Value → H} {w : World} {base : Nat} {spare : Nat → Bool} {held : Bool} {fuel : Nat} {cs : List Value} {x : DataW H × List MemPlace},
    DataW.trod enc P w base spare held fuel t cs = some x → ∃ a, d.K w a cs ∧ wf a

theorem opens_int {t : TypeId} {k : IntKind} (ht : P.underlying t = some (.int k)) : Opens P t (Kd.int k) (fun n => (Lit.int k n).wf = true) := by
  intro H enc w base spare held fuel cs x h
  obtain ⟨n, rfl, _, hw⟩ := DataW.trod_int ht h
  exact ⟨n, rfl, hw⟩
theorem opens_bool {t : TypeId} (ht : P.underlying t = some .bool) : Opens P t Kd.bool (fun _ => True) := by
  intro H enc w base spare held fuel cs x h
  obtain ⟨n, rfl, _⟩ := DataW.trod_bool ht h
  exact ⟨n, rfl, trivial⟩
theorem opens_string {t : TypeId} (ht : P.underlying t = some .string) : Opens P t Kd.string (fun s => s.size ≤ maxLen) := by
  intro H enc w base spare held fuel cs x h
  obtain ⟨n, rfl, _, hw⟩ := DataW.trod_string ht h
  exact ⟨n, rfl, hw⟩
theorem opens_iso {t : TypeId} {α β : Type} {d : Kd α} {wf : α → Prop} (h : Opens P t d wf) (f : β → α) (g : α → β) (hg : ∀ a, f (g a) = a) : Opens P t (Kd.iso d f) (fun b => wf (f b)) := by
  intro H enc w base spare held fuel cs x hx
  obtain ⟨a, ha, hw⟩ := h hx
  exact ⟨g a, by show d.K w (f (g a)) cs; rw [hg]; exact ha, by show wf (f (g a)); rw [hg]; exact hw⟩
theorem opens_slice {t e : TypeId} {α : Type} {d : Kd α} {wf : α → Prop} (ht : P.underlying t = some (.slice e)) (hc : P.cellsOf e = d.sz) (h : Opens P e d wf) :
    Opens P t (Kd.slice e d) (fun l => l.length ≤ maxLen ∧ ∀ a ∈ l, wf a) := by
  intro H enc w base spare held fuel cs x hx
  rcases open_slice ht hx with ⟨rfl, _⟩ | ⟨ad, len, cap, m, n, D, Pl, rfl, hb, hl, hm, hmm, _, hel⟩
  · exact ⟨[], ⟨none, 0, rfl, Nat.le_refl _, rfl, by simp, fun hh => absurd hh (Nat.lt_irrefl 0)⟩, by simp, fun a ha => by simp at ha⟩
  · have hlm : len ≤ m := by rw [hmm]; split <;> omega
    have hex : ∀ i, i < len → ∃ a, (∃ cs', w.cells? base (ad.add (i * P.cellsOf e)) (P.cellsOf e) = some cs' ∧ d.K w a cs') ∧ wf a := by
      intro i hi
      obtain ⟨cs', h1, h2⟩ := hel i (by omega)
      obtain ⟨a, ha, hw⟩ := h h2
      exact ⟨a, ⟨cs', h1, ha⟩, hw⟩
    have hlist : ∀ k, k ≤ len → ∃ l : List α, l.length = k ∧ ∀ (i : Nat) (p : α), l[i]? = some p → (∃ cs', w.cells? base (ad.add (i * P.cellsOf e)) (P.cellsOf e) = some cs' ∧ d.K w p cs') ∧ wf p := by
      intro k
      induction k with
      | zero => intro _; exact ⟨[], rfl, fun i p hp => by simp at hp⟩
      | succ k ih =>
        intro hk
        obtain ⟨l, hll, hl2⟩ := ih (by omega)
        obtain ⟨a, ha⟩ := hex k (by omega)
        refine ⟨l ++ [a], by simp [hll], fun i p hp => ?_⟩
        by_cases hi : i < l.length
        · rw [List.getElem?_append_left hi] at hp; exact hl2 i p hp
        · rw [List.getElem?_append_right (by omega)] at hp
          have hik : i - l.length = 0 := by
            rcases Nat.eq_zero_or_pos (i - l.length) with h0 | h0
            · exact h0
            · obtain ⟨q, hq⟩ : ∃ q, i - l.length = q + 1 := ⟨i - l.length - 1, by omega⟩
              rw [hq] at hp; simp at hp
          rw [hik] at hp
          have : i = k := by omega
          subst this
          obtain rfl : a = p := by simpa using hp
          exact ha
    obtain ⟨l, hll, hl2⟩ := hlist len (Nat.le_refl _)
    refine ⟨l, ⟨some ad, cap, by rw [hll], by omega, rfl, by rw [hll]; have : maxLen = 9223372036854775807 := rfl; omega, fun _ => ⟨ad, rfl, fun j p hj => ?_⟩⟩, by omega, fun a ha => ?_⟩
    · obtain ⟨⟨cs', h1, h2⟩, _⟩ := hl2 j p hj
      obtain ⟨_, hlen, hcell⟩ := World.cells?_some h1
      refine ⟨cs', by rw [hlen, hc], h2, fun i u hu => ?_⟩
      have hi : i < cs'.length := (List.getElem?_eq_some_iff.1 hu).1
      have h3 := hcell i (by omega)
      rw [hu] at h3
      rw [← hc, ← Addr.add_add]
      exact h3
    · obtain ⟨i, hi, rfl⟩ := List.getElem_of_mem ha
      exact (hl2 i _ (List.getElem?_eq_getElem hi)).2

/-- Fields in line from a cell on. -/
def OpensF (P : Program) (off : Nat) (fs : List (TypeId × Nat)) {α : Type} (d : Kd α) (wf : α → Prop) : Prop :=
  ∀ {H : Type} {enc : TypeId × Value → H} {w : World} {base : Nat} {spare : Nat → Bool} {held : Bool} {cs : List Value},
    cs.length = off + d.sz → (∀ (i : Nat) f, fs[i]? = some f → ∃ fuel x, DataW.trod enc P w base spare held fuel f.1 ((cs.drop f.2).take (P.cellsOf f.1)) = some x) → ∃ a, d.K w a (cs.drop off) ∧ wf a
theorem opensF_one {off : Nat} {t : TypeId} {α : Type} {d : Kd α} {wf : α → Prop} (hc : P.cellsOf t = d.sz) (h : Opens P t d wf) : OpensF P off [(t, off)] d wf := by
  intro H enc w base spare held cs hl hf
  obtain ⟨fuel, x, hx⟩ := hf 0 _ rfl
  obtain ⟨a, ha, hw⟩ := h hx
  refine ⟨a, ?_, hw⟩
  rw [List.take_of_length_le (by simp [hl, hc])] at ha
  exact ha
theorem opensF_cons {off off' : Nat} {t : TypeId} {fs : List (TypeId × Nat)} {α β : Type} {d : Kd α} {d' : Kd β} {wf : α → Prop} {wf' : β → Prop} (hc : P.cellsOf t = d.sz) (ho : off' = off + d.sz) (h : Opens P t d wf) (h' : OpensF P off' fs d' wf') :
    OpensF P off ((t, off) :: fs) (Kd.pair d d') (fun x => wf x.1 ∧ wf' x.2) := by
  intro H enc w base spare held cs hl hf
  obtain ⟨fuel, x, hx⟩ := hf 0 _ rfl
  obtain ⟨a, ha, hw⟩ := h hx
  have hl' : cs.length = off + (d.sz + d'.sz) := hl
  obtain ⟨b, hb, hw'⟩ := h' (enc := enc) (w := w) (base := base) (spare := spare) (held := held) (cs := cs) (by omega) (fun i f hi => hf (i + 1) f (by simpa using hi))
  refine ⟨(a, b), ⟨(cs.drop off).take (P.cellsOf t), cs.drop off', ?_, ha, hb⟩, hw, hw'⟩
  rw [hc, ho, ← List.drop_drop, List.take_append_drop]
theorem opens_struct {t : TypeId} {fs : Array Field} {l : List (TypeId × Nat)} {α : Type} {d : Kd α} {wf : α → Prop} (ht : P.underlying t = some (.struct fs)) (hl : fs.toList.map (fun f => (f.type, f.offset)) = l) (hc : P.cellsOf t = d.sz) (h : OpensF P 0 l d wf) : Opens P t d wf := by
  intro H enc w base spare held fuel cs x hx
  obtain ⟨xs, n, _, _, hlen, hxs, hf⟩ := DataW.trod_struct ht hx
  have := h (enc := enc) (w := w) (base := base) (spare := spare) (held := held) (cs := cs) (by omega) (fun i f hi => by
    rw [← hl, List.getElem?_map] at hi
    obtain ⟨f', hf', rfl⟩ := Option.map_eq_some_iff.1 hi
    have hi2 : fs[i]? = some f' := by simpa using hf'
    have hil : i < fs.size := (Array.getElem?_eq_some_iff.1 hi2).1
    exact ⟨n, xs[i]'(by omega), by rw [hf i f' hi2]; exact List.getElem?_eq_getElem _⟩)
  simpa using this
theorem opens_array {t e : TypeId} {n : Nat} {l : List (TypeId × Nat)} {α : Type} {d : Kd α} {wf : α → Prop} (ht : P.underlying t = some (.array n e)) (hl : (List.range n).map (fun i => (e, i * P.cellsOf e)) = l) (hc : P.cellsOf t = d.sz) (h : OpensF P 0 l d wf) : Opens P t d wf := by
  intro H enc w base spare held fuel cs x hx
  cases fuel with
  | zero => simp [DataW.trod] at hx
  | succ m =>
    unfold DataW.trod at hx
    rw [ht] at hx
    split at hx <;> simp_all
    obtain ⟨hlen, xs, hp, _⟩ := hx
    have := h (enc := enc) (w := w) (base := base) (spare := spare) (held := held) (cs := _) (by rw [hlen]; omega) (fun i f hi => by
      rw [← hl, List.getElem?_map] at hi
      obtain ⟨i', hi', rfl⟩ := Option.map_eq_some_iff.1 hi
      obtain ⟨h1, h2⟩ := List.getElem?_eq_some_iff.1 hi'
      have hxl := mapM_some_length hp
      have h3 : i = i' := by simpa using h2
      subst h3
      have hg := mapM_some_get hp i i hi'
      exact ⟨m, xs[i]'(by rw [hxl]; exact h1), by rw [hg]; exact List.getElem?_eq_getElem _⟩)
    simpa using this

theorem okWide_struct {t : TypeId} {fs : Array Field} {W : World} {r : Reach} {b0 : Nat} {v : Value} (ht : P.underlying t = some (.struct fs)) (h : Value.okWide P W r b0 t v) : ∃ xs : Array Value, v = .agg xs := by
  simp only [Value.okWide, ht] at h
  obtain ⟨cs, h1, _⟩ := h
  exact ⟨cs, h1⟩
theorem okWide_array {t e : TypeId} {n : Nat} {W : World} {r : Reach} {b0 : Nat} {v : Value} (ht : P.underlying t = some (.array n e)) (h : Value.okWide P W r b0 t v) : ∃ xs : Array Value, v = .agg xs := by
  simp only [Value.okWide, ht] at h
  obtain ⟨cs, h1, _⟩ := h
  exact ⟨cs, h1⟩
theorem slice_inj {a A : Option Addr} {n c m d : Nat} (h : (Value.slice a n c).cells.toList = [.slice A m d]) : a = A ∧ n = m ∧ c = d := by
  simpa [Value.cells] using h
theorem agg_inj {xs : Array Value} {l : List Value} (h : (Value.agg xs).cells.toList = l) : xs = l.toArray := by
  have h2 : xs.toList = l := h
  rw [← h2]
theorem agg_of {xs : Array Value} {l : List Value} (h : (Value.agg xs).cells.toList = l) : (Value.agg xs) = .agg l.toArray := by
  have h2 : xs.toList = l := h
  rw [← h2]
theorem slice_of {a : Option Addr} {n c : Nat} {v : Value} (h : (Value.slice a n c).cells.toList = [v]) : (Value.slice a n c) = v := by
  simpa [Value.cells] using h
theorem one_of {v u : Value} (h : v.cells.toList = [u]) (hv : v.cells.toList = [v]) : v = u := by
  rw [hv] at h
  simpa using h
end Go.Proofs.YteennleoieafiaaDoor.O
end
