-- PACKED by pack.py of this repo: FExprEval QVal
import Derived.WalkSpells
import Derived.WalkLawsBesides
import Derived.Recover
import Derived.Test.YteennleoieafiaaDoorK2
import Derived.Test.YteennleoieafiaaDoorK8
import Derived.Test.YteennleoieafiaaDoorK3
import Derived.Test.YteennleoieafiaaDoorK14
import Derived.Test.YteennleoieafiaaDoorK9
section
namespace Go.Proofs.YteennleoieafiaaDoor.P
open Go.RowKit Go.Proofs.YteennleoieafiaaDoorW.PrintWords Go.Proofs.YteennleoieafiaaDoorW.PrintLast Go.Proofs.YteennleoieafiaaDoorW.PrintMore Go.Proofs.YteennleoieafiaaDoor.G
attribute [local go_sem] max2_int min2_int max_two min_two max_three min_three max_four min_four   -- for this text's walks alone
set_option linter.unusedVariables false
set_option linter.unusedSimpArgs false

/-! ### expr_Eval: function 33 -/
--IMPORT Derived.WalkSpells
--IMPORT Derived.WalkLawsBesides
--IMPORT Derived.Recover
instance mach_over.dec (n : Int) : Decidable (mach_over n) := by unfold mach_over; infer_instance
theorem Eval_w64 (n : Int) (h0 : -9223372036854775808 ≤ n) (h1 : n ≤ 9223372036854775807) : wrap64 n = n := by unfold wrap64; omega
theorem Eval_snoc (l : List S35) (j : Nat) (h : j < l.length) : (l.take (j + 1)).reverse = rd_T35 l (j : Int) :: (l.take j).reverse := by
  have : rd_T35 l (j : Int) = l[j] := by simp [rd_T35, rdOf, h]
  rw [List.take_add_one, this, List.getElem?_eq_getElem h]
  simp
theorem Eval_rd_mem (l : List Int) (j : Nat) (h : j < l.length) : rd l (j : Int) ∈ l := by
  have : rd l (j : Int) = l[j] := by simp [rd, rdOf, h]
  rw [this]
  exact List.getElem_mem h
/-- The ops, the last one first, over a stack. -/
def expr_Eval.run (env : List Int) : List S35 → List Int → Option (Int × Int)
  | [], st => match st with | y :: _ => some (y, 0) | [] => none
  | o :: os, st => (mach_val env o st).bind fun r => if r.2.length < 8796093022208 then (if mach_over r.1 then some (0, 8) else expr_Eval.run env os (r.1 :: r.2)) else none
def expr_Eval.f (k : Nat) (l0 : List (S35)) (l1 : List Int) : Option (Int × Int) := (expr_Check.f k l0 (l1.length : Int)).bind fun r => if r.2 = 0 then (if ∀ v ∈ l1, -1000000 ≤ v ∧ v ≤ 1000000 then expr_Eval.run l1 l0.reverse [] else none) else some (0, r.2)
theorem expr_Eval.mono : ∀ a0 a1 k, LeO (expr_Eval.f k a0 a1) (expr_Eval.f (k + 1) a0 a1) := by
  intro a0 a1 k
  unfold expr_Eval.f
  exact LeO.bind (expr_Check.mono _ _ _) (fun _ => LeO.refl _)
set_option maxHeartbeats 8000000 in
set_option maxRecDepth 100000 in
theorem expr_Eval.calls (k : Nat) (A0 : Option Addr) (c0 : Nat) (l0 : List (S35)) (A1 : Option Addr) (c1 : Nat) (l1 : List Int) (r1 : Int) (r2 : Int) (w : World) (hr0 : Kd.C k35 w A0 l0.length l0) (hc0 : l0.length ≤ c0) (hr1 : Kd.C (Kd.int .i64) w A1 l1.length l1) (hc1 : l1.length ≤ c1) (hG_ : Glob w) (h : expr_Eval.f k l0 l1 = some (r1, r2)) :
    Calls Tryd.prog 33 #[.slice A0 l0.length c0, .slice A1 l1.length c1] w fun e w' => e = .returned (.tuple #[.int .i64 r1, .int .i64 r2]) ∧ Below w.heap.size w w' := by
  have hmf : ∀ (fn : Fn) (first cap : Array Value) (w : World), (Instr.makeFunc fn first cap).run Tryd.prog w = .ok (.func fn first cap) w := fun _ _ _ _ => rfl
  have R0 := Aside0.mk hr0
  have L0 := Aside0.mk hc0
  have R1 := Aside0.mk hr1
  have L1 := Aside0.mk hc1
  have GL := Aside0.mk hG_
  clear hr0 hc0 hr1 hc1 hG_
  unfold expr_Eval.f at h
  obtain ⟨⟨rb, re⟩, hA, h⟩ := Option.bind_eq_some_iff.mp h
  replace h : (if re = 0 then (if ∀ v ∈ l1, -1000000 ≤ v ∧ v ≤ 1000000 then expr_Eval.run l1 l0.reverse [] else none) else some (0, re)) = some (r1, r2) := h
  have HA := Aside0.mk hA
  clear hA
  by_cases c1 : re = 0
  · rw [if_pos c1] at h
    subst c1
    by_cases c2 : ∀ v ∈ l1, -1000000 ≤ v ∧ v ≤ 1000000
    · rw [if_pos c2] at h
      have CR := Aside0.mk c2
      have H1 := Aside0.mk h
      have M0 := Aside0.mk (Kd.C_max R0.out)
      have M1 := Aside0.mk (Kd.C_max R1.out)
      clear c2 h
      go_enter_defers Tryd.func33, Tryd.ntmps33
      go_wp2_with (first | ((with_reducible refine gate_dst (N := 4) rfl ?_); go_must (refine box_event ?hg (N := 4) ?hd (cs := #[.int .i64 0]) (t := 3) ?hr ?_; (case hd => rfl); (case hg => rfl); (case hr => first | (go_simp; done) | (go_simp; rfl)); intro g4 hg w1 hbox hb; have K41 := Aside0.mk hbox; have HB1 := Aside0.mk hb; have B4 := Aside0.mk (show w.heap.size ≤ g4 by rw [hg]; exact Nat.le_refl _); clear hb hbox hg)) | ((with_reducible refine gate_dst (N := 5) rfl ?_); go_must (refine box_event ?hg (N := 5) ?hd (cs := #[.int .i64 0]) (t := 43) ?hr ?_; (case hd => rfl); (case hg => rfl); (case hr => first | (go_simp; done) | (go_simp; rfl)); intro g5 hg w2 hbox hb; have K52 := Aside0.mk hbox; have K42 := Aside0.mk (blk_below K41.out hb); have HB2 := Aside0.mk (below_step HB1.out hb); have N45 : g4 ≠ g5 := (by rw [hg]; exact Nat.ne_of_lt (blk_lt K41.out)); have B5 := Aside0.mk (show w.heap.size ≤ g5 by rw [hg]; exact below_size HB1.out); clear hb hbox hg K41 HB1)) | (go_at_call 42; go_must (refine (expr_Check.calls k A0 c0 l0 (l1.length : Int) _ _ w2 (Kd.C_below R0.out HB2.out) L0.out (Glob.below GL.out HB2.out) HA.out).mono ?_; rintro e w3 ⟨rfl, hb⟩; have K4 := Aside0.mk (blk_below K42.out hb); have K5 := Aside0.mk (blk_below K52.out hb); have HB3 := Aside0.mk (below_step HB2.out hb); clear hb K42 K52 HB2; have h43 : w3.cell? ⟨g4, 0, none⟩ = some (.int .i64 0) := (blk_cell K4.out 0).trans rfl; have h53 : w3.cell? ⟨g5, 0, none⟩ = some (.int .i64 0) := (blk_cell K5.out 0).trans rfl; have f43 := blk_frozen K4.out 0; have f53 := blk_frozen K5.out 0)))
      clear h43 h53 f43 f53
      go_loopg [24] l1.length (fun kq v24 wr => ∃ j : Nat, v24 = .int .i64 j ∧ j + kq = l1.length ∧ Aside0 (wr.heap[g4]? = some (.cells #[.int .i64 0] 3 (0, 0))) ∧ Aside0 (wr.heap[g5]? = some (.cells #[.int .i64 0] 43 (0, 0))) ∧ Aside0 (Below w.heap.size w wr))
      case atStart => exact ⟨0, rfl, Nat.zero_add _, K4, K5, HB3⟩
      case round =>
        clear K4 K5 HB3
        obtain ⟨j, rfl, hj, K4, K5, HB3⟩ := hrel
        have HJ := Aside0.mk hj
        clear hj
        by_cases hlt : (j : Int) < (l1.length : Int)
        · have hl := decide_eq_true hlt
          obtain ⟨ad, eA, hx0⟩ := Kd.at_int (Kd.C_below R1.out HB3.out) (j : Int) (Int.natCast_nonneg j) hlt
          cases eA
          rw [Int.toNat_natCast] at hx0
          have hb := CR.out (rd l1 j) (Eval_rd_mem l1 j (by omega))
          have b1 : decide (rd l1 j < -1000000) = false := decide_eq_false (by omega)
          have b2 : decide (rd l1 j > 1000000) = false := decide_eq_false (by omega)
          have hlt' := eq_true hlt
          clear hb
          have hw64 := Eval_w64 ((j : Int) + 1) (by omega) (by have := M1.out; omega)
          go_wp2
          go_roundg (gk - 1)
          case measure => have := HJ.out; omega
          case rel => exact ⟨j + 1, congrArg _ hw64, (by have := HJ.out; omega), K4, K5, HB3⟩
        · have hl := decide_eq_false hlt
          go_wp2_with (first | ((with_reducible refine gate_dst (N := 38) rfl ?_); go_must (refine box_event ?hg (N := 38) ?hd (cs := #[.slice none 0 0, .slice A1 l1.length c1]) (t := 90) ?hr ?_; (case hd => rfl); (case hg => rfl); (case hr => first | (go_simp; done) | (go_simp; rfl)); intro g hg w5 hbox hb; have HV := Aside0.mk (show MachAt wr w5 g A1 l1.length c1 [] from ⟨_, hbox, Kd.R_nil _ _ _ _ _, hb⟩); have BG := Aside0.mk (show wr.heap.size ≤ g by rw [hg]; exact Nat.le_refl _); clear hb hbox hg)))
          obtain ⟨w4, hw4⟩ : ∃ w4, w4 = wr := ⟨_, rfl⟩
          subst hw4
          have E64 := Aside0.mk (Eval_w64 ((l0.length : Int) - 1) (by omega) (by have := M0.out; omega))
          go_loopg [11] l0.length (fun kq v11 wq => ∃ (j : Nat) (st : List Int), v11 = .int .i64 ((j : Int) - 1) ∧ j = kq ∧ j ≤ l0.length ∧ Aside0 (expr_Eval.run l1 ((l0.take j).reverse) st = some (r1, r2)) ∧ Aside0 (MachAt w4 wq g A1 l1.length c1 st.reverse))
          case atStart => exact ⟨l0.length, [], congrArg _ E64.out, rfl, Nat.le_refl _, ⟨by rw [List.take_length]; exact H1.out⟩, HV⟩
          case round =>
            clear HV H1 hl
            obtain ⟨j2, st, rfl, hgk, hj2, H1, HV⟩ := hrel
            have HJ2 := Aside0.mk hj2
            have HGK := Aside0.mk hgk
            clear hj2 hgk
            generalize hx : (j2 : Int) - 1 = x at *
            have HX := Aside0.mk hx
            clear hx
            have HBq := Aside0.mk (below_step HB3.out (HV.out.choose_spec.2.2))
            have K4q := Aside0.mk (blk_below K4.out HV.out.choose_spec.2.2)
            have K5q := Aside0.mk (blk_below K5.out HV.out.choose_spec.2.2)
            cases j2 with
            | zero =>
              have hx0 : decide (x ≥ 0) = false := decide_eq_false (by have := HX.out; omega)
              have h1 := H1.out
              clear H1
              rw [List.take_zero, List.reverse_nil] at h1
              cases st with
              | nil => exact absurd h1 (by simp [expr_Eval.run])
              | cons y ys =>
                obtain ⟨rfl, rfl⟩ := Prod.mk.inj (Option.some.inj h1)
                clear h1
                rw [List.reverse_cons] at HV
                have h46 : wr.cell? ⟨g4, 0, none⟩ = some (.int .i64 0) := (blk_cell K4q.out 0).trans rfl
                have h56 : wr.cell? ⟨g5, 0, none⟩ = some (.int .i64 0) := (blk_cell K5q.out 0).trans rfl
                go_wp2_with (first | (go_at_call 45; go_must (refine (mach_pop.calls w4 A1 l1.length c1 g BG.out ys.reverse y wr HV.out).mono ?_; rintro e w6 ⟨rfl, hv, hz, hk⟩; have HB6 := Aside0.mk (below_step HB3.out hv.choose_spec.2.2); have K46 := Aside0.mk (blk_below K4.out hv.choose_spec.2.2); have K56 := Aside0.mk (blk_below K5.out hv.choose_spec.2.2); clear hv hz hk h46 h56; have h46 : w6.cell? ⟨g4, 0, none⟩ = some (.int .i64 0) := (blk_cell K46.out 0).trans rfl; have h56 : w6.cell? ⟨g5, 0, none⟩ = some (.int .i64 0) := (blk_cell K56.out 0).trans rfl; have f46 := blk_frozen K46.out 0; have f56 := blk_frozen K56.out 0)))
                have k2 := blk_far (p := ⟨g5, 0, none⟩) (blk_put K46.out 0 (.int .i64 y) rfl) N45 (.int .i64 0)
                have k3 := blk_put (blk_far (p := ⟨g4, 0, none⟩) K56.out N45.symm (.int .i64 y)) 0 (.int .i64 0) rfl
                have kb := (HB6.out.setCell (p := ⟨g4, 0, none⟩) B4.out (.int .i64 y)).setCell (p := ⟨g5, 0, none⟩) B5.out (.int .i64 0)
                generalize (w6.setCell ⟨g4, 0, none⟩ (.int .i64 y)).setCell ⟨g5, 0, none⟩ (.int .i64 0) = W at *
                have q2 : W.cell? ⟨g4, 0, none⟩ = some (.int .i64 y) := (blk_cell k2 0).trans rfl
                have q3 : W.cell? ⟨g5, 0, none⟩ = some (.int .i64 0) := (blk_cell k3 0).trans rfl
                refine leaves_cons (f := 43) (args := #[.pointer (some ⟨g4, 0, none⟩), .pointer (some ⟨g5, 0, none⟩)]) (by simp) (by simp [go_sem]) ?_
                refine (eval_catch.idle _ _ _).mono ?_
                rintro e u' w' ⟨rfl, rfl, rfl⟩
                refine ⟨.tuple #[.int .i64 y, .int .i64 0], ?_, rfl, kb⟩
                simp [results, Tryd.results33, go_sem, q2, q3]
            | succ j2 =>
              have hx0 : decide (x ≥ 0) = true := decide_eq_true (by have := HX.out; omega)
              have hx1 : x < (l0.length : Int) := by have := HX.out; have := HJ2.out; omega
              have hxj : x = (j2 : Int) := by have := HX.out; omega
              have hx2 : 0 ≤ x := by omega
              have HXJ := Aside0.mk hxj
              clear hxj
              have HW := Aside0.mk (show wrap64 (x - 1) = (j2 : Int) - 1 by rw [HXJ.out]; exact Eval_w64 _ (by omega) (by have := M0.out; have := HJ2.out; omega))
              obtain ⟨ad, eA, hy0, hy1⟩ := at_T35 (Kd.C_below R0.out HBq.out) x hx2 hx1
              cases eA
              have h1 := H1.out
              clear H1
              rw [Eval_snoc l0 j2 (by have := HJ2.out; omega), ← HXJ.out, expr_Eval.run] at h1
              obtain ⟨⟨n, ys⟩, hm, h2⟩ := Option.bind_eq_some_iff.mp h1
              clear h1
              have h1 : (if ys.length < 8796093022208 then (if mach_over n then some (0, 8) else expr_Eval.run l1 (l0.take j2).reverse (n :: ys)) else none) = some (r1, r2) := h2
              clear h2
              have HM := Aside0.mk hm
              clear hm
              by_cases hl : ys.length < 8796093022208
              · rw [if_pos hl] at h1
                have HL := Aside0.mk hl
                clear hl
                have hxb0 := eq_true hx2
                have hxb1 := eq_true hx1
                clear hx1 hx2
                generalize hop : rd_T35 l0 x = op at *
                have HOP := Aside0.mk hop
                clear hop
                by_cases ho : mach_over n
                · rw [if_pos ho] at h1
                  obtain ⟨rfl, rfl⟩ := Prod.mk.inj (Option.some.inj h1)
                  have HO := Aside0.mk ho
                  clear ho h1
                  go_wp2_with (first | (go_at_call 44; go_must (refine (mach_do.calls w4 A1 c1 l1 g (Kd.C_below R1.out HB3.out) BG.out op st n ys wr HV.out HM.out HL.out).mono ?_; rintro e w6 hd; obtain ⟨-, rfl, hb⟩ := hd.resolve_right (fun q => q.1 HO.out); have HB6 := Aside0.mk (below_step HB3.out hb); have K46 := Aside0.mk (blk_below K4.out hb); have K56 := Aside0.mk (blk_below K5.out hb); clear hd hb)))
                  refine leaves_cons (f := 43) (args := #[.pointer (some ⟨g4, 0, none⟩), .pointer (some ⟨g5, 0, none⟩)]) (by simp) (by simp [go_sem]) ?_
                  refine (eval_catch.panicking g4 g5 _ _ 8 _ K46.out K56.out N45).mono ?_
                  rintro e u' w' ⟨rfl, rfl, k2, k3, kb⟩
                  have q2 : w'.cell? ⟨g4, 0, none⟩ = some (.int .i64 0) := (blk_cell k2 0).trans rfl
                  have q3 : w'.cell? ⟨g5, 0, none⟩ = some (.int .i64 8) := (blk_cell k3 0).trans rfl
                  refine ⟨.tuple #[.int .i64 0, .int .i64 8], ?_, rfl, HB6.out.trans (kb _ B4.out B5.out)⟩
                  simp [results, Tryd.results33, go_sem, q2, q3]
                · rw [if_neg ho] at h1
                  have HO := Aside0.mk ho
                  have H1 := Aside0.mk h1
                  clear ho h1
                  go_wp2_with (first | (go_at_call 44; go_must (refine (mach_do.calls w4 A1 c1 l1 g (Kd.C_below R1.out HB3.out) BG.out op st n ys wr HV.out HM.out HL.out).mono ?_; rintro e w6 hd; obtain ⟨-, rfl, hv⟩ := hd.resolve_left (fun q => HO.out q.1); have HV6 := Aside0.mk hv; clear hd hv)))
                  go_roundg j2
                  case measure => have := HGK.out; omega
                  case rel => exact ⟨j2, n :: ys, congrArg _ HW.out, rfl, (by have := HJ2.out; omega), H1, HV6⟩
              · rw [if_neg hl] at h1
                exact absurd h1 (by simp)
    · rw [if_neg c2] at h
      exact absurd h (by simp)
  · rw [if_neg c1] at h
    obtain ⟨rfl, rfl⟩ := Prod.mk.inj (Option.some.inj h)
    have c1' : (re != 0) = true := bne_iff_ne.mpr c1
    have c1'' : (re == 0) = false := beq_eq_false_iff_ne.mpr c1
    clear c1 h
    go_enter_defers Tryd.func33, Tryd.ntmps33
    go_wp2_with (first | ((with_reducible refine gate_dst (N := 4) rfl ?_); go_must (refine box_event ?hg (N := 4) ?hd (cs := #[.int .i64 0]) (t := 3) ?hr ?_; (case hd => rfl); (case hg => rfl); (case hr => first | (go_simp; done) | (go_simp; rfl)); intro g4 hg w1 hbox hb; have K41 := Aside0.mk hbox; have HB1 := Aside0.mk hb; have B4 := Aside0.mk (show w.heap.size ≤ g4 by rw [hg]; exact Nat.le_refl _); clear hb hbox hg)) | ((with_reducible refine gate_dst (N := 5) rfl ?_); go_must (refine box_event ?hg (N := 5) ?hd (cs := #[.int .i64 0]) (t := 43) ?hr ?_; (case hd => rfl); (case hg => rfl); (case hr => first | (go_simp; done) | (go_simp; rfl)); intro g5 hg w2 hbox hb; have K52 := Aside0.mk hbox; have K42 := Aside0.mk (blk_below K41.out hb); have HB2 := Aside0.mk (below_step HB1.out hb); have N45 : g4 ≠ g5 := (by rw [hg]; exact Nat.ne_of_lt (blk_lt K41.out)); have B5 := Aside0.mk (show w.heap.size ≤ g5 by rw [hg]; exact below_size HB1.out); clear hb hbox hg K41 HB1)) | (go_at_call 42; go_must (refine (expr_Check.calls k A0 c0 l0 (l1.length : Int) _ _ w2 (Kd.C_below R0.out HB2.out) L0.out (Glob.below GL.out HB2.out) HA.out).mono ?_; rintro e w3 ⟨rfl, hb⟩; have K4 := Aside0.mk (blk_below K42.out hb); have K5 := Aside0.mk (blk_below K52.out hb); have HB3 := Aside0.mk (below_step HB2.out hb); clear hb K42 K52 HB2; have h43 : w3.cell? ⟨g4, 0, none⟩ = some (.int .i64 0) := (blk_cell K4.out 0).trans rfl; have h53 : w3.cell? ⟨g5, 0, none⟩ = some (.int .i64 0) := (blk_cell K5.out 0).trans rfl; have f43 := blk_frozen K4.out 0; have f53 := blk_frozen K5.out 0)))
    have k2 := blk_far (p := ⟨g5, 0, none⟩) (blk_put K4.out 0 (.int .i64 0) rfl) N45 (.int .i64 re)
    have k3 := blk_put (blk_far (p := ⟨g4, 0, none⟩) K5.out N45.symm (.int .i64 0)) 0 (.int .i64 re) rfl
    have kb := (HB3.out.setCell (p := ⟨g4, 0, none⟩) B4.out (.int .i64 0)).setCell (p := ⟨g5, 0, none⟩) B5.out (.int .i64 re)
    generalize (w3.setCell ⟨g4, 0, none⟩ (.int .i64 0)).setCell ⟨g5, 0, none⟩ (.int .i64 re) = W at *
    have q2 : W.cell? ⟨g4, 0, none⟩ = some (.int .i64 0) := (blk_cell k2 0).trans rfl
    have q3 : W.cell? ⟨g5, 0, none⟩ = some (.int .i64 re) := (blk_cell k3 0).trans rfl
    refine ⟨.tuple #[.int .i64 0, .int .i64 re], ?_, rfl, kb⟩
    simp [results, Tryd.results33, go_sem, q2, q3]

end Go.Proofs.YteennleoieafiaaDoor.P
end
section
namespace Go.Proofs.YteennleoieafiaaDoor.Q
open Go.RowKit Go.Proofs.YteennleoieafiaaDoorW.PrintWords Go.Proofs.YteennleoieafiaaDoorW.PrintMore Go.Proofs.YteennleoieafiaaDoor.P
set_option linter.unusedVariables false
def lim (n : Int) : Option Int := if mach_over n then none else some n
def Tm.val (env : List Int) : Tm → Option Int
  | .leaf o => lim (if o.f0 = 1 then o.f1 else if o.f0 = 2 then rd env o.f1 else if o.f0 = 11 then 1 else 0)
  | .un _ a => (a.val env).bind fun y => lim (wrap64 (1 - y))
  | .bin o a b => (b.val env).bind fun y => (a.val env).bind fun x => lim (mach_bin o.f0 x y)
theorem run_op {env : List Int} {o : Op} {os : List Op} {st ys : List Int} {n : Int} (hv : mach_val env o st = some (n, ys)) (hl : ys.length < 8796093022208) :
    expr_Eval.run env (o :: os) st = (lim n).elim (some (0, 8)) (fun m => expr_Eval.run env os (m :: ys)) := by
  rw [expr_Eval.run, hv, Option.bind_some]
  simp only [if_pos hl]
  unfold lim
  by_cases c : mach_over n
  · rw [if_pos c, if_pos c]; rfl
  · rw [if_neg c, if_neg c]; rfl
theorem run_tm {vars : Int} {env : List Int} (hlen : (env.length : Int) = vars) {b : Bool} {t : Tm} (h : Ty vars b t) : ∀ (os : List Op) (st : List Int), st.length + t.size ≤ 100000 →
    expr_Eval.run env (t.flat.reverse ++ os) st = (t.val env).elim (some (0, 8)) (fun n => expr_Eval.run env os (n :: st)) := by
  have hbin : ∀ (o : Int) (x y : Tm), 3 ≤ o → o ≤ 9 → (∀ (os : List Op) (st : List Int), st.length + x.size ≤ 100000 → expr_Eval.run env (x.flat.reverse ++ os) st = (x.val env).elim (some (0, 8)) (fun n => expr_Eval.run env os (n :: st))) →
      (∀ (os : List Op) (st : List Int), st.length + y.size ≤ 100000 → expr_Eval.run env (y.flat.reverse ++ os) st = (y.val env).elim (some (0, 8)) (fun n => expr_Eval.run env os (n :: st))) →
      ∀ (os : List Op) (st : List Int), st.length + (Tm.bin ⟨o, 0⟩ x y).size ≤ 100000 → expr_Eval.run env ((Tm.bin ⟨o, 0⟩ x y).flat.reverse ++ os) st = ((Tm.bin ⟨o, 0⟩ x y).val env).elim (some (0, 8)) (fun n => expr_Eval.run env os (n :: st)) := by
    intro o x y h0 h1 ihx ihy os st hl
    simp only [Tm.size] at hl
    have sx := x.size_pos
    have e : (Tm.bin ⟨o, 0⟩ x y).flat.reverse ++ os = y.flat.reverse ++ (x.flat.reverse ++ (⟨o, 0⟩ :: os)) := by simp [Tm.flat]
    rw [e, ihy _ _ (by omega)]
    simp only [Tm.val]
    cases hy : y.val env with
    | none => rfl
    | some vy =>
      simp only [Option.elim_some, Option.bind_some]
      rw [ihx _ _ (by rw [List.length_cons]; omega)]
      cases hx : x.val env with
      | none => rfl
      | some vx =>
        simp only [Option.elim_some, Option.bind_some]
        refine run_op ?_ (by omega)
        unfold mach_val
        simp only
        rw [if_neg (by omega), if_neg (by omega), if_neg (by omega), if_neg (by omega), if_neg (by omega), if_pos ⟨h0, h1⟩]
  induction h with
  | num v h0 h1 =>
    intro os st hl
    simp only [Tm.size] at hl
    exact run_op (by unfold mach_val; rfl) (by omega)
  | var v h0 h1 =>
    intro os st hl
    simp only [Tm.size] at hl
    have hm : mach_val env ⟨2, v⟩ st = some (rd env v, st) := by
      have h' : 0 ≤ v ∧ v < (env.length : Int) := ⟨h0, by omega⟩
      simp [mach_val, h']
    exact run_op hm (by omega)
  | yes o h =>
    intro os st hl
    simp only [Tm.size] at hl
    rcases h with rfl | rfl <;> exact run_op (by unfold mach_val; rfl) (by omega)
  | arith o x y h _ _ ihx ihy => exact hbin o x y (by omega) (by omega) ihx ihy
  | cmp o x y h _ _ ihx ihy => exact hbin o x y (by omega) (by omega) ihx ihy
  | log o x y h _ _ ihx ihy => exact hbin o x y (by omega) (by omega) ihx ihy
  | not x _ ih =>
    intro os st hl
    simp only [Tm.size] at hl
    have e : (Tm.un ⟨10, 0⟩ x).flat.reverse ++ os = x.flat.reverse ++ (⟨10, 0⟩ :: os) := by simp [Tm.flat]
    rw [e, ih _ _ (by omega)]
    simp only [Tm.val]
    cases hx : x.val env with
    | none => rfl
    | some vx =>
      simp only [Option.elim_some, Option.bind_some]
      exact run_op (by unfold mach_val; rfl) (by omega)
def res (v : Option Int) : Int × Int := v.elim (0, 8) (fun n => (n, 0))
theorem eval_is {vars : Int} (hv1 : vars ≤ 6) {env : List Int} (hlen : (env.length : Int) = vars) (he : ∀ v ∈ env, -1000000 ≤ v ∧ v ≤ 1000000) {b : Bool} {t : Tm} (h : Ty vars b t) (hs : t.size ≤ 60) :
    Ev (fun k => expr_Eval.f k t.flat env) (res (t.val env)) := by
  unfold expr_Eval.f
  rw [hlen]
  refine Ev.bind (check_good (by omega) hv1 h hs) ?_
  simp only [if_true, if_pos he]
  have hr := run_tm hlen h [] [] (by rw [List.length_nil]; omega)
  rw [List.append_nil] at hr
  rw [hr]
  cases t.val env with
  | none => exact Ev.now _
  | some n => exact Ev.now _
theorem w10 : wrap64 (1 - 0) = 1 := w64 (n := 1) (by decide) (by decide)
theorem w11 : wrap64 (1 - 1) = 0 := w64 (n := 0) (by decide) (by decide)
end Go.Proofs.YteennleoieafiaaDoor.Q
end
