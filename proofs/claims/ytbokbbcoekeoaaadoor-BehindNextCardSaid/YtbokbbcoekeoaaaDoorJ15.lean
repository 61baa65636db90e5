-- PACKED by pack.py of this repo: FExprEval FModelFirst QModel QVal QOwn
import Derived.WalkSpells
import Derived.WalkLawsBesides
import Derived.Recover
import Derived.Test.YtbokbbcoekeoaaaDoorJ1
import Derived.Test.YtbokbbcoekeoaaaDoorJ8
import Derived.Test.YtbokbbcoekeoaaaDoorJ2
import Derived.Test.YtbokbbcoekeoaaaDoorJ14
import Derived.Test.YtbokbbcoekeoaaaDoorJ13
import Derived.Test.YtbokbbcoekeoaaaDoorJ4
import Derived.Test.YtbokbbcoekeoaaaDoorJ9
import Derived.Test.YtbokbbcoekeoaaaDoorJ10
import Derived.Test.YtbokbbcoekeoaaaDoorJ11
import Derived.Test.YtbokbbcoekeoaaaDoorJ12
import Derived.Test.YtbokbbcoekeoaaaDoorJ5
section
namespace Go.Proofs.YtbokbbcoekeoaaaDoor.P
open Go.RowKit Go.Proofs.YtbokbbcoekeoaaaDoorW.PrintWords Go.Proofs.YtbokbbcoekeoaaaDoorW.PrintLast Go.Proofs.YtbokbbcoekeoaaaDoorW.PrintMore Go.Proofs.YtbokbbcoekeoaaaDoor.G
attribute [local go_sem] max2_int min2_int max_two min_two max_three min_three max_four min_four
set_option linter.unusedVariables false
set_option linter.unusedSimpArgs false

--IMPORT Derived.WalkSpells
--IMPORT Derived.WalkLawsBesides
--IMPORT Derived.Recover
instance mach_over.dec (n : Int) : Decidable (mach_over n) := by unfold mach_over; infer_instance
theorem Eval_w64 (n : Int) (h0 : -9223372036854775808 ≤ n) (h1 : n ≤ 9223372036854775807) : wrap64 n = n := by unfold wrap64; omega
theorem Eval_snoc (l : List S72) (j : Nat) (h : j < l.length) : (l.take (j + 1)).reverse = rd_T72 l (j : Int) :: (l.take j).reverse := by
 have : rd_T72 l (j : Int) = l[j] := by simp [rd_T72, rdOf, h]
 rw [List.take_add_one, this, List.getElem?_eq_getElem h]
 simp
theorem Eval_rd_mem (l : List Int) (j : Nat) (h : j < l.length) : rd l (j : Int) ∈ l := by
 have : rd l (j : Int) = l[j] := by simp [rd, rdOf, h]
 rw [this]
 exact List.getElem_mem h
/-- The ops, the last one first, over a stack. -/
def expr_Eval.run (env : List Int) : List S72 → List Int → Option (Int × Int)
 | [], st => match st with | y :: _ => some (y, 0) | [] => none
 | o :: os, st => (mach_val env o st).bind fun r => if r.2.length < 8796093022208 then (if mach_over r.1 then some (0, 8) else expr_Eval.run env os (r.1 :: r.2)) else none
def expr_Eval.f (k : Nat) (l0 : List (S72)) (l1 : List Int) : Option (Int × Int) := (expr_Check.f k l0 (l1.length : Int)).bind fun r => if r.2 = 0 then (if ∀ v ∈ l1, -1000000 ≤ v ∧ v ≤ 1000000 then expr_Eval.run l1 l0.reverse [] else none) else some (0, r.2)
theorem expr_Eval.mono : ∀ a0 a1 k, LeO (expr_Eval.f k a0 a1) (expr_Eval.f (k + 1) a0 a1) := by
 intro a0 a1 k
 unfold expr_Eval.f
 exact LeO.bind (expr_Check.mono _ _ _) (fun _ => LeO.refl _)
set_option maxHeartbeats 8000000 in
set_option maxRecDepth 100000 in
theorem expr_Eval.calls (k : Nat) (A0 : Option Addr) (c0 : Nat) (l0 : List (S72)) (A1 : Option Addr) (c1 : Nat) (l1 : List Int) (r1 : Int) (r2 : Int) (w : World) (hr0 : Kd.C k72 w A0 l0.length l0) (hc0 : l0.length ≤ c0) (hr1 : Kd.C (Kd.int .i64) w A1 l1.length l1) (hc1 : l1.length ≤ c1) (hG_ : Glob w) (h : expr_Eval.f k l0 l1 = some (r1, r2)) :
  Calls Tryd.prog 54 #[.slice A0 l0.length c0, .slice A1 l1.length c1] w fun e w' => e = .returned (.tuple #[.int .i64 r1, .int .i64 r2]) ∧ Below w.heap.size w w' := by
 have hmf : ∀ (fn : Fn) (first cap : Array Value) (w : World), (Instr.makeFunc fn first cap).run Tryd.prog w = .ok (.func fn first cap) w := fun _ _ _ _ => rfl
 have R0 := Aside0.mk hr0
 have L0 := Aside0.mk hc0
 have R1 := Aside0.mk hr1
 have L1 := Aside0.mk hc1
 have GL := Aside0.mk hG_
 clear hr0 hc0 hr1 hc1 hG_
 unfold expr_Eval.f at h
 obtain ⟨⟨rb, re⟩, hA, h⟩ := Option.bind_eq_some_iff.mp h
 replace h : (if re = 0 then (if ∀ v ∈ l1, -1000000 ≤ v ∧ v ≤ 1000000 then expr_Eval.run l1 l0.reverse [] else none) else some (0, re)) = some (r1, r2) := h
 have HA := Aside0.mk hA
 clear hA
 by_cases c1 : re = 0
 rotate_left
 ·
  rw [if_neg c1] at h
  obtain ⟨rfl, rfl⟩ := Prod.mk.inj (Option.some.inj h)
  have c1' : (re != 0) = true := bne_iff_ne.mpr c1
  have c1'' : (re == 0) = false := beq_eq_false_iff_ne.mpr c1
  clear c1 h
  go_enter_defers Tryd.func54, Tryd.ntmps54
  go_wp2_with (first | ((with_reducible refine gate_dst (N := 4) rfl ?_); go_must (refine box_event ?hg (N := 4) ?hd (cs := #[.int .i64 0]) (t := 3) ?hr ?_; (case hd => rfl); (case hg => rfl); (case hr => first | (go_simp; done) | (go_simp; rfl)); intro g4 hg w1 hbox hb; have K41 := Aside0.mk hbox; have HB1 := Aside0.mk hb; have B4 := Aside0.mk (show w.heap.size ≤ g4 by rw [hg]; exact Nat.le_refl _); clear hb hbox hg)) | ((with_reducible refine gate_dst (N := 5) rfl ?_); go_must (refine box_event ?hg (N := 5) ?hd (cs := #[.int .i64 0]) (t := 38) ?hr ?_; (case hd => rfl); (case hg => rfl); (case hr => first | (go_simp; done) | (go_simp; rfl)); intro g5 hg w2 hbox hb; have K52 := Aside0.mk hbox; have K42 := Aside0.mk (blk_below K41.out hb); have HB2 := Aside0.mk (below_step HB1.out hb); have N45 : g4 ≠ g5 := (by rw [hg]; exact Nat.ne_of_lt (blk_lt K41.out)); have B5 := Aside0.mk (show w.heap.size ≤ g5 by rw [hg]; exact below_size HB1.out); clear hb hbox hg K41 HB1)) | (go_at_call 80; go_must (refine (expr_Check.calls k A0 c0 l0 (l1.length : Int) _ _ w2 (Kd.C_below R0.out HB2.out) L0.out (Glob.below GL.out HB2.out) HA.out).mono ?_; rintro e w3 ⟨rfl, hb⟩; have K4 := Aside0.mk (blk_below K42.out hb); have K5 := Aside0.mk (blk_below K52.out hb); have HB3 := Aside0.mk (below_step HB2.out hb); clear hb K42 K52 HB2; have h43 : w3.cell? ⟨g4, 0, none⟩ = some (.int .i64 0) := (blk_cell K4.out 0).trans rfl; have h53 : w3.cell? ⟨g5, 0, none⟩ = some (.int .i64 0) := (blk_cell K5.out 0).trans rfl; have f43 := blk_frozen K4.out 0; have f53 := blk_frozen K5.out 0)))
  have k2 := blk_far (p := ⟨g5, 0, none⟩) (blk_put K4.out 0 (.int .i64 0) rfl) N45 (.int .i64 re)
  have k3 := blk_put (blk_far (p := ⟨g4, 0, none⟩) K5.out N45.symm (.int .i64 0)) 0 (.int .i64 re) rfl
  have kb := (HB3.out.setCell (p := ⟨g4, 0, none⟩) B4.out (.int .i64 0)).setCell (p := ⟨g5, 0, none⟩) B5.out (.int .i64 re)
  generalize (w3.setCell ⟨g4, 0, none⟩ (.int .i64 0)).setCell ⟨g5, 0, none⟩ (.int .i64 re) = W at *
  have q2 : W.cell? ⟨g4, 0, none⟩ = some (.int .i64 0) := (blk_cell k2 0).trans rfl
  have q3 : W.cell? ⟨g5, 0, none⟩ = some (.int .i64 re) := (blk_cell k3 0).trans rfl
  refine ⟨.tuple #[.int .i64 0, .int .i64 re], ?_, rfl, kb⟩
  simp [results, Tryd.results54, go_sem, q2, q3]
 rw [if_pos c1] at h
 subst c1
 by_cases c2 : ∀ v ∈ l1, -1000000 ≤ v ∧ v ≤ 1000000
 rotate_left
 ·
  rw [if_neg c2] at h
  exact absurd h (by simp)
 rw [if_pos c2] at h
 have CR := Aside0.mk c2
 have H1 := Aside0.mk h
 have M0 := Aside0.mk (Kd.C_max R0.out)
 have M1 := Aside0.mk (Kd.C_max R1.out)
 clear c2 h
 go_enter_defers Tryd.func54, Tryd.ntmps54
 go_wp2_with (first | ((with_reducible refine gate_dst (N := 4) rfl ?_); go_must (refine box_event ?hg (N := 4) ?hd (cs := #[.int .i64 0]) (t := 3) ?hr ?_; (case hd => rfl); (case hg => rfl); (case hr => first | (go_simp; done) | (go_simp; rfl)); intro g4 hg w1 hbox hb; have K41 := Aside0.mk hbox; have HB1 := Aside0.mk hb; have B4 := Aside0.mk (show w.heap.size ≤ g4 by rw [hg]; exact Nat.le_refl _); clear hb hbox hg)) | ((with_reducible refine gate_dst (N := 5) rfl ?_); go_must (refine box_event ?hg (N := 5) ?hd (cs := #[.int .i64 0]) (t := 38) ?hr ?_; (case hd => rfl); (case hg => rfl); (case hr => first | (go_simp; done) | (go_simp; rfl)); intro g5 hg w2 hbox hb; have K52 := Aside0.mk hbox; have K42 := Aside0.mk (blk_below K41.out hb); have HB2 := Aside0.mk (below_step HB1.out hb); have N45 : g4 ≠ g5 := (by rw [hg]; exact Nat.ne_of_lt (blk_lt K41.out)); have B5 := Aside0.mk (show w.heap.size ≤ g5 by rw [hg]; exact below_size HB1.out); clear hb hbox hg K41 HB1)) | (go_at_call 80; go_must (refine (expr_Check.calls k A0 c0 l0 (l1.length : Int) _ _ w2 (Kd.C_below R0.out HB2.out) L0.out (Glob.below GL.out HB2.out) HA.out).mono ?_; rintro e w3 ⟨rfl, hb⟩; have K4 := Aside0.mk (blk_below K42.out hb); have K5 := Aside0.mk (blk_below K52.out hb); have HB3 := Aside0.mk (below_step HB2.out hb); clear hb K42 K52 HB2; have h43 : w3.cell? ⟨g4, 0, none⟩ = some (.int .i64 0) := (blk_cell K4.out 0).trans rfl; have h53 : w3.cell? ⟨g5, 0, none⟩ = some (.int .i64 0) := (blk_cell K5.out 0).trans rfl; have f43 := blk_frozen K4.out 0; have f53 := blk_frozen K5.out 0)))
 clear h43 h53 f43 f53
 go_loopg [24] l1.length (fun kq v24 wr => ∃ j : Nat, v24 = .int .i64 j ∧ j + kq = l1.length ∧ Aside0 (wr.heap[g4]? = some (.cells #[.int .i64 0] 3 (0, 0))) ∧ Aside0 (wr.heap[g5]? = some (.cells #[.int .i64 0] 38 (0, 0))) ∧ Aside0 (Below w.heap.size w wr))
 case atStart => exact ⟨0, rfl, Nat.zero_add _, K4, K5, HB3⟩
 case round =>
  clear K4 K5 HB3
  obtain ⟨j, rfl, hj, K4, K5, HB3⟩ := hrel
  have HJ := Aside0.mk hj
  clear hj
  by_cases hlt : (j : Int) < (l1.length : Int)
  ·
   have hl := decide_eq_true hlt
   obtain ⟨ad, eA, hx0⟩ := Kd.at_int (Kd.C_below R1.out HB3.out) (j : Int) (Int.natCast_nonneg j) hlt
   cases eA
   rw [Int.toNat_natCast] at hx0
   have hb := CR.out (rd l1 j) (Eval_rd_mem l1 j (by omega))
   have b1 : decide (rd l1 j < -1000000) = false := decide_eq_false (by omega)
   have b2 : decide (rd l1 j > 1000000) = false := decide_eq_false (by omega)
   have hlt' := eq_true hlt
   clear hb
   have hw64 := Eval_w64 ((j : Int) + 1) (by omega) (by have := M1.out; omega)
   go_wp2
   go_roundg (gk - 1)
   case measure => have := HJ.out; omega
   case rel => exact ⟨j + 1, congrArg _ hw64, (by have := HJ.out; omega), K4, K5, HB3⟩
  ·
   have hl := decide_eq_false hlt
   go_wp2_with (first | ((with_reducible refine gate_dst (N := 38) rfl ?_); go_must (refine box_event ?hg (N := 38) ?hd (cs := #[.slice none 0 0, .slice A1 l1.length c1]) (t := 158) ?hr ?_; (case hd => rfl); (case hg => rfl); (case hr => first | (go_simp; done) | (go_simp; rfl)); intro g hg w5 hbox hb; have HV := Aside0.mk (show MachAt wr w5 g A1 l1.length c1 [] from ⟨_, hbox, Kd.R_nil _ _ _ _ _, hb⟩); have BG := Aside0.mk (show wr.heap.size ≤ g by rw [hg]; exact Nat.le_refl _); clear hb hbox hg)))
   obtain ⟨w4, hw4⟩ : ∃ w4, w4 = wr := ⟨_, rfl⟩
   subst hw4
   have E64 := Aside0.mk (Eval_w64 ((l0.length : Int) - 1) (by omega) (by have := M0.out; omega))
   go_loopg [11] l0.length (fun kq v11 wq => ∃ (j : Nat) (st : List Int), v11 = .int .i64 ((j : Int) - 1) ∧ j = kq ∧ j ≤ l0.length ∧ Aside0 (expr_Eval.run l1 ((l0.take j).reverse) st = some (r1, r2)) ∧ Aside0 (MachAt w4 wq g A1 l1.length c1 st.reverse))
   case atStart => exact ⟨l0.length, [], congrArg _ E64.out, rfl, Nat.le_refl _, ⟨by rw [List.take_length]; exact H1.out⟩, HV⟩
   case round =>
    clear HV H1 hl
    obtain ⟨j2, st, rfl, hgk, hj2, H1, HV⟩ := hrel
    have HJ2 := Aside0.mk hj2
    have HGK := Aside0.mk hgk
    clear hj2 hgk
    generalize hx : (j2 : Int) - 1 = x at *
    have HX := Aside0.mk hx
    clear hx
    have HBq := Aside0.mk (below_step HB3.out (HV.out.choose_spec.2.2))
    have K4q := Aside0.mk (blk_below K4.out HV.out.choose_spec.2.2)
    have K5q := Aside0.mk (blk_below K5.out HV.out.choose_spec.2.2)
    cases j2 with
    | zero =>
     have hx0 : decide (x ≥ 0) = false := decide_eq_false (by have := HX.out; omega)
     have h1 := H1.out
     clear H1
     rw [List.take_zero, List.reverse_nil] at h1
     cases st with
     | nil => exact absurd h1 (by simp [expr_Eval.run])
     | cons y ys =>
      obtain ⟨rfl, rfl⟩ := Prod.mk.inj (Option.some.inj h1)
      clear h1
      rw [List.reverse_cons] at HV
      have h46 : wr.cell? ⟨g4, 0, none⟩ = some (.int .i64 0) := (blk_cell K4q.out 0).trans rfl
      have h56 : wr.cell? ⟨g5, 0, none⟩ = some (.int .i64 0) := (blk_cell K5q.out 0).trans rfl
      go_wp2_with (first | (go_at_call 83; go_must (refine (mach_pop.calls w4 A1 l1.length c1 g BG.out ys.reverse y wr HV.out).mono ?_; rintro e w6 ⟨rfl, hv, hz, hk⟩; have HB6 := Aside0.mk (below_step HB3.out hv.choose_spec.2.2); have K46 := Aside0.mk (blk_below K4.out hv.choose_spec.2.2); have K56 := Aside0.mk (blk_below K5.out hv.choose_spec.2.2); clear hv hz hk h46 h56; have h46 : w6.cell? ⟨g4, 0, none⟩ = some (.int .i64 0) := (blk_cell K46.out 0).trans rfl; have h56 : w6.cell? ⟨g5, 0, none⟩ = some (.int .i64 0) := (blk_cell K56.out 0).trans rfl; have f46 := blk_frozen K46.out 0; have f56 := blk_frozen K56.out 0)))
      have k2 := blk_far (p := ⟨g5, 0, none⟩) (blk_put K46.out 0 (.int .i64 y) rfl) N45 (.int .i64 0)
      have k3 := blk_put (blk_far (p := ⟨g4, 0, none⟩) K56.out N45.symm (.int .i64 y)) 0 (.int .i64 0) rfl
      have kb := (HB6.out.setCell (p := ⟨g4, 0, none⟩) B4.out (.int .i64 y)).setCell (p := ⟨g5, 0, none⟩) B5.out (.int .i64 0)
      generalize (w6.setCell ⟨g4, 0, none⟩ (.int .i64 y)).setCell ⟨g5, 0, none⟩ (.int .i64 0) = W at *
      have q2 : W.cell? ⟨g4, 0, none⟩ = some (.int .i64 y) := (blk_cell k2 0).trans rfl
      have q3 : W.cell? ⟨g5, 0, none⟩ = some (.int .i64 0) := (blk_cell k3 0).trans rfl
      refine leaves_cons (f := 81) (args := #[.pointer (some ⟨g4, 0, none⟩), .pointer (some ⟨g5, 0, none⟩)]) (by simp) (by simp [go_sem]) ?_
      refine (eval_catch.idle _ _ _).mono ?_
      rintro e u' w' ⟨rfl, rfl, rfl⟩
      refine ⟨.tuple #[.int .i64 y, .int .i64 0], ?_, rfl, kb⟩
      simp [results, Tryd.results54, go_sem, q2, q3]
    | succ j2 =>
     have hx0 : decide (x ≥ 0) = true := decide_eq_true (by have := HX.out; omega)
     have hx1 : x < (l0.length : Int) := by have := HX.out; have := HJ2.out; omega
     have hxj : x = (j2 : Int) := by have := HX.out; omega
     have hx2 : 0 ≤ x := by omega
     have HXJ := Aside0.mk hxj
     clear hxj
     have HW := Aside0.mk (show wrap64 (x - 1) = (j2 : Int) - 1 by rw [HXJ.out]; exact Eval_w64 _ (by omega) (by have := M0.out; have := HJ2.out; omega))
     obtain ⟨ad, eA, hy0, hy1⟩ := at_T72 (Kd.C_below R0.out HBq.out) x hx2 hx1
     cases eA
     have h1 := H1.out
     clear H1
     rw [Eval_snoc l0 j2 (by have := HJ2.out; omega), ← HXJ.out, expr_Eval.run] at h1
     obtain ⟨⟨n, ys⟩, hm, h2⟩ := Option.bind_eq_some_iff.mp h1
     clear h1
     have h1 : (if ys.length < 8796093022208 then (if mach_over n then some (0, 8) else expr_Eval.run l1 (l0.take j2).reverse (n :: ys)) else none) = some (r1, r2) := h2
     clear h2
     have HM := Aside0.mk hm
     clear hm
     by_cases hl : ys.length < 8796093022208
     ·
      rw [if_pos hl] at h1
      have HL := Aside0.mk hl
      clear hl
      have hxb0 := eq_true hx2
      have hxb1 := eq_true hx1
      clear hx1 hx2
      generalize hop : rd_T72 l0 x = op at *
      have HOP := Aside0.mk hop
      clear hop
      by_cases ho : mach_over n
      ·
       rw [if_pos ho] at h1
       obtain ⟨rfl, rfl⟩ := Prod.mk.inj (Option.some.inj h1)
       have HO := Aside0.mk ho
       clear ho h1
       go_wp2_with (first | (go_at_call 82; go_must (refine (mach_do.calls w4 A1 c1 l1 g (Kd.C_below R1.out HB3.out) BG.out op st n ys wr HV.out HM.out HL.out).mono ?_; rintro e w6 hd; obtain ⟨-, rfl, hb⟩ := hd.resolve_right (fun q => q.1 HO.out); have HB6 := Aside0.mk (below_step HB3.out hb); have K46 := Aside0.mk (blk_below K4.out hb); have K56 := Aside0.mk (blk_below K5.out hb); clear hd hb)))
       refine leaves_cons (f := 81) (args := #[.pointer (some ⟨g4, 0, none⟩), .pointer (some ⟨g5, 0, none⟩)]) (by simp) (by simp [go_sem]) ?_
       refine (eval_catch.panicking g4 g5 _ _ 8 _ K46.out K56.out N45).mono ?_
       rintro e u' w' ⟨rfl, rfl, k2, k3, kb⟩
       have q2 : w'.cell? ⟨g4, 0, none⟩ = some (.int .i64 0) := (blk_cell k2 0).trans rfl
       have q3 : w'.cell? ⟨g5, 0, none⟩ = some (.int .i64 8) := (blk_cell k3 0).trans rfl
       refine ⟨.tuple #[.int .i64 0, .int .i64 8], ?_, rfl, HB6.out.trans (kb _ B4.out B5.out)⟩
       simp [results, Tryd.results54, go_sem, q2, q3]
      ·
       rw [if_neg ho] at h1
       have HO := Aside0.mk ho
       have H1 := Aside0.mk h1
       clear ho h1
       go_wp2_with (first | (go_at_call 82; go_must (refine (mach_do.calls w4 A1 c1 l1 g (Kd.C_below R1.out HB3.out) BG.out op st n ys wr HV.out HM.out HL.out).mono ?_; rintro e w6 hd; obtain ⟨-, rfl, hv⟩ := hd.resolve_left (fun q => HO.out q.1); have HV6 := Aside0.mk hv; clear hd hv)))
       go_roundg j2
       case measure => have := HGK.out; omega
       case rel => exact ⟨j2, n :: ys, congrArg _ HW.out, rfl, (by have := HJ2.out; omega), H1, HV6⟩
     ·
      rw [if_neg hl] at h1
      exact absurd h1 (by simp)

def model_First.l0 : Nat → List Int → List (S77) → Int → Int → List (S77) → List (S118) → Option (Int × Int)
 | 0, _, _, _, _, _, _ => none
 | k + 1, x4, x8, x9, x10, x166000, x166001 => if x10 < x9 then (if 0 ≤ x10 then (if x10 < (x8.length : Int) then (if x4.length < 17592186044416 then (model_First.l0 k (x4 ++ [(rd_T77 x8 x10).f3]) x8 x9 (wrap64 (x10 + 1)) x166000 x166001) else (none)) else (none)) else (none)) else ((model_Code.f k x166000 x166001 x4).bind fun bt171 => (some (bt171.1, bt171.2)))
def model_First.f (k : Nat) (l0_0 : List (S77)) (l0_1 : List (S118)) : Option (Int × Int) := model_First.l0 k ([] : List Int) l0_0 (l0_0.length : Int) 0 l0_0 l0_1
theorem model_First.mono_l : ∀ k, (∀ y0 y1 y2 y3 y4 y5, LeO (model_First.l0 k y0 y1 y2 y3 y4 y5) (model_First.l0 (k + 1) y0 y1 y2 y3 y4 y5))
 | 0 => fun _ _ _ _ _ _ r h => by simp [model_First.l0] at h
 | k + 1 => by
  have ih0 := model_First.mono_l k
  ·
   intro y0 y1 y2 y3 y4 y5
   unfold model_First.l0
   repeat' first
   | (with_reducible exact ih0 _ _ _ _ _ _)
   | (with_reducible exact model_Code.mono _ _ _ _)
   | (with_reducible exact LeO.refl _)
   | (with_reducible exact LeO.none _)
   | (with_reducible refine LeO.ite ?_ ?_)
   | (with_reducible refine LeO.bind ?_ (fun _ => ?_))
   | exact ih0 _ _ _ _ _ _
   | exact model_Code.mono _ _ _ _
   | exact LeO.none _
   | refine LeO.ite ?_ ?_
   | refine LeO.bind ?_ (fun _ => ?_)
theorem model_First.mono : ∀ a0 a1 k, LeO (model_First.f k a0 a1) (model_First.f (k + 1) a0 a1) := by
 intro a0 a1 k
 have ih0 := model_First.mono_l k
 unfold model_First.f
 repeat' first
   | (with_reducible exact ih0 _ _ _ _ _ _)
   | (with_reducible exact LeO.refl _)
   | (with_reducible exact LeO.none _)
   | (with_reducible refine LeO.ite ?_ ?_)
   | (with_reducible refine LeO.bind ?_ (fun _ => ?_))
   | exact ih0 _ _ _ _ _ _
   | exact LeO.none _
   | refine LeO.ite ?_ ?_
   | refine LeO.bind ?_ (fun _ => ?_)
set_option maxHeartbeats 8000000 in
set_option maxRecDepth 100000 in
theorem model_First.calls (k : Nat) (A0_0 : Option Addr) (c0_0 : Nat) (l0_0 : List (S77)) (A0_1 : Option Addr) (c0_1 : Nat) (l0_1 : List (S118)) (r1 : Int) (r2 : Int) (w : World) (hr0_0 : Kd.C k77 w A0_0 l0_0.length l0_0) (hc0_0 : l0_0.length ≤ c0_0) (hr0_1 : Kd.C k118 w A0_1 l0_1.length l0_1) (hc0_1 : l0_1.length ≤ c0_1) (hG_ : Glob w) (h : model_First.f k l0_0 l0_1 = some (r1, r2)) :
  Calls Tryd.prog 12 #[.agg #[.slice A0_0 l0_0.length c0_0, .slice A0_1 l0_1.length c0_1]] w fun e w' => e = .returned (.tuple #[.int .i64 r1, .int .i64 r2]) ∧ Below w.heap.size w w' := by
 have hu30 := Tryd.underlying30
 have hu77 := Tryd.underlying77
 have HR0_0 := Aside0.mk hr0_0
 have HC0_0 := Aside0.mk hc0_0
 clear hr0_0 hc0_0
 have HR0_1 := Aside0.mk hr0_1
 have HC0_1 := Aside0.mk hc0_1
 clear hr0_1 hc0_1
 have HB := Aside0.mk (Below.refl w.heap.size w)
 have H : (model_First.l0 k ([] : List Int) l0_0 (l0_0.length : Int) 0 l0_0 l0_1) = some (r1, r2) := h
 clear h
 have H' := Aside0.mk H
 clear H
 go_enter Tryd.func12, Tryd.ntmps12
 go_wp2_with (first | ((with_reducible refine gate_dst (N := 1) rfl ?_); refine box_event ?hg (N := 1) ?hd (cs := #[.slice A0_0 l0_0.length c0_0, .slice A0_1 l0_1.length c0_1]) (t := 30) ?hr ?_; (case hd => rfl); (case hg => rfl); (case hr => first | (go_simp; done) | (go_simp; rfl)); intro gb165 hg w2 hbox hb; have n0_ := Aside0.mk (below_step (bQ) hb); have n1_ := Aside0.mk (hbox); have n2_ := Aside0.mk ((by rw [hg]; exact (below_size (bQ)) : w.heap.size ≤ gb165)); have n3_ := n2_; clear HB; have HB := n0_; have BK165 := n1_; have GW165 := n2_; have GE165 := n3_; clear n0_ n1_ n2_ n3_; clear hb hbox hg; have hcz3_0 : w2.cell? ⟨gb165, 0, none⟩ = some (.slice A0_0 l0_0.length c0_0) := (blk_cell BK165.out 0).trans rfl; have hcz3_1 : w2.cell? ⟨gb165, 1, none⟩ = some (.slice A0_1 l0_1.length c0_1) := (blk_cell BK165.out 1).trans rfl; have hfz3_0 := blk_frozen BK165.out 0; have hfz3_1 := blk_frozen BK165.out 1))
 go_loopg [4, 10] k (fun kq v4 v10 w' => ∃ (x4_1 : List Int) (x10_1 : Int), v10 = .int .i64 x10_1 ∧ Aside0 (model_First.l0 kq x4_1 l0_0 (l0_0.length : Int) x10_1 l0_0 l0_1 = some (r1, r2)) ∧ Aside0 (kq ≤ k) ∧ Aside0 (Kd.R (Kd.int .i64) 3 w' w.heap.size (fun _ => True) v4 x4_1) ∧ Aside0 (w'.heap[gb165]? = some (.cells #[(.slice A0_0 l0_0.length c0_0), (.slice A0_1 l0_1.length c0_1)] 30 (0, 0))) ∧ Aside0 (Below w.heap.size w w'))
 case atStart => exact ⟨(([] : List Int)), (0), (by first | rfl | (simp; done) | (simp [*]; done)), H', ⟨Nat.le_refl _⟩, ⟨by first | exact Kd.R_nil _ _ _ _ _ | exact Kd.N_nil _ _ _ _ _ | exact Kd.V_nil _ _ _ _ _ | exact Kd.Q_nil _ _ _ _ _ | exact Kd.S_nil _ _ _ _ _⟩, ⟨by (with_reducible repeat (first | refine blk_drewN ?_ _ | refine blk_drew ?_ | refine blk_alloc ?_ _)); exact BK165.out⟩, ⟨bQ1 GE165.out⟩⟩
 case round =>
  clear H'
  try clear c1
  try clear p2
  try clear hcz3_0
  try clear hcz3_1
  try clear hfz3_0
  try clear hfz3_1
  obtain ⟨x4_1, x10_1, rfl, HA, HK1, HO_4, BK165, HB⟩ := hrel
  cases gk with
  | zero => exact absurd HA.out (by simp [model_First.l0])
  | succ k1 =>
   have H := HA.out
   clear HA
   simp only [model_First.l0] at H
   by_cases c4 : x10_1 < (l0_0.length : Int)
   rotate_left
   ·
    rw [if_neg c4] at H
    have c4b0 : decide (x10_1 < (l0_0.length : Int)) = false := decide_eq_false c4
    clear c4
    replace H := Option.bind_eq_some_iff.mp H
    obtain ⟨⟨t171, t172⟩, A120, H⟩ := H
    replace H : (some (t171, t172)) = some (r1, r2) := H
    have A12 := Aside0.mk A120
    clear A120
    simp only [Option.some.injEq, Prod.mk.injEq] at H
    obtain ⟨rfl, rfl⟩ := H
    have hcz13_0 : wr.cell? ⟨gb165, 0, none⟩ = some (.slice A0_0 l0_0.length c0_0) := (blk_cell BK165.out 0).trans rfl
    have hcz13_1 : wr.cell? ⟨gb165, 1, none⟩ = some (.slice A0_1 l0_1.length c0_1) := (blk_cell BK165.out 1).trans rfl
    have hfz13_0 := blk_frozen BK165.out 0
    have hfz13_1 := blk_frozen BK165.out 1
    obtain ⟨Ao14, co14, eo14⟩ := Kd.R_slice HO_4.out
    subst eo14
    go_wp2_with (first | ((with_reducible refine gate_callee (f := 30) rfl ?_); refine goesL_ (some 22) rfl rfl Tryd.func30 (by kernel_rfl) rfl #[.agg #[.slice A0_0 l0_0.length c0_0, .slice A0_1 l0_1.length c0_1], .slice Ao14 x4_1.length co14] rfl mQ ?_; (with_reducible refine (model_Code.calls k1 _ _ l0_0 _ _ l0_1 _ _ x4_1 t171 t172 _ ?side1 ?side2 ?side3 ?side4 ?side5 ?side6 ?side7 A12.out).mono ?_); (case side1 => exact cQ HR0_0.out); (case side2 => exact HC0_0.out); (case side3 => exact cQ HR0_1.out); (case side4 => exact HC0_1.out); (case side5 => repeat (first | exact (Kd.R_reads' HO_4.out).2.2 | (with_reducible refine Kd.C_alloc ?_ _) | (with_reducible refine Kd.C_drewN ?_ _) | (with_reducible refine Kd.C_drew ?_))); (case side6 => exact (Kd.R_reads' HO_4.out).2.1); (case side7 => first | exact hG_ | exact Glob.drewN hG_ _ | exact Glob.below hG_ (bQ1 GE165.out)); rintro e w15 ⟨rfl, hb⟩; refine ⟨_, rfl, ?_⟩; have n0_ := Aside0.mk (Kd.R_below (rQR HO_4.out) hb); have n1_ := Aside0.mk (blk_below (kQ BK165.out) hb); have n2_ := Aside0.mk (below_step (bQ1 GE165.out) hb); clear HO_4; clear BK165; clear HB; have HO_4 := n0_; have BK165 := n1_; have HB := n2_; clear n0_ n1_ n2_; (try clear hb); (try clear hb2); (try clear hk); (try clear hi)))
    go_ret2
    exact ⟨by first | rfl | (simp [errW_none, errW_some] <;> rfl) | (simp [*, errW_none, errW_some] <;> rfl), bQ1 GE165.out⟩
   rw [if_pos c4] at H
   have c4b0 : decide (x10_1 < (l0_0.length : Int)) = true := decide_eq_true c4
   clear c4
   by_cases c5 : 0 ≤ x10_1
   rotate_left
   ·
    rw [if_neg c5] at H
    exact absurd H (by simp)
   rw [if_pos c5] at H
   have c5b0 : decide (0 ≤ x10_1) = true := decide_eq_true c5
   clear c5
   by_cases c6 : x10_1 < (l0_0.length : Int)
   rotate_left
   ·
    rw [if_neg c6] at H
    exact absurd H (by simp)
   rw [if_pos c6] at H
   have c6b0 : decide (x10_1 < (l0_0.length : Int)) = true := decide_eq_true c6
   clear c6
   by_cases c7 : x4_1.length < 17592186044416
   rotate_left
   ·
    rw [if_neg c7] at H
    exact absurd H (by simp)
   rw [if_pos c7] at H
   have LMc7 := Aside0.mk c7
   clear c7
   obtain ⟨y168, hy168⟩ : ∃ y_ : List Int, y_ = (x4_1 ++ [(rd_T77 l0_0 x10_1).f3]) := ⟨_, rfl⟩
   replace H : (model_First.l0 k1 y168 l0_0 (l0_0.length : Int) (wrap64 (x10_1 + 1)) l0_0 l0_1) = some (r1, r2) := by first | (rw [hy168]; with_reducible exact H) | (have H2_ := (Option.bind_some _ _).symm.trans H; rw [hy168]; with_reducible exact H2_) | (have H2_ := (Option.bind_some _ _).symm.trans H; with_reducible exact H2_) | with_reducible exact H | (rw [hy168]; exact H) | exact H
   have Ny168 := Aside0.mk hy168
   clear hy168
   have H' := Aside0.mk H
   clear H
   have p166 : 0 ≤ (x10_1 : Int) := of_decide_eq_true (by first | (with_reducible assumption) | assumption)
   have q166 : x10_1 < (l0_0.length : Int) := of_decide_eq_true (by first | (with_reducible assumption) | assumption)
   obtain ⟨ad166, e166, hx166_0, hx166_1, hx166_2, hx166_3⟩ := at_T77 HR0_0.out x10_1 p166 q166
   cases e166
   replace hx166_0 := (HB.out.cell (World.block_lt_of_cell? w _ hx166_0)).trans hx166_0
   replace hx166_1 := (HB.out.cell (World.block_lt_of_cell? w _ hx166_1)).trans hx166_1
   replace hx166_2 := (HB.out.cell (World.block_lt_of_cell? w _ hx166_2)).trans hx166_2
   replace hx166_3 := (HB.out.cell (World.block_lt_of_cell? w _ hx166_3)).trans hx166_3
   replace p166 := eq_true p166
   replace q166 := eq_true q166
   go_wp2_with (first | ((with_reducible refine gate_dst (N := 6) rfl ?_); refine box_event ?hg (N := 6) ?hd (cs := #[.string (⟨#[]⟩ : ByteArray), .int .i64 0, .int .i64 0, .int .i64 0]) (t := 77) ?hr ?_; (case hd => rfl); (case hg => rfl); (case hr => first | (go_simp; done) | (go_simp; rfl)); intro gb167 hg w8 hbox hb; have n0_ := Aside0.mk (Kd.R_below (rQR HO_4.out) hb); have n1_ := Aside0.mk (blk_below (kQ BK165.out) hb); have n2_ := Aside0.mk (below_step (bQ1 GE165.out) hb); have n3_ := Aside0.mk (hbox); have n4_ := Aside0.mk ((by rw [hg]; exact (below_size (bQ1 GE165.out)) : w.heap.size ≤ gb167)); have n5_ := n4_; have n6_ := Aside0.mk ((by rw [hg]; exact Nat.ne_of_lt (blk_lt (kQ BK165.out)) : gb165 ≠ gb167)); have n7_ := Aside0.mk ((by rw [hg]; exact Nat.ne_of_gt (blk_lt (kQ BK165.out)) : gb167 ≠ gb165)); clear HO_4; clear BK165; clear HB; have HO_4 := n0_; have BK165 := n1_; have HB := n2_; have BK167 := n3_; have GW167 := n4_; have GE167 := n5_; have NB165_167 := n6_; have NB167_165 := n7_; clear n0_ n1_ n2_ n3_ n4_ n5_ n6_ n7_; clear hb hbox hg; have hnb9 := NB167_165.out; have hnc9 := NB165_167.out; have hcz10_0 : w8.cell? ⟨gb167, 0, none⟩ = some (.string (⟨#[]⟩ : ByteArray)) := (blk_cell BK167.out 0).trans rfl; have hcz10_1 : w8.cell? ⟨gb167, 1, none⟩ = some (.int .i64 0) := (blk_cell BK167.out 1).trans rfl; have hcz10_2 : w8.cell? ⟨gb167, 2, none⟩ = some (.int .i64 0) := (blk_cell BK167.out 2).trans rfl; have hcz10_3 : w8.cell? ⟨gb167, 3, none⟩ = some (.int .i64 0) := (blk_cell BK167.out 3).trans rfl; have hfz10_0 := blk_frozen BK167.out 0; have hfz10_1 := blk_frozen BK167.out 1; have hfz10_2 := blk_frozen BK167.out 2; have hfz10_3 := blk_frozen BK167.out 3) | ((with_reducible refine gate_builtin (b := .append) (xs := #[.tmp 14, .tmp 17]) rfl ?_); at_builtin; refine Kd.R_append (Kd.int .i64) (w0 := w) w.heap.size rfl (.tmp 14) (.tmp 17) 43 3 (.int .i64 0) 8 rfl Tryd.underlying43 info3 rfl (by decide) (by omega) u4 x4_1 ((rd_T77 l0_0 x10_1).f3) [.int .i64 ((rd_T77 l0_0 x10_1).f3)] (fun _ => True) (fun _ => False) rfl (by first | (go_simp; done) | (go_simp; rfl)) ?aP (fun _ hk => hk.elim) ?aF ?aO ?aB ?aS ?aL ?_; (case aP => exact rfl); (case aB => exact (bQ2 GE165.out GE167.out)); (case aF => exact (fun _ _ => trivial)); (case aO => exact (by (with_reducible repeat (first | apply Kd.R_alloc | apply Kd.R_drewN | apply Kd.R_drew)); exact Kd.R_mono (Kd.R_far (p := ⟨gb167, 3, none⟩) (Kd.R_far (p := ⟨gb167, 2, none⟩) (Kd.R_far (p := ⟨gb167, 1, none⟩) (Kd.R_far (p := ⟨gb167, 0, none⟩) (Kd.R_types HO_4.out BK167.out (by decide)) (fun _ hk => hk.2) (.string ((rd_T77 l0_0 x10_1).f0))) (fun _ hk => hk.2) (.int .i64 ((rd_T77 l0_0 x10_1).f1))) (fun _ hk => hk.2) (.int .i64 ((rd_T77 l0_0 x10_1).f2))) (fun _ hk => hk.2) (.int .i64 ((rd_T77 l0_0 x10_1).f3))) (fun _ hk => trivial))); (case aS => exact (below_size (bQ2 GE165.out GE167.out))); (case aL => have := LMc7.out; omega); intro v169 w11 ho hb hg hat; rw [← Ny168.out] at ho; have n0_ := Aside0.mk (blk_grown (g := gb165) (o := .cells #[.slice (some ad166) l0_0.length c0_0, .slice A0_1 l0_1.length c0_1] 30 (0, 0)) (by (with_reducible repeat (first | refine blk_drewN ?_ _ | refine blk_drew ?_ | refine blk_alloc ?_ _)); refine blk_far ?_ NB165_167.out _; (with_reducible repeat (first | refine blk_drewN ?_ _ | refine blk_drew ?_ | refine blk_alloc ?_ _)); refine blk_far ?_ NB165_167.out _; (with_reducible repeat (first | refine blk_drewN ?_ _ | refine blk_drew ?_ | refine blk_alloc ?_ _)); refine blk_far ?_ NB165_167.out _; (with_reducible repeat (first | refine blk_drewN ?_ _ | refine blk_drew ?_ | refine blk_alloc ?_ _)); refine blk_far ?_ NB165_167.out _; (with_reducible repeat (first | refine blk_drewN ?_ _ | refine blk_drew ?_ | refine blk_alloc ?_ _)); exact BK165.out) hg (Kd.R_ne HO_4.out BK165.out (by decide))); have n1_ := Aside0.mk (blk_grown (g := gb167) (o := .cells #[.string ((rd_T77 l0_0 x10_1).f0), .int .i64 ((rd_T77 l0_0 x10_1).f1), .int .i64 ((rd_T77 l0_0 x10_1).f2), .int .i64 ((rd_T77 l0_0 x10_1).f3)] 77 (0, 0)) (by (with_reducible repeat (first | refine blk_drewN ?_ _ | refine blk_drew ?_ | refine blk_alloc ?_ _)); refine blk_put (cs := #[.string ((rd_T77 l0_0 x10_1).f0), .int .i64 ((rd_T77 l0_0 x10_1).f1), .int .i64 ((rd_T77 l0_0 x10_1).f2), .int .i64 0]) ?_ 3 _ rfl; (with_reducible repeat (first | refine blk_drewN ?_ _ | refine blk_drew ?_ | refine blk_alloc ?_ _)); refine blk_put (cs := #[.string ((rd_T77 l0_0 x10_1).f0), .int .i64 ((rd_T77 l0_0 x10_1).f1), .int .i64 0, .int .i64 0]) ?_ 2 _ rfl; (with_reducible repeat (first | refine blk_drewN ?_ _ | refine blk_drew ?_ | refine blk_alloc ?_ _)); refine blk_put (cs := #[.string ((rd_T77 l0_0 x10_1).f0), .int .i64 0, .int .i64 0, .int .i64 0]) ?_ 1 _ rfl; (with_reducible repeat (first | refine blk_drewN ?_ _ | refine blk_drew ?_ | refine blk_alloc ?_ _)); refine blk_put (cs := #[.string (⟨#[]⟩ : ByteArray), .int .i64 0, .int .i64 0, .int .i64 0]) ?_ 0 _ rfl; (with_reducible repeat (first | refine blk_drewN ?_ _ | refine blk_drew ?_ | refine blk_alloc ?_ _)); exact BK167.out) hg (Kd.R_ne HO_4.out BK167.out (by decide))); have n2_ := Aside0.mk (hb); have n3_ := Aside0.mk (ho); clear BK165; clear BK167; clear HB; clear HO_4; have BK165 := n0_; have BK167 := n1_; have HB := n2_; have HO170 := n3_; clear n0_ n1_ n2_ n3_; clear ho hb hg hat))
   go_roundg k1
   case measure => have := HK1.out; omega
   case rel => exact ⟨(y168), (wrap64 (x10_1 + 1)), (by first | rfl | (simp; done) | (simp [*]; done)), H', ⟨by have := HK1.out; omega⟩, ⟨by (with_reducible repeat (first | apply Kd.R_alloc | apply Kd.R_drewN | apply Kd.R_drew)); exact HO170.out⟩, ⟨by (with_reducible repeat (first | refine blk_drewN ?_ _ | refine blk_drew ?_ | refine blk_alloc ?_ _)); exact BK165.out⟩, ⟨bQ2 GE165.out GE167.out⟩⟩

end Go.Proofs.YtbokbbcoekeoaaaDoor.P
end
section
namespace Go.Proofs.YtbokbbcoekeoaaaDoor.Q
open Go.RowKit Go.Proofs.YtbokbbcoekeoaaaDoorW.PrintWords Go.Proofs.YtbokbbcoekeoaaaDoorW.PrintMore Go.Proofs.YtbokbbcoekeoaaaDoor.P
set_option linter.unusedVariables false
abbrev Rl := S118
abbrev St := S121
def ExOk (nv : Int) (b : Bool) (l : List Op) : Prop := ∃ t : Tm, l = t.flat ∧ Ty nv b t ∧ t.size ≤ 60
theorem kind_is {nv : Int} (h0 : 0 ≤ nv) (h1 : nv ≤ 6) {b : Bool} {l : List Op} (h : ExOk nv b l) (c : Bool) : Ev (fun k => model_kind.f k l nv c) (if b = c then 0 else 5) := by
  obtain ⟨t, rfl, ht, hs⟩ := h
  unfold model_kind.f
  refine Ev.bind (check_good h0 h1 ht hs) ?_
  cases b <;> cases c <;> exact Ev.now _
theorem kind_good {nv : Int} (h0 : 0 ≤ nv) (h1 : nv ≤ 6) {b : Bool} {l : List Op} (h : ExOk nv b l) : Ev (fun k => model_kind.f k l nv b) 0 := by
  have := kind_is h0 h1 h b
  rwa [if_pos rfl] at this
structure RuleOk (nv : Int) (r : Rl) : Prop where
  len : r.f1.length ≤ 6
  g : ExOk nv true r.f0
  nd : (r.f1.map fun s => s.f0).Nodup
  vr : ∀ s ∈ r.f1, 0 ≤ s.f0 ∧ s.f0 < nv
  vl : ∀ s ∈ r.f1, ExOk nv false s.f1
theorem sets_good {nv : Int} (h0 : 0 ≤ nv) (h1 : nv ≤ 6) : ∀ (l : List St) (seen : List Int), (l.map fun s => s.f0).Nodup → (∀ s ∈ l, s.f0 ∉ seen) → (∀ s ∈ l, 0 ≤ s.f0 ∧ s.f0 < nv) → (∀ s ∈ l, ExOk nv false s.f1) → Ev (fun k => model_rule.go k nv l seen) 0 := by
  intro l
  induction l with
  | nil => intro seen _ _ _ _; exact Ev.congr (fun k => by unfold model_rule.go; rfl) (Ev.now _)
  | cons v l ih =>
    intro seen hnd hs hv hx
    rw [List.map_cons, List.nodup_cons] at hnd
    have a := hv v List.mem_cons_self
    have b := hs v List.mem_cons_self
    refine Ev.congr (f := fun k => (model_kind.f k v.f1 nv false).bind fun e => if e = 0 then model_rule.go k nv l (seen ++ [v.f0]) else some e) (fun k => ?_) (Ev.bind (kind_good h0 h1 (hx v List.mem_cons_self)) ?_)
    · rw [model_rule.go, if_neg (by omega), if_neg b]
    · simp only [if_true]
      refine ih _ hnd.2 (fun u hu hm => ?_) (fun u hu => hv u (List.mem_cons_of_mem _ hu)) (fun u hu => hx u (List.mem_cons_of_mem _ hu))
      rcases List.mem_append.mp hm with hm | hm
      · exact hs u (List.mem_cons_of_mem _ hu) hm
      · exact hnd.1 (List.mem_map.mpr ⟨u, hu, by simpa using hm⟩)
theorem rule_good {nv : Int} (h0 : 0 ≤ nv) (h1 : nv ≤ 6) {r : Rl} (h : RuleOk nv r) : Ev (fun k => model_rule.f k r.f0 r.f1 nv) 0 := by
  have := h.len
  refine Ev.congr (f := fun k => (model_kind.f k r.f0 nv true).bind fun e => if e = 0 then model_rule.go k nv r.f1 [] else some e) (fun k => ?_) (Ev.bind (kind_good h0 h1 h.g) ?_)
  · unfold model_rule.f
    rw [if_neg (by omega)]
    simp only [if_pos (show nv ≤ 1000000 by omega)]
  · simp only [if_true]
    exact sets_good h0 h1 _ _ h.nd (fun _ _ => by simp) h.vr h.vl
structure ModelOk (vs : List Vr) (rs : List Rl) : Prop where
  v : VarsOk vs
  len : rs.length ≤ 12
  r : ∀ r ∈ rs, RuleOk vs.length r
theorem nv_rng {vs : List Vr} {rs : List Rl} (h : ModelOk vs rs) : (0 : Int) ≤ (vs.length : Int) ∧ (vs.length : Int) ≤ 6 := by
  have := h.v.len
  omega
theorem rdV {l : List Vr} {i : Nat} (h : i < l.length) : rd_T77 l (i : Int) = l[i] := by simp [rd_T77, h]
theorem rdR {l : List Rl} {i : Nat} (h : i < l.length) : rd_T118 l (i : Int) = l[i] := by simp [rd_T118, h]
theorem rdS {l : List St} {i : Nat} (h : i < l.length) : rd_T121 l (i : Int) = l[i] := by simp [rd_T121, h]
theorem rules_loop (vs : List Vr) (rs : List Rl) (hl : rs.length ≤ 100) (e : Int) (he : ∀ (i : Nat) (hi : i < rs.length), ∃ x, Ev (fun k => model_rule.f k rs[i].f0 rs[i].f1 (vs.length : Int)) x ∧ (x = 0 ∨ (x = e ∧ ∀ j : Nat, j < i → ∀ hj : j < rs.length, Ev (fun k => model_rule.f k rs[j].f0 rs[j].f1 (vs.length : Int)) 0)))
    (hend : (∀ (i : Nat) (hi : i < rs.length), Ev (fun k => model_rule.f k rs[i].f0 rs[i].f1 (vs.length : Int)) 0) → e = 0) : Ev (fun k => model_Check.l0 k rs (rs.length : Int) 0 vs rs) e := by
  have key : ∀ (d i : Nat), i + d = rs.length → (∀ j : Nat, j < i → ∀ hj : j < rs.length, Ev (fun k => model_rule.f k rs[j].f0 rs[j].f1 (vs.length : Int)) 0) → Ev (fun k => model_Check.l0 k rs (rs.length : Int) (i : Int) vs rs) e := by
    intro d
    induction d with
    | zero =>
      intro i hi hb
      obtain rfl := hend (fun j hj => hb j (by omega) hj)
      refine Ev.step (f := fun _ => some 0) (fun k => ?_) (Ev.now _)
      rw [model_Check.l0, if_neg (by omega)]
    | succ d ih =>
      intro i hi hb
      have hil : i < rs.length := by omega
      obtain ⟨x, hx, hx2⟩ := he i hil
      refine Ev.step (f := fun k => (model_rule.f k rs[i].f0 rs[i].f1 (vs.length : Int)).bind fun t => if t = 0 then model_Check.l0 k rs (rs.length : Int) ((i + 1 : Nat) : Int) vs rs else some t) (fun k => ?_) (Ev.bind hx ?_)
      · rw [model_Check.l0, if_pos (by omega), if_pos (by omega), if_pos (by omega), rdR hil, w64 (n := (i : Int) + 1) (by omega) (by omega)]
        rfl
      · by_cases c : x = 0
        · subst c
          simp only [if_true]
          refine ih (i + 1) (by omega) (fun j hj hjl => ?_)
          by_cases e : j = i
          · subst e; exact hx
          · exact hb j (by omega) hjl
        · simp only [if_neg c]
          rcases hx2 with h | ⟨rfl, _⟩
          · exact absurd h c
          · exact Ev.now _
  exact key rs.length 0 (Nat.zero_add _) (fun j hj => absurd hj (by omega))
theorem check_vars {vs : List Vr} {rs : List Rl} (hv : VarsOk vs) (hl : rs.length ≤ 12) {e : Int} (h : Ev (fun k => model_Check.l0 k rs (rs.length : Int) 0 vs rs) e) : Ev (fun k => model_Check.f k vs rs) e := by
  refine Ev.bind (a := 0) (Ev.congr (fun k => (vars_iff k vs).mpr hv) (Ev.now _)) ?_
  simp only [if_true, if_neg (show ¬ (12 < (rs.length : Int)) by omega)]
  exact h
theorem model_good {vs : List Vr} {rs : List Rl} (h : ModelOk vs rs) : Ev (fun k => model_Check.f k vs rs) 0 := by
  obtain ⟨n0, n1⟩ := nv_rng h
  have hl := h.len
  refine check_vars h.v hl (rules_loop vs rs (by omega) 0 (fun i hi => ⟨0, rule_good n0 n1 (h.r _ (List.getElem_mem hi)), .inl rfl⟩) (fun _ => rfl))
theorem spn_w {v : Vr} (h : -1000 ≤ v.f1 ∧ v.f2 ≤ 1000) (h2 : v.f1 ≤ v.f2) : wrap64 (wrap64 (v.f2 - v.f1) + 1) = spn v ∧ 1 ≤ spn v ∧ spn v ≤ 2001 := by
  unfold spn
  rw [w64 (n := v.f2 - v.f1) (by omega) (by omega), w64 (n := v.f2 - v.f1 + 1) (by omega) (by omega)]
  omega
theorem take_snoc' {l : List Vr} {i : Nat} (h : i < l.length) : l.take (i + 1) = l.take i ++ [l[i]] := by
  rw [List.take_add_one, List.getElem?_eq_getElem h]
  rfl
theorem cnt_take {l : List Vr} {i : Nat} (h : i < l.length) : cnt (l.take (i + 1)) = cnt (l.take i) * spn l[i] := by
  rw [take_snoc' h, cnt_append]
  simp [cnt]
theorem cnt_take_rng {l : List Vr} (hv : VarsOk l) (i : Nat) : 1 ≤ cnt (l.take i) ∧ cnt (l.take i) ≤ 4096 := by
  have h1 := cnt_pos (l := l.take i) (fun u hu => hv.le u (List.mem_of_mem_take hu))
  have h2 := cnt_le (a := l.take i) (b := l.drop i) (by rw [List.take_append_drop]; exact hv.le)
  rw [List.take_append_drop] at h2
  have := hv.st
  omega
theorem count_loop {l : List Vr} (hv : VarsOk l) : ∀ (d i : Nat), i + d = l.length → Ev (fun k => model_Count.l0 k (cnt (l.take i)) l (l.length : Int) (i : Int)) (cnt l, 0) := by
  have hl := hv.len
  intro d
  induction d with
  | zero =>
    intro i hi
    refine Ev.step (f := fun _ => some (cnt l, 0)) (fun k => ?_) (Ev.now _)
    rw [model_Count.l0, if_neg (by omega), List.take_of_length_le (by omega)]
  | succ d ih =>
    intro i hi
    have hil : i < l.length := by omega
    obtain ⟨e1, e2, e3⟩ := spn_w (hv.bd _ (List.getElem_mem hil)) (hv.le _ (List.getElem_mem hil))
    have c1 := cnt_take_rng hv (i + 1)
    rw [cnt_take hil] at c1
    refine Ev.step (f := fun k => model_Count.l0 k (cnt (l.take (i + 1))) l (l.length : Int) ((i + 1 : Nat) : Int)) (fun k => ?_) (ih (i + 1) (by omega))
    rw [model_Count.l0, if_pos (by omega), if_pos (by omega), if_pos (by omega), rdV hil, e1, w64 (n := cnt (l.take i) * spn l[i]) (by omega) (by omega), w64 (n := (i : Int) + 1) (by omega) (by omega), cnt_take hil]
    rfl
theorem count_is {vs : List Vr} {rs : List Rl} (h : ModelOk vs rs) : Ev (fun k => model_Count.f k vs rs) (cnt vs, 0) := by
  refine Ev.bind (model_good h) ?_
  simp only [if_true]
  exact count_loop h.v vs.length 0 (Nat.zero_add _)
theorem code_loop {l : List Vr} (hv : VarsOk l) {xs : List Int} (hx : xs.length = l.length) {r : Int × Int} (h1 : inS l xs → r = (codeS l xs, 0)) (hI : inS l xs) :
    ∀ (d i : Nat), i + d = l.length → inS (l.take i) (xs.take i) → Ev (fun k => model_Code.l0 k xs (codeS (l.take i) (xs.take i)) l (l.length : Int) (i : Int)) r := by
  have hl := hv.len
  intro d
  induction d with
  | zero =>
    intro i hi hin
    rw [List.take_of_length_le (by omega), List.take_of_length_le (by omega)] at hin ⊢
    refine Ev.step (f := fun _ => some r) (fun k => ?_) (Ev.now _)
    rw [model_Code.l0, if_neg (by omega), h1 hin]
  | succ d ih =>
    intro i hi hin
    have hil : i < l.length := by omega
    have hix : i < xs.length := by omega
    have hrd : rd xs (i : Int) = xs[i] := rd_eq hix
    have hbd := hv.bd _ (List.getElem_mem hil)
    have hle := hv.le _ (List.getElem_mem hil)
    obtain ⟨e1, e2, e3⟩ := spn_w hbd hle
    have htx : xs.take (i + 1) = xs.take i ++ [xs[i]] := by rw [List.take_add_one, List.getElem?_eq_getElem hix]; rfl
    have hget := inR_get hI i _ _ (List.getElem?_eq_getElem hil) (List.getElem?_eq_getElem hix)
    have c1 : ¬ xs[i] < l[i].f1 := by omega
    have c2 : ¬ xs[i] > l[i].f2 := by omega
    have hin3 : inS (l.take (i + 1)) (xs.take (i + 1)) := by
      rw [take_snoc' hil, htx]
      exact inR_snoc hin (by omega) (by omega)
    have hc := codeS_rng (fun u hu => hv.le u (List.mem_of_mem_take hu)) hin
    have hc3 := codeS_rng (fun u hu => hv.le u (List.mem_of_mem_take hu)) hin3
    have ec : codeS (l.take (i + 1)) (xs.take (i + 1)) = codeS (l.take i) (xs.take i) * spn l[i] + (xs[i] - l[i].f1) := by rw [take_snoc' hil, htx, codeS_snoc]
    have c4 := cnt_take_rng hv (i + 1)
    rw [ec] at hc3
    have hm : 0 ≤ codeS (l.take i) (xs.take i) * spn l[i] := Int.mul_nonneg hc.1 (by omega)
    refine Ev.step (f := fun k => model_Code.l0 k xs (codeS (l.take (i + 1)) (xs.take (i + 1))) l (l.length : Int) ((i + 1 : Nat) : Int)) (fun k => ?_) (ih (i + 1) (by omega) hin3)
    rw [model_Code.l0, if_pos (by omega), if_pos (by omega), if_pos (by omega), if_pos (by omega), hrd, rdV hil, if_neg c1, if_neg c2, e1, w64 (n := codeS (l.take i) (xs.take i) * spn l[i]) (by omega) (by omega), w64 (n := codeS (l.take i) (xs.take i) * spn l[i] + xs[i]) (by omega) (by omega),
      w64 (n := codeS (l.take i) (xs.take i) * spn l[i] + xs[i] - l[i].f1) (by omega) (by omega), w64 (n := (i : Int) + 1) (by omega) (by omega), ec, Int.add_sub_assoc]
    rfl
theorem code_from {vs : List Vr} {rs : List Rl} (h : ModelOk vs rs) {xs : List Int} {r : Int × Int} (h1 : inS vs xs → r = (codeS vs xs, 0)) (hI : inS vs xs) : Ev (fun k => model_Code.f k vs rs xs) r := by
  refine Ev.bind (model_good h) ?_
  simp only [if_true]
  simp only [if_pos (show (xs.length : Int) = (vs.length : Int) by have := inR_len hI; omega)]
  exact code_loop h.v (by have := inR_len hI; omega) h1 hI vs.length 0 (Nat.zero_add _) trivial
theorem code_is {vs : List Vr} {rs : List Rl} (h : ModelOk vs rs) {xs : List Int} (hx : inS vs xs) : Ev (fun k => model_Code.f k vs rs xs) (codeS vs xs, 0) :=
  code_from h (fun _ => rfl) hx
theorem valS_snoc (l : List Vr) (v : Vr) (c : Int) : valS (l ++ [v]) c = valS l (c / spn v) ++ [v.f1 + c % spn v] := by simp [valS, valR]
theorem values_loop {l : List Vr} (hv : VarsOk l) (rs : List Rl) : ∀ (i : Nat) (c : Int) (ys : List Int), i + ys.length = l.length → 0 ≤ c → c ≤ 4096 → Ev (fun k => model_Values.l0 k c (List.replicate i 0 ++ ys) ((i : Int) - 1) l rs) (valS (l.take i) c ++ ys, 0) := by
  have hl := hv.len
  intro i
  induction i with
  | zero =>
    intro c ys _ _ _
    refine Ev.step (f := fun _ => some (ys, 0)) (fun k => ?_) (Ev.now _)
    rw [model_Values.l0, if_neg (by omega)]
    simp
  | succ i ih =>
    intro c ys hy h0 h1
    have hil : i < l.length := by omega
    have hbd := hv.bd _ (List.getElem_mem hil)
    have hle := hv.le _ (List.getElem_mem hil)
    obtain ⟨e1, e2, e3⟩ := spn_w hbd hle
    have hd0 : 0 ≤ c / spn l[i] := Int.ediv_nonneg h0 (by omega)
    have hd1 : c / spn l[i] ≤ c := Int.ediv_le_self _ h0
    have hm0 := Int.emod_nonneg c (show spn l[i] ≠ 0 by omega)
    have hm1 := Int.emod_lt_of_pos c (show 0 < spn l[i] by omega)
    have := ih (c / spn l[i]) ((l[i].f1 + c % spn l[i]) :: ys) (by rw [List.length_cons]; omega) hd0 (by omega)
    rw [show valS (l.take (i + 1)) c ++ ys = valS (l.take i) (c / spn l[i]) ++ ((l[i].f1 + c % spn l[i]) :: ys) by rw [take_snoc' hil, valS_snoc]; simp]
    refine Ev.step (f := fun k => model_Values.l0 k (c / spn l[i]) (List.replicate i 0 ++ ((l[i].f1 + c % spn l[i]) :: ys)) ((i : Int) - 1) l rs) (fun k => ?_) this
    have hi1 : ((i + 1 : Nat) : Int) - 1 = (i : Int) := by omega
    have hset : (List.replicate (i + 1) (0 : Int) ++ ys).set i (l[i].f1 + c % spn l[i]) = List.replicate i 0 ++ ((l[i].f1 + c % spn l[i]) :: ys) := by
      rw [List.replicate_succ', List.append_assoc, List.set_append_right _ _ (by simp)]
      simp
    rw [model_Values.l0, hi1, if_pos (by omega), if_pos (by omega), if_pos (by omega), rdV hil, e1, if_neg (by omega), if_pos (by simp; omega), Int.tdiv_eq_ediv_of_nonneg h0, Int.tmod_eq_emod_of_nonneg h0, w64 (n := c / spn l[i]) (by omega) (by omega), w64 (n := l[i].f1 + c % spn l[i]) (by omega) (by omega),
      w64 (n := (i : Int) - 1) (by omega) (by omega), Int.toNat_natCast, hset]
theorem values_is {vs : List Vr} {rs : List Rl} (h : ModelOk vs rs) {c : Int} (h0 : 0 ≤ c) (h1 : c < cnt vs) : Ev (fun k => model_Values.f k vs rs c) (valS vs c, 0) := by
  have hl := h.v.len
  have hs := h.v.st
  refine Ev.bind (count_is h) ?_
  simp only [if_true, if_neg (show ¬ c < 0 by omega)]
  refine Ev.step (f := fun k => model_Values.l0 k c (List.replicate vs.length 0 ++ []) ((vs.length : Int) - 1) vs rs) (fun k => ?_) ?_
  · rw [model_Values.j0, if_neg (by simp; omega), if_pos (by omega), if_pos (by omega), w64 (n := (vs.length : Int) - 1) (by omega) (by omega), Int.toNat_natCast, List.append_nil]
  · have := values_loop h.v rs vs.length c [] (by simp) h0 (by omega)
    rw [List.take_of_length_le (Nat.le_refl _)] at this
    simp only [List.append_nil] at this ⊢
    exact this
def lim (n : Int) : Option Int := if mach_over n then none else some n
def Tm.val (env : List Int) : Tm → Option Int
  | .leaf o => lim (if o.f0 = 1 then o.f1 else if o.f0 = 2 then rd env o.f1 else if o.f0 = 11 then 1 else 0)
  | .un _ a => (a.val env).bind fun y => lim (wrap64 (1 - y))
  | .bin o a b => (b.val env).bind fun y => (a.val env).bind fun x => lim (mach_bin o.f0 x y)
theorem run_op {env : List Int} {o : Op} {os : List Op} {st ys : List Int} {n : Int} (hv : mach_val env o st = some (n, ys)) (hl : ys.length < 8796093022208) :
    expr_Eval.run env (o :: os) st = (lim n).elim (some (0, 8)) (fun m => expr_Eval.run env os (m :: ys)) := by
  rw [expr_Eval.run, hv, Option.bind_some]
  simp only [if_pos hl]
  unfold lim
  by_cases c : mach_over n
  · rw [if_pos c, if_pos c]; rfl
  · rw [if_neg c, if_neg c]; rfl
theorem run_tm {vars : Int} {env : List Int} (hlen : (env.length : Int) = vars) {b : Bool} {t : Tm} (h : Ty vars b t) : ∀ (os : List Op) (st : List Int), st.length + t.size ≤ 100000 →
    expr_Eval.run env (t.flat.reverse ++ os) st = (t.val env).elim (some (0, 8)) (fun n => expr_Eval.run env os (n :: st)) := by
  have hbin : ∀ (o : Int) (x y : Tm), 3 ≤ o → o ≤ 9 → (∀ (os : List Op) (st : List Int), st.length + x.size ≤ 100000 → expr_Eval.run env (x.flat.reverse ++ os) st = (x.val env).elim (some (0, 8)) (fun n => expr_Eval.run env os (n :: st))) →
      (∀ (os : List Op) (st : List Int), st.length + y.size ≤ 100000 → expr_Eval.run env (y.flat.reverse ++ os) st = (y.val env).elim (some (0, 8)) (fun n => expr_Eval.run env os (n :: st))) →
      ∀ (os : List Op) (st : List Int), st.length + (Tm.bin ⟨o, 0⟩ x y).size ≤ 100000 → expr_Eval.run env ((Tm.bin ⟨o, 0⟩ x y).flat.reverse ++ os) st = ((Tm.bin ⟨o, 0⟩ x y).val env).elim (some (0, 8)) (fun n => expr_Eval.run env os (n :: st)) := by
    intro o x y h0 h1 ihx ihy os st hl
    simp only [Tm.size] at hl
    have sx := x.size_pos
    have e : (Tm.bin ⟨o, 0⟩ x y).flat.reverse ++ os = y.flat.reverse ++ (x.flat.reverse ++ (⟨o, 0⟩ :: os)) := by simp [Tm.flat]
    rw [e, ihy _ _ (by omega)]
    simp only [Tm.val]
    cases hy : y.val env with
    | none => rfl
    | some vy =>
      simp only [Option.elim_some, Option.bind_some]
      rw [ihx _ _ (by rw [List.length_cons]; omega)]
      cases hx : x.val env with
      | none => rfl
      | some vx =>
        simp only [Option.elim_some, Option.bind_some]
        refine run_op ?_ (by omega)
        unfold mach_val
        simp only
        rw [if_neg (by omega), if_neg (by omega), if_neg (by omega), if_neg (by omega), if_neg (by omega), if_pos ⟨h0, h1⟩]
  induction h with
  | num v h0 h1 =>
    intro os st hl
    simp only [Tm.size] at hl
    exact run_op (by unfold mach_val; rfl) (by omega)
  | var v h0 h1 =>
    intro os st hl
    simp only [Tm.size] at hl
    have hm : mach_val env ⟨2, v⟩ st = some (rd env v, st) := by
      have h' : 0 ≤ v ∧ v < (env.length : Int) := ⟨h0, by omega⟩
      simp [mach_val, h']
    exact run_op hm (by omega)
  | yes o h =>
    intro os st hl
    simp only [Tm.size] at hl
    rcases h with rfl | rfl <;> exact run_op (by unfold mach_val; rfl) (by omega)
  | arith o x y h _ _ ihx ihy => exact hbin o x y (by omega) (by omega) ihx ihy
  | cmp o x y h _ _ ihx ihy => exact hbin o x y (by omega) (by omega) ihx ihy
  | log o x y h _ _ ihx ihy => exact hbin o x y (by omega) (by omega) ihx ihy
  | not x _ ih =>
    intro os st hl
    simp only [Tm.size] at hl
    have e : (Tm.un ⟨10, 0⟩ x).flat.reverse ++ os = x.flat.reverse ++ (⟨10, 0⟩ :: os) := by simp [Tm.flat]
    rw [e, ih _ _ (by omega)]
    simp only [Tm.val]
    cases hx : x.val env with
    | none => rfl
    | some vx =>
      simp only [Option.elim_some, Option.bind_some]
      exact run_op (by unfold mach_val; rfl) (by omega)
def res (v : Option Int) : Int × Int := v.elim (0, 8) (fun n => (n, 0))
theorem eval_is {vars : Int} (hv1 : vars ≤ 6) {env : List Int} (hlen : (env.length : Int) = vars) (he : ∀ v ∈ env, -1000000 ≤ v ∧ v ≤ 1000000) {b : Bool} {t : Tm} (h : Ty vars b t) (hs : t.size ≤ 60) :
    Ev (fun k => expr_Eval.f k t.flat env) (res (t.val env)) := by
  unfold expr_Eval.f
  rw [hlen]
  refine Ev.bind (check_good (by omega) hv1 h hs) ?_
  simp only [if_true, if_pos he]
  have hr := run_tm hlen h [] [] (by rw [List.length_nil]; omega)
  rw [List.append_nil] at hr
  rw [hr]
  cases t.val env with
  | none => exact Ev.now _
  | some n => exact Ev.now _
theorem w10 : wrap64 (1 - 0) = 1 := w64 (n := 1) (by decide) (by decide)
theorem w11 : wrap64 (1 - 1) = 0 := w64 (n := 0) (by decide) (by decide)
abbrev Pl := S124
abbrev wfI (n : Int) : Prop := (Lit.int .i64 n).wf = true
abbrev PlanWf (y : Pl) : Prop := (y.f0.length ≤ maxLen ∧ rawWf y.f0) ∧ wfI y.f1 ∧ (y.f2.length ≤ maxLen ∧ rawWf y.f2) ∧ True
abbrev DesignWf (a b c d e f : Int) (l : List Pl) : Prop := (wfI a ∧ wfI b) ∧ (wfI c ∧ wfI d) ∧ (wfI e ∧ wfI f) ∧ (l.length ≤ maxLen ∧ ∀ y ∈ l, PlanWf y)
theorem own_var (nm : ByteArray) {lo sp ini : Int} (h1 : wfI lo) (h2 : wfI sp) (h3 : wfI ini) : ∃ v, foretellkeep_Model.var nm lo sp ini = some v ∧ OwnVar nm v := by
  have p0 := pk_lo lo (m := 3) (by decide)
  have p1 := pk_hi lo (m := 3) (by decide)
  have q0 := pk_lo sp (m := 4) (by decide)
  have q1 := pk_hi sp (m := 4) (by decide)
  have hm : 0 < pk lo 3 - 1 + pk sp 4 - (pk lo 3 - 1) + 1 := by omega
  have r0 := pk_lo ini hm
  have r1 := pk_hi ini hm
  refine ⟨⟨nm, pk lo 3 - 1, pk lo 3 - 1 + pk sp 4, pk lo 3 - 1 + pk ini (pk lo 3 - 1 + pk sp 4 - (pk lo 3 - 1) + 1)⟩, ?_, ⟨rfl, ⟨?_, ?_⟩, ⟨?_, ?_⟩, ?_, ?_⟩⟩
  · unfold foretellkeep_Model.var
    rw [picked_is h1 (by decide), Option.bind_some, picked_is h2 (by decide), Option.bind_some, picked_is h3 hm, Option.bind_some, if_pos p0, if_pos (by omega), if_pos q0, if_pos (by omega), if_pos r0, if_pos (by omega)]
  all_goals simp only
  all_goals omega
theorem own_rule {p : Pl} (h : PlanWf p) : ∃ r, Ev (fun k => foretellkeep_Model.rule k p) r ∧ RuleOk 2 r := by
  obtain ⟨⟨_, h1⟩, h2, ⟨_, h3⟩, _⟩ := h
  obtain ⟨t, ht, hs, he⟩ := truth_is h1 2 (by decide)
  obtain ⟨x, hx, hxs, hxe⟩ := number_is h3 2 (by decide)
  have v0 := pk_lo p.f1 (m := 2) (by decide)
  have v1 := pk_hi p.f1 (m := 2) (by decide)
  refine ⟨⟨t.flat, if p.f3 = true then [⟨pk p.f1 2, x.flat⟩, ⟨1 - pk p.f1 2, [⟨2, pk p.f1 2⟩]⟩] else [⟨pk p.f1 2, x.flat⟩]⟩, ?_, ?_⟩
  · unfold foretellkeep_Model.rule
    refine Ev.bind he (Ev.bind (a := pk p.f1 2) (Ev.congr (fun _ => picked_is h2 (by decide)) (Ev.now _)) (Ev.bind hxe ?_))
    simp only [if_pos v0, if_pos (show pk p.f1 2 ≤ 10 by omega)]
    exact Ev.now _
  · have e1 : ExOk 2 false x.flat := ⟨x, rfl, hx.ty, by omega⟩
    have e2 : ExOk 2 false [⟨2, pk p.f1 2⟩] := ⟨.leaf ⟨2, pk p.f1 2⟩, rfl, .var _ v0 v1, by simp [Tm.size]⟩
    refine ⟨?_, ⟨t, rfl, ht.ty, by omega⟩, ?_, ?_, ?_⟩ <;> simp only <;> split
    · simp
    · simp
    · simp only [List.map_cons, List.map_nil, List.nodup_cons, List.mem_singleton]
      exact ⟨by omega, by simp, List.nodup_nil⟩
    · simp
    · intro s hs
      simp only [List.mem_cons, List.not_mem_nil, or_false] at hs
      rcases hs with rfl | rfl <;> simp only <;> omega
    · intro s hs
      obtain rfl := List.mem_singleton.mp hs
      exact ⟨v0, v1⟩
    · intro s hs
      simp only [List.mem_cons, List.not_mem_nil, or_false] at hs
      rcases hs with rfl | rfl
      · exact e1
      · exact e2
    · intro s hs
      obtain rfl := List.mem_singleton.mp hs
      exact e1
theorem own_rules : ∀ (l : List Pl), (∀ p ∈ l, PlanWf p) → ∃ rs, Ev (fun k => foretellkeep_Model.rules k l) rs ∧ rs.length = l.length ∧ ∀ r ∈ rs, RuleOk 2 r
  | [], _ => ⟨[], Ev.congr (fun k => by unfold foretellkeep_Model.rules; rfl) (Ev.now _), rfl, fun _ h => by simp at h⟩
  | p :: l, h => by
    obtain ⟨r, hr, hr2⟩ := own_rule (h p List.mem_cons_self)
    obtain ⟨rs, hrs, hl, hrs2⟩ := own_rules l (fun q hq => h q (List.mem_cons_of_mem _ hq))
    refine ⟨r :: rs, Ev.congr (fun k => by rw [foretellkeep_Model.rules]) (Ev.bind hr (Ev.bind hrs (Ev.now (r :: rs)))), by simp [hl], ?_⟩
    intro q hq
    rcases List.mem_cons.mp hq with rfl | hq
    · exact hr2
    · exact hrs2 q hq
theorem nx_ok : model_name.ok foretellkeep_Model.nx = true := by decide +kernel
theorem ny_ok : model_name.ok foretellkeep_Model.ny = true := by decide +kernel
theorem own_vars {x y : Vr} (hx : OwnVar foretellkeep_Model.nx x) (hy : OwnVar foretellkeep_Model.ny y) : VarsOk [x, y] := by
  have s1 := hx.spn
  have s2 := hy.spn
  refine ⟨by simp, ?_, ?_, ?_, ?_, ?_⟩
  · intro v hv
    simp only [List.mem_cons, List.not_mem_nil, or_false] at hv
    rcases hv with rfl | rfl
    · rw [hx.name]; exact nx_ok
    · rw [hy.name]; exact ny_ok
  · rw [List.map_cons, List.map_cons, List.map_nil, hx.name, hy.name]
    decide +kernel
  · intro v hv
    simp only [List.mem_cons, List.not_mem_nil, or_false] at hv
    rcases hv with rfl | rfl
    · exact hx.rng
    · exact hy.rng
  · intro v hv
    simp only [List.mem_cons, List.not_mem_nil, or_false] at hv
    rcases hv with rfl | rfl
    · have := hx.hi; omega
    · have := hy.hi; omega
  · simp only [cnt, Int.one_mul]
    have : spn y * spn x ≤ 4 * 4 := Int.le_trans (Int.mul_le_mul_of_nonneg_right s2.2 (by omega)) (Int.mul_le_mul_of_nonneg_left s1.2 (by decide))
    omega
structure Own (vs : List Vr) (rs : List Rl) : Prop where
  m : ModelOk vs rs
  two : ∃ x y, vs = [x, y] ∧ OwnVar foretellkeep_Model.nx x ∧ OwnVar foretellkeep_Model.ny y
  few : rs.length ≤ 5
theorem Own.len {vs : List Vr} {rs : List Rl} (h : Own vs rs) : vs.length = 2 := by
  obtain ⟨x, y, rfl, _, _⟩ := h.two
  rfl
theorem Own.cnt {vs : List Vr} {rs : List Rl} (h : Own vs rs) : 1 ≤ cnt vs ∧ cnt vs ≤ 4096 :=
  ⟨cnt_pos h.m.v.le, h.m.v.st⟩
theorem own_model {a b c d e f : Int} {l : List Pl} (h : DesignWf a b c d e f l) : ∃ vs rs, Ev (fun k => foretellkeep_Model.f k a b c d e f l) (vs, rs) ∧ Own vs rs := by
  obtain ⟨⟨ha, hb⟩, ⟨hc, hd⟩, ⟨he, hf⟩, _, hl⟩ := h
  obtain ⟨x, hx, ox⟩ := own_var foretellkeep_Model.nx hc ha he
  obtain ⟨y, hy, oy⟩ := own_var foretellkeep_Model.ny hd hb hf
  obtain ⟨rs, hrs, hlen, hrs2⟩ := own_rules (l.take 5) (fun p hp => hl p (List.mem_of_mem_take hp))
  have h5 : rs.length ≤ 5 := by rw [hlen, List.length_take]; omega
  refine ⟨[x, y], rs, ?_, ⟨own_vars ox oy, by omega, hrs2⟩, ⟨x, y, rfl, ox, oy⟩, h5⟩
  unfold foretellkeep_Model.f
  refine Ev.bind (a := x) (Ev.congr (fun _ => hx) (Ev.now _)) (Ev.bind (a := y) (Ev.congr (fun _ => hy) (Ev.now _)) (Ev.bind hrs (Ev.now _)))
theorem pick_code {vs : List Vr} {rs : List Rl} (h : Own vs rs) {a : Int} (ha : wfI a) : Ev (fun _ => foretellkeep_picked.f a (Q.cnt vs)) (pk a (Q.cnt vs)) ∧ 0 ≤ pk a (Q.cnt vs) ∧ pk a (Q.cnt vs) < Q.cnt vs := by
  have hc := h.cnt.1
  exact ⟨Ev.congr (fun _ => picked_is ha (by omega)) (Ev.now _), pk_lo a (by omega), pk_hi a (by omega)⟩
end Go.Proofs.YtbokbbcoekeoaaaDoor.Q
end
