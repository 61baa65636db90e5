-- PACKED by pack.py of this repo: FSccReached
import Derived.WalkSpells
import Derived.Test.YtpkigkmkolbiiaaK2
import Derived.Test.YtpkigkmkolbiiaaK5
section
namespace Go.Proofs.Ytpkigkmkolbiiaa.P
open Go.RowKit Go.Proofs.YtpkigkmkolbiiaaW.PrintWords Go.Proofs.YtpkigkmkolbiiaaW.PrintLast Go.Proofs.YtpkigkmkolbiiaaW.PrintMore Go.Proofs.Ytpkigkmkolbiiaa.G
attribute [local go_sem] max2_int min2_int max_two min_two max_three min_three max_four min_four   -- for this text's walks alone
set_option linter.unusedVariables false
set_option linter.unusedSimpArgs false

/-! ### scc_Reached: function 10 -/
--IMPORT Derived.WalkSpells
/-- What the closure 'visit' makes of what was seen and what is to do. -/
def scc_Reached.vis (s : List Bool × List Int) (i : Int) : Option (List Bool × List Int) :=
  if 0 ≤ i then (if i < (s.1.length : Int) then (if rdOf false s.1 i = true then some s else (if s.2.length < 17592186044416 then some (s.1.set i.toNat true, s.2 ++ [i]) else none)) else none) else none
/-- What lies behind the two variables that the closure shares. -/
def scc_Reached.Vars (w0 w : World) (g5 g6 : Nat) (s : List Bool × List Int) : Prop :=
  ∃ v5 v6, w.heap[g5]? = some (.cells #[v5] 30 (0, 0)) ∧ w.heap[g6]? = some (.cells #[v6] 23 (0, 0)) ∧ Kd.R Kd.bool 4 w w0.heap.size (fun _ => True) v5 s.1 ∧ Kd.R (Kd.int .i64) 3 w w0.heap.size (fun _ => True) v6 s.2 ∧ Below w0.heap.size w0 w
theorem scc_Reached.Vars.put {w0 w : World} {g5 g6 : Nat} {seen : List Bool} {todo : List Int} {v5 v6 v6' : Value} (k5 : w.heap[g5]? = some (.cells #[v5] 30 (0, 0))) (k6 : w.heap[g6]? = some (.cells #[v6] 23 (0, 0))) (r5 : Kd.R Kd.bool 4 w w0.heap.size (fun _ => True) v5 seen) (r6 : Kd.R (Kd.int .i64) 3 w w0.heap.size (fun _ => True) v6' todo) (hb : Below w0.heap.size w0 w) (b6 : w0.heap.size ≤ g6) :
    scc_Reached.Vars w0 (w.setCell ⟨g6, 0, none⟩ v6') g5 g6 (seen, todo) :=
  ⟨v5, v6', blk_far (p := ⟨g6, 0, none⟩) k5 (blk_ne k5 k6 (by decide)) _, blk_put k6 0 _ rfl, Kd.R_set r5 k6 (by decide) _ _, Kd.R_set r6 k6 (by decide) _ _, hb.setCell b6 _⟩
set_option maxHeartbeats 8000000 in
set_option maxRecDepth 100000 in
theorem scc_Reached.visit (w0 w : World) (g5 g6 : Nat) (s r : List Bool × List Int) (i : Int) (b5 : w0.heap.size ≤ g5) (b6 : w0.heap.size ≤ g6) (hv : scc_Reached.Vars w0 w g5 g6 s) (h : scc_Reached.vis s i = some r) :
    Calls Try.prog 18 #[.int .i64 i, .pointer (some ⟨g5, 0, none⟩), .pointer (some ⟨g6, 0, none⟩)] w fun e w' => e = .returned (.tuple #[]) ∧ scc_Reached.Vars w0 w' g5 g6 r := by
  obtain ⟨v5, v6, k5, k6, r5, r6, hb⟩ := hv
  have BK5 := Aside0.mk k5
  have BK6 := Aside0.mk k6
  have R5 := Aside0.mk r5
  have R6 := Aside0.mk r6
  have HB := Aside0.mk hb
  have B5 := Aside0.mk b5
  have B6 := Aside0.mk b6
  have N56 : g5 ≠ g6 := blk_ne k5 k6 (by decide)
  have N65 : g6 ≠ g5 := N56.symm
  clear k5 k6 r5 r6 hb b5 b6
  unfold scc_Reached.vis at h
  by_cases c1 : 0 ≤ i
  · rw [if_pos c1] at h
    by_cases c2 : i < (s.1.length : Int)
    · rw [if_pos c2] at h
      obtain ⟨A5, cp5, rfl⟩ := Kd.R_slice R5.out
      obtain ⟨A6, cp6, rfl⟩ := Kd.R_slice R6.out
      obtain ⟨ad, e5, hx⟩ := Kd.at_bool (Kd.R_reads' R5.out).2.2 i c1 c2
      have c1' := eq_true c1
      have c2' := eq_true c2
      clear c1 c2
      cases e5
      have hcz5 : w.cell? ⟨g5, 0, none⟩ = some (.slice (some ad) s.1.length cp5) := (blk_cell BK5.out 0).trans rfl
      have hfz5 := blk_frozen BK5.out 0
      have hcz6 : w.cell? ⟨g6, 0, none⟩ = some (.slice A6 s.2.length cp6) := (blk_cell BK6.out 0).trans rfl
      have hfz6 := blk_frozen BK6.out 0
      by_cases c3 : rdOf false s.1 i = true
      · rw [if_pos c3] at h
        obtain rfl := Option.some.inj h
        go_enter Try.func18, Try.ntmps18
        go_wp2
        go_end0
        exact ⟨rfl, _, _, BK5.out, BK6.out, R5.out, R6.out, HB.out⟩
      · rw [if_neg c3] at h
        have c3' : rdOf false s.1 i = false := by simpa using c3
        clear c3
        by_cases c4 : s.2.length < 17592186044416
        · rw [if_pos c4] at h
          have LM := Aside0.mk c4
          clear c4
          obtain rfl := Option.some.inj h
          have info := (by kernel_rfl : (Try.prog.info? 3).map (fun i => (i.zero, i.size, i.bytes)) = some (some (.int .i64 0), 1, 8))
          obtain ⟨gs, cap5, he5, _, _, cgs, hgs⟩ := Kd.R_form R5.out (by have := of_eq_true c1'; have := of_eq_true c2'; omega)
          cases he5
          have HGS := Aside0.mk hgs
          have N5s : g5 ≠ gs := blk_ne BK5.out hgs (by decide)
          have N6s : g6 ≠ gs := blk_ne BK6.out hgs (by decide)
          have Ns5 := N5s.symm
          have Ns6 := N6s.symm
          obtain ⟨hcs, hfs⟩ := Kd.R_celln false R5.out i (of_eq_true c1') (of_eq_true c2')
          clear hgs
          rw [c3'] at hcs
          go_enter Try.func18, Try.ntmps18
          go_wp2_with (first | ((with_reducible refine gate_store (t := 4) (p := 11) (v := .const (.bool true)) rfl ?_); go_must (refine store_event (t := 4) (p := 11) (v := .const (.bool true)) (w1 := (w.setCell ⟨gs, i.toNat, none⟩ (.bool true))) ?hg ?ho ?hn ?hr ?_; (case ho => rfl); (case hg => rfl); (case hn => rfl); (case hr => first | (go_simp; done) | (go_simp; rfl)); intro w1 hw1; have n1 := Aside0.mk (show Kd.R Kd.bool 4 w1 w0.heap.size (fun _ => True) (.slice (some ⟨gs, 0, none⟩) s.1.length cp5) (s.1.set i.toNat true) by rw [hw1]; exact Kd.R_putn R5.out i true); have n2 := Aside0.mk (show Kd.R (Kd.int .i64) 3 w1 w0.heap.size (fun _ => True) (.slice A6 s.2.length cp6) s.2 by rw [hw1]; exact Kd.R_set R6.out HGS.out (by decide) _ _); have n3 := Aside0.mk (show w1.heap[g5]? = some (.cells #[.slice (some ⟨gs, 0, none⟩) s.1.length cp5] 30 (0, 0)) by rw [hw1]; exact blk_far (p := ⟨gs, i.toNat, none⟩) BK5.out N5s _); have n4 := Aside0.mk (show w1.heap[g6]? = some (.cells #[.slice A6 s.2.length cp6] 23 (0, 0)) by rw [hw1]; exact blk_far (p := ⟨gs, i.toNat, none⟩) BK6.out N6s _); have n5 := Aside0.mk (show Below w0.heap.size w0 w1 by rw [hw1]; exact HB.out.setCell (Kd.R_base R5.out gs rfl) _); clear hw1; have hcz6' : w1.cell? ⟨g6, 0, none⟩ = some (.slice A6 s.2.length cp6) := (blk_cell n4.out 0).trans rfl; have hfz6' := blk_frozen n4.out 0)) | ((with_reducible refine gate_builtin (b := .append) (xs := #[.tmp 12, .tmp 14]) rfl ?_); at_builtin; go_must (refine Kd.R_append (Kd.int .i64) (w0 := w0) w0.heap.size rfl (.tmp 12) (.tmp 14) 23 3 (.int .i64 0) 8 rfl Try.underlying23 info rfl (by decide) (by omega) (.slice A6 s.2.length cp6) s.2 i [.int .i64 i] (fun _ => True) (fun _ => False) rfl rfl ?aP (fun _ hk => hk.elim) ?aF ?aO ?aB ?aS ?aL ?_; (case aP => exact rfl); (case aF => exact fun _ _ => trivial); (case aO => exact n2.out); (case aB => exact n5.out); (case aS => exact below_size n5.out); (case aL => have := LM.out; omega); intro v1 w7 ho hb hg hat; obtain ⟨Av, cv, rfl⟩ := Kd.R_slice ho; replace ho : Kd.R (Kd.int .i64) 3 w7 w0.heap.size (fun _ => True) (.slice Av (s.2.length + 1) cv) (s.2 ++ [i]) := (by rw [List.length_append] at ho; exact ho); have hat' := hat; rw [List.length_append] at hat'; have m1 := Aside0.mk (Kd.R_over' n1.out (Kd.R_typed n2.out) (by decide) hg); have m2 := Aside0.mk ho; have m3 := Aside0.mk (blk_grown n3.out hg (Kd.R_ne n2.out n3.out (by decide))); have m4 := Aside0.mk (blk_grown n4.out hg (Kd.R_ne n2.out n4.out (by decide))); have m5 := Aside0.mk hb; clear ho hb hg hat; have hcz6'' : w7.cell? ⟨g6, 0, none⟩ = some (.slice A6 s.2.length cp6) := (blk_cell m4.out 0).trans rfl; have hfz6'' := blk_frozen m4.out 0)))
          go_end0
          refine ⟨rfl, _, _, blk_far (p := ⟨g6, 0, none⟩) m3.out N56 _, blk_put m4.out 0 _ rfl, Kd.R_set m1.out m4.out (by decide) _ _, Kd.R_set m2.out m4.out (by decide) _ _, m5.out.setCell B6.out _⟩
        · rw [if_neg c4] at h
          exact absurd h (by simp)
    · rw [if_neg c2] at h
      exact absurd h (by simp)
  · rw [if_neg c1] at h
    exact absurd h (by simp)
def scc_Reached.initL : Nat → Int → Int → List Bool × List Int → Option (List Bool × List Int)
  | 0, _, _, _ => none
  | k + 1, n, i, s => if i < n then ((scc_Reached.vis s i).bind fun s1 => scc_Reached.initL k n (wrap64 (i + 1)) s1) else some s
def scc_Reached.nextL : Nat → List Int → Int → List Bool × List Int → Option (List Bool × List Int)
  | 0, _, _, _ => none
  | k + 1, l, i, s => if i < (l.length : Int) then (if 0 ≤ i then ((scc_Reached.vis s (rd l i)).bind fun s1 => scc_Reached.nextL k l (wrap64 (i + 1)) s1) else none) else some s
def scc_Reached.mainL : Nat → Nat → List (List Int) → List Bool × List Int → Option (List Bool)
  | 0, _, _, _ => none
  | k + 1, m, g, s => match s.2.getLast? with
    | none => some s.1
    | some y => if 0 ≤ y then (if y < (g.length : Int) then ((scc_Reached.nextL m (g.getD y.toNat []) 0 (s.1, s.2.dropLast)).bind fun s1 => scc_Reached.mainL k m g s1) else none) else none
def scc_Reached.f (k : Nat) (l0_0 : List (S45)) (a0_1 : Int) (l0_2 : List (List Int)) (l0_3 : List Int) (a0_4 : Int) : Option (List Bool × Int) :=
  (scc_Check.f k l0_0 a0_1 l0_2 l0_3 a0_4).bind fun e => if e = 0 then (if l0_0.length ≤ 281474976710656 then ((scc_Reached.initL k a0_1 0 (List.replicate l0_0.length false, [])).bind fun s => (scc_Reached.mainL k k l0_2 s).bind fun r => some (r, 0)) else none) else some ([], e)
theorem scc_Reached.initL_mono : ∀ k n i s, LeO (scc_Reached.initL k n i s) (scc_Reached.initL (k + 1) n i s)
  | 0, _, _, _ => fun r h => by simp [scc_Reached.initL] at h
  | k + 1, n, i, s => by
    unfold scc_Reached.initL
    exact LeO.ite (LeO.bind (LeO.refl _) (fun _ => scc_Reached.initL_mono k _ _ _)) (LeO.refl _)
theorem scc_Reached.nextL_mono : ∀ k l i s, LeO (scc_Reached.nextL k l i s) (scc_Reached.nextL (k + 1) l i s)
  | 0, _, _, _ => fun r h => by simp [scc_Reached.nextL] at h
  | k + 1, l, i, s => by
    unfold scc_Reached.nextL
    exact LeO.ite (LeO.ite (LeO.bind (LeO.refl _) (fun _ => scc_Reached.nextL_mono k _ _ _)) (LeO.none _)) (LeO.refl _)
theorem scc_Reached.mainL_mono : ∀ k m g s, LeO (scc_Reached.mainL k m g s) (scc_Reached.mainL (k + 1) (m + 1) g s)
  | 0, _, _, _ => fun r h => by simp [scc_Reached.mainL] at h
  | k + 1, m, g, s => by
    unfold scc_Reached.mainL
    cases s.2.getLast? with
    | none => exact LeO.refl _
    | some y => exact LeO.ite (LeO.ite (LeO.bind (scc_Reached.nextL_mono _ _ _ _) (fun _ => scc_Reached.mainL_mono k _ _ _)) (LeO.none _)) (LeO.none _)
theorem scc_Reached.mono : ∀ a0 a1 a2 a3 a4 k, LeO (scc_Reached.f k a0 a1 a2 a3 a4) (scc_Reached.f (k + 1) a0 a1 a2 a3 a4) := by
  intro a0 a1 a2 a3 a4 k
  unfold scc_Reached.f
  exact LeO.bind (scc_Check.mono _ _ _ _ _ _) (fun _ => LeO.ite (LeO.ite (LeO.bind (scc_Reached.initL_mono _ _ _ _) (fun _ => LeO.bind (scc_Reached.mainL_mono _ _ _ _) (fun _ => LeO.refl _))) (LeO.none _)) (LeO.refl _))
set_option maxHeartbeats 8000000 in
set_option maxRecDepth 100000 in
theorem scc_Reached.calls (k : Nat) (A0_0 : Option Addr) (c0_0 : Nat) (l0_0 : List (S45)) (a0_1 : Int) (A0_2 : Option Addr) (c0_2 : Nat) (l0_2 : List (List Int)) (A0_3 : Option Addr) (c0_3 : Nat) (l0_3 : List Int) (a0_4 : Int) (r1 : List Bool) (r2 : Int) (w : World) (hr0_0 : Kd.C k45 w A0_0 l0_0.length l0_0) (hc0_0 : l0_0.length ≤ c0_0) (hr0_2 : Kd.C (Kd.slice 3 (Kd.int .i64)) w A0_2 l0_2.length l0_2) (hc0_2 : l0_2.length ≤ c0_2) (hr0_3 : Kd.C (Kd.int .i64) w A0_3 l0_3.length l0_3) (hc0_3 : l0_3.length ≤ c0_3) (h : scc_Reached.f k l0_0 a0_1 l0_2 l0_3 a0_4 = some (r1, r2)) :
    Calls Try.prog 10 #[.agg #[.slice A0_0 l0_0.length c0_0, .int .i64 a0_1, .slice A0_2 l0_2.length c0_2, .slice A0_3 l0_3.length c0_3, .int .i64 a0_4]] w fun e w' => ∃ v0_ : Value, e = .returned (.tuple #[v0_, .int .i64 r2]) ∧ Kd.R Kd.bool 4 w' w.heap.size (fun _ => True) v0_ r1 ∧ Below w.heap.size w w' := by
  have info3 := (by kernel_rfl : (Try.prog.info? 3).map (fun i => (i.zero, i.size, i.bytes)) = some (some (.int .i64 0), 1, 8))
  have infob := (by kernel_rfl : (Try.prog.info? 4).map (fun i => (i.zero, i.size, i.bytes)) = some (some (.bool false), 1, 1))
  have hu28 := Try.underlying28
  unfold scc_Reached.f at h
  obtain ⟨e1, hC, h⟩ := Option.bind_eq_some_iff.mp h
  have HC := Aside0.mk hC
  have R0 := Aside0.mk hr0_0
  have L0 := Aside0.mk hc0_0
  have R2 := Aside0.mk hr0_2
  have L2 := Aside0.mk hc0_2
  have R3 := Aside0.mk hr0_3
  have L3 := Aside0.mk hc0_3
  clear hC hr0_0 hc0_0 hr0_2 hc0_2 hr0_3 hc0_3
  by_cases c0 : e1 = 0
  · rw [if_pos c0] at h
    subst c0
    by_cases cL : l0_0.length ≤ 281474976710656
    · rw [if_pos cL] at h
      have LIMa := Aside0.mk cL
      clear cL
      go_enter Try.func10, Try.ntmps10
      go_wp2_with (first | ((with_reducible refine gate_dst (N := 1) rfl ?_); go_must (refine box_event ?hg (N := 1) ?hd (cs := #[.slice A0_0 l0_0.length c0_0, .int .i64 a0_1, .slice A0_2 l0_2.length c0_2, .slice A0_3 l0_3.length c0_3, .int .i64 a0_4]) (t := 28) ?hr ?_; (case hd => rfl); (case hg => rfl); (case hr => first | (go_simp; done) | (go_simp; rfl)); intro g1 hg w1 hbox hb; have BK1 := Aside0.mk hbox; have HB := Aside0.mk hb; clear hb hbox hg; have hcz0 : w1.cell? ⟨g1, 0, none⟩ = some (.slice A0_0 l0_0.length c0_0) := (blk_cell BK1.out 0).trans rfl; have hcz1 : w1.cell? ⟨g1, 1, none⟩ = some (.int .i64 a0_1) := (blk_cell BK1.out 1).trans rfl; have hcz2 : w1.cell? ⟨g1, 2, none⟩ = some (.slice A0_2 l0_2.length c0_2) := (blk_cell BK1.out 2).trans rfl; have hcz3 : w1.cell? ⟨g1, 3, none⟩ = some (.slice A0_3 l0_3.length c0_3) := (blk_cell BK1.out 3).trans rfl; have hcz4 : w1.cell? ⟨g1, 4, none⟩ = some (.int .i64 a0_4) := (blk_cell BK1.out 4).trans rfl)) | (go_at_call 12; go_must (refine (scc_Check.calls k _ _ l0_0 a0_1 _ _ l0_2 _ _ l0_3 a0_4 0 _ (Kd.C_below R0.out HB.out) L0.out (Kd.C_below R2.out HB.out) L2.out (Kd.C_below R3.out HB.out) L3.out HC.out).mono ?_; rintro e w2 ⟨rfl, hb⟩; have HB2 := Aside0.mk (HB.out.trans (hb.mono (below_size HB.out))); have G2 := Aside0.mk (blk_below BK1.out hb); clear hb; have hd0 : w2.cell? ⟨g1, 0, none⟩ = some (.slice A0_0 l0_0.length c0_0) := (blk_cell G2.out 0).trans rfl)) | ((with_reducible refine gate_dst (N := 20) rfl ?_); go_must (refine Kd.R_make Kd.bool (w0 := w2) w2.heap.size 4 rfl (N := 20) rfl 30 _ _ rfl (l0_0.length : Int) rfl rfl Try.underlying30 (.bool false) 1 infob rfl (by decide) (by omega) false (ok := fun _ => True) (okp := fun _ => True) rfl (fun _ hk => hk) trivial (by omega) (by have := LIMa.out; omega) (Below.refl _ _) (Nat.le_refl _) ?_; intro v5 w3 ho hb hg hnew; obtain ⟨As, cs5, rfl⟩ := Kd.R_slice ho; rw [List.length_replicate, Int.toNat_natCast] at ho; have r5a := Aside0.mk ho; have HB3 := Aside0.mk hb; have G3 := Aside0.mk (blk_grown G2.out hg (by simp)); clear ho hb hg hnew)) | ((with_reducible refine gate_dst (N := 5) rfl ?_); go_must (refine box_event ?hg (N := 5) ?hd (cs := #[.slice none 0 0]) (t := 30) ?hr ?_; (case hd => rfl); (case hg => rfl); (case hr => first | (go_simp; done) | (go_simp; rfl)); intro g5 hg w4 hbox hb; have BK5 := Aside0.mk hbox; have r5b := Aside0.mk (Kd.R_below r5a.out hb); have HB4 := Aside0.mk (below_step HB3.out hb); have G4 := Aside0.mk (blk_below G3.out hb); have B5 := Aside0.mk (show w2.heap.size ≤ g5 by rw [hg]; exact below_size HB3.out); clear hb hbox hg; have hcz5 : w4.cell? ⟨g5, 0, none⟩ = some (.slice none 0 0) := (blk_cell BK5.out 0).trans rfl; have hfz5 := blk_frozen BK5.out 0)) | ((with_reducible refine gate_store (t := 30) (p := 5) (v := .tmp 20) rfl ?_); go_must (refine store_event (t := 30) (p := 5) (v := .tmp 20) (w1 := (w4.setCell ⟨g5, 0, none⟩ (.slice As l0_0.length cs5))) ?hg ?ho ?hn ?hr ?_; (case ho => rfl); (case hg => rfl); (case hn => rfl); (case hr => first | (go_simp; done) | (go_simp; rfl)); intro w5 hw; have BK5b := Aside0.mk (show w5.heap[g5]? = some (.cells #[.slice As l0_0.length cs5] 30 (0, 0)) by rw [hw]; exact blk_put BK5.out 0 _ rfl); have r5c := Aside0.mk (show Kd.R Kd.bool 4 w5 w2.heap.size (fun _ => True) (.slice As l0_0.length cs5) (List.replicate l0_0.length false) by rw [hw]; exact Kd.R_set r5b.out BK5.out (by decide) _ _); have HB5 := Aside0.mk (show Below w2.heap.size w2 w5 by rw [hw]; exact HB4.out.setCell B5.out _); clear hw)) | ((with_reducible refine gate_dst (N := 6) rfl ?_); go_must (refine box_event ?hg (N := 6) ?hd (cs := #[.slice none 0 0]) (t := 23) ?hr ?_; (case hd => rfl); (case hg => rfl); (case hr => first | (go_simp; done) | (go_simp; rfl)); intro g6 hg w6 hbox hb; have HV := Aside0.mk (show scc_Reached.Vars w2 w6 g5 g6 (List.replicate l0_0.length false, []) from ⟨_, _, blk_below BK5b.out hb, hbox, Kd.R_below r5c.out hb, Kd.R_nil _ _ _ _ _, below_step HB5.out hb⟩); have B6 := Aside0.mk (show w2.heap.size ≤ g6 by rw [hg]; exact below_size HB5.out); have hd1 : w6.cell? ⟨g1, 1, none⟩ = some (.int .i64 a0_1) := (blk_cell (blk_below G2.out (below_step HB5.out hb)) 1).trans rfl; clear hb hbox hg)))
      have H' := Aside0.mk h
      clear h
      go_loopg [24] k (fun kq v24 w' => ∃ (x24 : Int) (s : List Bool × List Int), v24 = .int .i64 x24 ∧ Aside0 (((scc_Reached.initL kq a0_1 x24 s).bind fun s => (scc_Reached.mainL k k l0_2 s).bind fun r => some (r, 0)) = some (r1, r2)) ∧ Aside0 (kq ≤ k) ∧ Aside0 (scc_Reached.Vars w2 w' g5 g6 s))
      case atStart => exact ⟨0, _, rfl, H', ⟨Nat.le_refl _⟩, HV⟩
      case round =>
        clear H' HV
        obtain ⟨x24, s, rfl, HA, HK, HV⟩ := hrel
        cases gk with
        | zero => exact absurd HA.out (by simp [scc_Reached.initL])
        | succ k1 =>
          have H := HA.out
          clear HA
          simp only [scc_Reached.initL] at H
          by_cases c2 : x24 < a0_1
          · rw [if_pos c2, Option.bind_assoc] at H
            have c2b0 : decide (x24 < a0_1) = true := decide_eq_true c2
            clear c2
            obtain ⟨s1, A5, H⟩ := Option.bind_eq_some_iff.mp H
            have A5 := Aside0.mk A5
            have H' := Aside0.mk H
            clear H
            go_wp2_with (go_at_call 18; go_must (refine (scc_Reached.visit w2 _ g5 g6 s s1 x24 B5.out B6.out HV.out A5.out).mono ?_; rintro e w8 ⟨rfl, hv⟩; have HV3 := Aside0.mk hv; clear hv))
            go_roundg k1
            case measure => have := HK.out; omega
            case rel => exact ⟨wrap64 (x24 + 1), s1, rfl, H', ⟨by have := HK.out; omega⟩, HV3⟩
          · rw [if_neg c2, Option.bind_some] at H
            have c2b0 : decide (x24 < a0_1) = false := decide_eq_false c2
            clear c2
            have H' := Aside0.mk H
            clear H
            go_wp2
            go_loopg [] k (fun kq w' => ∃ (s : List Bool × List Int), Aside0 (((scc_Reached.mainL kq k l0_2 s).bind fun r => some (r, 0)) = some (r1, r2)) ∧ Aside0 (kq ≤ k) ∧ Aside0 (scc_Reached.Vars w2 w' g5 g6 s))
            case atStart => exact ⟨s, H', ⟨Nat.le_refl _⟩, HV⟩
            case round =>
              clear H' HV HK s
              obtain ⟨s, HA, HK, HV⟩ := hrel
              cases gk with
              | zero => exact absurd HA.out (by simp [scc_Reached.mainL])
              | succ k2 =>
                obtain ⟨seen, todo⟩ := s
                obtain ⟨v5, v6, q5, q6, p5, p6, pb⟩ := HV.out
                have P5 := Aside0.mk p5
                have PB := Aside0.mk pb
                have Q5 := Aside0.mk q5
                have Q6 := Aside0.mk q6
                obtain ⟨A5, cp5, rfl⟩ := Kd.R_slice P5.out
                obtain ⟨A6, cp6, rfl⟩ := Kd.R_slice p6
                have H := HA.out
                clear HA q5 q6 p5 pb
                rcases snoc_cases todo with rfl | ⟨ys, y, rfl⟩
                · have P6 := Aside0.mk p6
                  clear p6
                  simp only [scc_Reached.mainL, List.getLast?_nil, Option.bind_some, Option.some.injEq, Prod.mk.injEq] at H
                  obtain ⟨rfl, rfl⟩ := H
                  have hc5 : wr.cell? ⟨g5, 0, none⟩ = some (.slice A5 seen.length cp5) := (blk_cell Q5.out 0).trans rfl
                  have hc6 : wr.cell? ⟨g6, 0, none⟩ = some (.slice A6 0 cp6) := (blk_cell Q6.out 0).trans rfl
                  go_wp2
                  go_ret2
                  exact ⟨_, rfl, Kd.R_lower P5.out (below_size HB2.out), HB2.out.trans (PB.out.mono (below_size HB2.out))⟩
                · have hlen : (ys ++ [y]).length = ys.length + 1 := by simp
                  have Q6 := Aside0.mk Q6.out
                  replace Q6 : Aside0 (wr.heap[g6]? = some (.cells #[.slice A6 (ys.length + 1) cp6] 23 (0, 0))) := ⟨by rw [← hlen]; exact Q6.out⟩
                  replace p6 : Kd.R (Kd.int .i64) 3 wr w2.heap.size (fun _ => True) (.slice A6 (ys.length + 1) cp6) (ys ++ [y]) := by rw [← hlen]; exact p6
                  have P6 := Aside0.mk p6
                  clear p6 hlen
                  simp only [scc_Reached.mainL, List.getLast?_concat, List.dropLast_concat] at H
                  by_cases y0 : 0 ≤ y
                  · rw [if_pos y0] at H
                    by_cases y1 : y < (l0_2.length : Int)
                    · rw [if_pos y1, Option.bind_assoc] at H
                      obtain ⟨ad2, cc2, e2, hcl, ⟨A1, c1, rfl, hl1, hC1⟩, hcell⟩ := Kd.C_get R2.out ([] : List Int) y y0 y1
                      have hx2 := hcell 0 _ rfl
                      simp only [show (Kd.slice 3 (Kd.int .i64)).sz = 1 from rfl, Nat.mul_one, Nat.add_zero] at hx2
                      have HX := Aside0.mk hx2
                      clear hx2
                      have hB0 := HB2.out.trans (PB.out.mono (below_size HB2.out))
                      clear hcell hcl
                      generalize l0_2.getD y.toNat ([] : List Int) = l at *
                      have C1 := Aside0.mk hC1
                      have L1 := Aside0.mk hl1
                      clear hC1 hl1 hB0
                      subst e2
                      obtain ⟨gt, cap6, he6, _, _, cgt, hgt⟩ := Kd.R_form P6.out (by simp)
                      have HGT := Aside0.mk hgt
                      have N6t : g6 ≠ gt := blk_ne Q6.out hgt (by decide)
                      have Nt6 := N6t.symm
                      have N5t : g5 ≠ gt := blk_ne Q5.out hgt (by decide)
                      clear hgt
                      have hAe : A6 = some ⟨gt, 0, none⟩ := by injection he6
                      subst hAe
                      clear he6
                      obtain ⟨hct, hft⟩ := Kd.R_celln (0 : Int) P6.out (ys.length : Int) (by omega) (by omega)
                      have hrd : rdOf (0 : Int) (ys ++ [y]) (ys.length : Int) = y := by simp [rdOf]
                      rw [hrd, Int.toNat_natCast] at hct
                      clear hrd hft
                      have y0' := eq_true y0
                      have y1' := eq_true y1
                      clear y0 y1
                      obtain ⟨i0, hi0, _, hsz, _⟩ := info_parts info3
                      have hcut := cut_to (P := Try.prog) 23 3 .i64 Try.underlying23 hi0 (some ⟨gt, 0, none⟩) (ys.length + 1) cp6 (ys.length : Int) (by omega) (by omega) (Kd.R_reads' P6.out).2.1
                      rw [Int.toNat_natCast] at hcut
                      clear hi0 hsz
                      have hc6 : wr.cell? ⟨g6, 0, none⟩ = some (.slice (some ⟨gt, 0, none⟩) (ys.length + 1) cp6) := (blk_cell Q6.out 0).trans rfl
                      have hf6 := blk_frozen Q6.out 0
                      have hg2 : wr.cell? ⟨g1, 2, none⟩ = some (.slice (some ad2) l0_2.length c0_2) := (blk_cell (blk_below G2.out PB.out) 2).trans rfl
                      have hmx : ys.length + 1 ≤ 9223372036854775807 := by have h_ := (Kd.R_reads' P6.out).2.2.2.1; rw [List.length_append] at h_; exact h_
                      go_wp2_with ((with_reducible refine gate_store (t := 23) (p := 6) (v := .tmp 44) rfl ?_); go_must (refine store_event (t := 23) (p := 6) (v := .tmp 44) (w1 := (wr.setCell ⟨g6, 0, none⟩ (.slice (some ⟨gt, 0, none⟩) ys.length cp6))) ?hg ?ho ?hn ?hr ?_; (case ho => rfl); (case hg => rfl); (case hn => rfl); (case hr => first | (go_simp; done) | (go_simp; rfl)); intro w9 hw; have tk := Kd.R_take (m := ys.length) P6.out (by simp); rw [List.take_left' rfl] at tk; have HV9 := Aside0.mk (show scc_Reached.Vars w2 w9 g5 g6 (seen, ys) by rw [hw]; exact scc_Reached.Vars.put Q5.out Q6.out P5.out tk PB.out B6.out); clear hw tk; obtain ⟨_, _, _, _, _, _, pb9⟩ := HV9.out; have PB9 := Aside0.mk pb9; clear pb9; have hB9 := HB2.out.trans (PB9.out.mono (below_size HB2.out)); have hx9 := (hB9.cell (World.block_lt_of_cell? w _ HX.out)).trans HX.out; have hg9 : w9.cell? ⟨g1, 2, none⟩ = some (.slice (some ad2) l0_2.length c0_2) := (blk_cell (blk_below G2.out PB9.out) 2).trans rfl))
                      have H' := Aside0.mk H
                      clear H
                      go_loopg [51] k (fun kq v51 w' => ∃ (x51 : Int) (s : List Bool × List Int), v51 = .int .i64 x51 ∧ Aside0 (((scc_Reached.nextL kq l x51 s).bind fun s1 => (scc_Reached.mainL k2 k l0_2 s1).bind fun r => some (r, 0)) = some (r1, r2)) ∧ Aside0 (kq ≤ k) ∧ Aside0 (scc_Reached.Vars w2 w' g5 g6 s))
                      case atStart => exact ⟨0, _, rfl, H', ⟨Nat.le_refl _⟩, HV9⟩
                      case round =>
                        clear H' HV9 hx9 hg9
                        obtain ⟨x51, s, rfl, HA, HK3, HV4⟩ := hrel
                        cases gk with
                        | zero => exact absurd HA.out (by simp [scc_Reached.nextL])
                        | succ k3 =>
                          have H := HA.out
                          clear HA
                          simp only [scc_Reached.nextL] at H
                          by_cases c5 : x51 < (l.length : Int)
                          · rw [if_pos c5] at H
                            by_cases c6 : 0 ≤ x51
                            · rw [if_pos c6, Option.bind_assoc] at H
                              obtain ⟨s1, A7, H⟩ := Option.bind_eq_some_iff.mp H
                              have A7 := Aside0.mk A7
                              have H' := Aside0.mk H
                              clear H
                              obtain ⟨_, _, _, _, _, _, pb4⟩ := HV4.out
                              obtain ⟨ad3, e3, hx3⟩ := Kd.at_int (Kd.C_below C1.out (HB2.out.trans (pb4.mono (below_size HB2.out)))) x51 c6 c5
                              have c5b0 : decide (x51 < (l.length : Int)) = true := decide_eq_true c5
                              have c5' := eq_true c5
                              have c6' := eq_true c6
                              clear c5 c6 pb4
                              cases e3
                              go_wp2_with (go_at_call 18; go_must (refine (scc_Reached.visit w2 _ g5 g6 s s1 (rd l x51) B5.out B6.out HV4.out A7.out).mono ?_; rintro e w8 ⟨rfl, hv⟩; have HV5 := Aside0.mk hv; clear hv))
                              go_roundg k3
                              case measure => have := HK3.out; omega
                              case rel => exact ⟨wrap64 (x51 + 1), s1, rfl, H', ⟨by have := HK3.out; omega⟩, HV5⟩
                            · rw [if_neg c6] at H
                              exact absurd H (by simp)
                          · rw [if_neg c5, Option.bind_some] at H
                            have c5b0 : decide (x51 < (l.length : Int)) = false := decide_eq_false c5
                            clear c5
                            have H' := Aside0.mk H
                            clear H
                            go_wp2
                            go_roundg k2
                            case measure => have := HK.out; omega
                            case rel => exact ⟨s, H', ⟨by have := HK.out; omega⟩, HV4⟩
                    · rw [if_neg y1] at H
                      exact absurd H (by simp)
                  · rw [if_neg y0] at H
                    exact absurd H (by simp)
    · rw [if_neg cL] at h
      exact absurd h (by simp)
  · rw [if_neg c0] at h
    have c0b0 : (e1 == 0) = false := beq_eq_false_iff_ne.mpr c0
    have c0b1 : (e1 != 0) = true := bne_iff_ne.mpr c0
    clear c0
    simp only [Option.some.injEq, Prod.mk.injEq] at h
    obtain ⟨rfl, rfl⟩ := h
    go_enter Try.func10, Try.ntmps10
    go_wp2_with (first | ((with_reducible refine gate_dst (N := 1) rfl ?_); go_must (refine box_event ?hg (N := 1) ?hd (cs := #[.slice A0_0 l0_0.length c0_0, .int .i64 a0_1, .slice A0_2 l0_2.length c0_2, .slice A0_3 l0_3.length c0_3, .int .i64 a0_4]) (t := 28) ?hr ?_; (case hd => rfl); (case hg => rfl); (case hr => first | (go_simp; done) | (go_simp; rfl)); intro g1 hg w1 hbox hb; have BK1 := Aside0.mk hbox; have HB := Aside0.mk hb; clear hb hbox hg; have hcz0 : w1.cell? ⟨g1, 0, none⟩ = some (.slice A0_0 l0_0.length c0_0) := (blk_cell BK1.out 0).trans rfl; have hcz1 : w1.cell? ⟨g1, 1, none⟩ = some (.int .i64 a0_1) := (blk_cell BK1.out 1).trans rfl; have hcz2 : w1.cell? ⟨g1, 2, none⟩ = some (.slice A0_2 l0_2.length c0_2) := (blk_cell BK1.out 2).trans rfl; have hcz3 : w1.cell? ⟨g1, 3, none⟩ = some (.slice A0_3 l0_3.length c0_3) := (blk_cell BK1.out 3).trans rfl; have hcz4 : w1.cell? ⟨g1, 4, none⟩ = some (.int .i64 a0_4) := (blk_cell BK1.out 4).trans rfl)) | (go_at_call 12; go_must (refine (scc_Check.calls k _ _ l0_0 a0_1 _ _ l0_2 _ _ l0_3 a0_4 e1 _ (Kd.C_below R0.out HB.out) L0.out (Kd.C_below R2.out HB.out) L2.out (Kd.C_below R3.out HB.out) L3.out HC.out).mono ?_; rintro e w2 ⟨rfl, hb⟩; have HB2 := Aside0.mk (HB.out.trans (hb.mono (below_size HB.out))); clear hb)))
    go_ret2
    exact ⟨_, rfl, Kd.R_nil _ _ _ _ _, HB2.out⟩

end Go.Proofs.Ytpkigkmkolbiiaa.P
end
