-- PACKED by pack.py of this repo: FForetellkeepPicked FGrownTake FGrownPut FGrownNumber FForetellkeepNumber FForetellkeepJoined FForetellkeepProps FModelName FModelVariables FPolishParts FPolishSkip FPolishCatch FPolishEnds FExprTruth FMachPop FEvalCatch FSlicesCloneIntInt FLogicInnerAhead
import Derived.WalkSpells
import Derived.StillTailTactics
import Derived.WalkLawsBesides
import Derived.Lib.ConvBytes
import Derived.Maps.OwnSet
import Derived.Maps.Views
import Derived.Maps.Keyed
import Derived.StringKeys
import Derived.Recover
import Derived.Lib.SliceRun
import Derived.Test.YtbokbbcoekeoaaaDoorJ1
section
namespace Go.Proofs.YtbokbbcoekeoaaaDoor.P
open Go.RowKit Go.Proofs.YtbokbbcoekeoaaaDoorW.PrintWords Go.Proofs.YtbokbbcoekeoaaaDoorW.PrintLast Go.Proofs.YtbokbbcoekeoaaaDoorW.PrintMore Go.Proofs.YtbokbbcoekeoaaaDoor.G
attribute [local go_sem] max2_int min2_int max_two min_two max_three min_three max_four min_four
set_option linter.unusedVariables false
set_option linter.unusedSimpArgs false

def foretellkeep_picked.f (a0 : Int) (a1 : Int) : Option (Int) := if a0 < 0 then (if a1 = 0 then (none) else (some (Int.tmod (wrap64 (-(wrap64 (a0 + 1)))) a1))) else (if a1 = 0 then (none) else (some (Int.tmod a0 a1)))
set_option maxHeartbeats 8000000 in
set_option maxRecDepth 100000 in
theorem foretellkeep_picked.calls (a0 : Int) (a1 : Int) (r : Int) (w : World) (h : foretellkeep_picked.f a0 a1 = some r) :
  Calls Tryd.prog 14 #[.int .i64 a0, .int .i64 a1] w fun e w' => e = .returned (.int .i64 r) ∧ Drawn0 w w' := by
 have H : (if a0 < 0 then (if a1 = 0 then (none) else (some (Int.tmod (wrap64 (-(wrap64 (a0 + 1)))) a1))) else (if a1 = 0 then (none) else (some (Int.tmod a0 a1)))) = some r := h
 clear h
 by_cases c3 : a0 < 0
 ·
  rw [if_pos c3] at H
  have c3b0 : decide (a0 < 0) = true := decide_eq_true c3
  clear c3
  by_cases c4 : a1 = 0
  ·
   rw [if_pos c4] at H
   exact absurd H (by simp)
  rw [if_neg c4] at H
  have c4b0 : (a1 == 0) = false := beq_eq_false_iff_ne.mpr c4
  have c4b1 : (a1 != 0) = true := bne_iff_ne.mpr c4
  obtain rfl := Option.some.inj H
  go_enter Tryd.func14, Tryd.ntmps14
  go_wp2
  go_ret
  exact ⟨by first | rfl | (simp; done) | (simp [*]; done), by repeat (first | exact Drawn0.refl _ | apply Drawn0.step)⟩
 rw [if_neg c3] at H
 have c3b0 : decide (a0 < 0) = false := decide_eq_false c3
 clear c3
 by_cases c5 : a1 = 0
 ·
  rw [if_pos c5] at H
  exact absurd H (by simp)
 rw [if_neg c5] at H
 have c5b0 : (a1 == 0) = false := beq_eq_false_iff_ne.mpr c5
 have c5b1 : (a1 != 0) = true := bne_iff_ne.mpr c5
 obtain rfl := Option.some.inj H
 go_enter Tryd.func14, Tryd.ntmps14
 go_wp2
 go_ret
 exact ⟨by first | rfl | (simp; done) | (simp [*]; done), by repeat (first | exact Drawn0.refl _ | apply Drawn0.step)⟩

--IMPORT Derived.WalkSpells
/-- What a 'grown' holds that changes. -/
structure GrSt where
 at_ : Int
 tempo : Int
 out : List S72
/-- A 'grown' in memory. -/
def GrownAt (w0 w : World) (g : Nat) (A : Option Addr) (n c : Nat) (vars props : Int) (st : GrSt) : Prop :=
 ∃ vo, w.heap[g]? = some (.cells #[.slice A n c, .int .i64 st.at_, .int .i64 vars, .int .i64 props, .int .i64 st.tempo, vo] 128 (0, 0)) ∧ Kd.R k72 72 w w0.heap.size (fun _ => True) vo st.out ∧ Below w0.heap.size w0 w
theorem GrownAt.drewN {w0 w : World} {g : Nat} {A : Option Addr} {n c : Nat} {vars props : Int} {st : GrSt} (h : GrownAt w0 w g A n c vars props st) (m : Nat) : GrownAt w0 (w.drewN m) g A n c vars props st := by
 obtain ⟨ve, h1, h2, h3⟩ := h
 exact ⟨ve, h1, Kd.R_drewN h2 m, pw_below_drewN h3 m⟩
theorem GrownAt.below {w0 w w' : World} {g : Nat} {A : Option Addr} {n c : Nat} {vars props : Int} {st : GrSt} (h : GrownAt w0 w g A n c vars props st) (hb : Below w.heap.size w w') : GrownAt w0 w' g A n c vars props st := by
 obtain ⟨ve, h1, h2, h3⟩ := h
 exact ⟨ve, blk_below h1 hb, Kd.R_below h2 hb, below_step h3 hb⟩
/-- The place where it reads goes on. -/
theorem GrownAt.put1 {w0 w w' : World} {g : Nat} {A : Option Addr} {n c : Nat} {at_ vars props tempo : Int} {vo : Value} {out : List S72} (hbk : w.heap[g]? = some (.cells #[.slice A n c, .int .i64 at_, .int .i64 vars, .int .i64 props, .int .i64 tempo, vo] 128 (0, 0))) (hro : Kd.R k72 72 w w0.heap.size (fun _ => True) vo out) (hb : Below w0.heap.size w0 w) (bg : w0.heap.size ≤ g) (h : Below w.heap.size w w') (u : Int) : GrownAt w0 (w'.setCell ⟨g, 1, none⟩ (.int .i64 u)) g A n c vars props ⟨u, tempo, out⟩ :=
 ⟨vo, blk_put (blk_below hbk h) 1 _ rfl, Kd.R_set (Kd.R_below hro h) (blk_below hbk h) (by decide) _ _, (below_step hb h).setCell bg _⟩
theorem GrownAt.box2 {w0 w : World} {g g2 : Nat} {A : Option Addr} {n c : Nat} {vars props : Int} {st : GrSt} {a b : Value} (h : GrownAt w0 w g A n c vars props st) (hk : w.heap[g2]? = some (.cells #[a, b] 152 (0, 0))) (hn : g ≠ g2) (hg : w0.heap.size ≤ g2) (u v : Value) : GrownAt w0 ((w.setCell ⟨g2, 0, none⟩ u).setCell ⟨g2, 1, none⟩ v) g A n c vars props st := by
 obtain ⟨vo, h1, h2, h3⟩ := h
 exact ⟨vo, blk_far (p := ⟨g2, 1, none⟩) (blk_far (p := ⟨g2, 0, none⟩) h1 hn _) hn _, Kd.R_set (Kd.R_set h2 hk (by decide) _ _) (blk_put hk 0 _ rfl) (by decide) _ _, (h3.setCell hg _).setCell hg _⟩
def grown_take.f (raw : List S152) (st : GrSt) : Option (S152 × GrSt) :=
 if st.at_ < (raw.length : Int) then (if 0 ≤ st.at_ then some (rd_T152 raw st.at_, { st with at_ := wrap64 (st.at_ + 1) }) else none) else some (⟨0, 0⟩, { st with at_ := wrap64 (st.at_ + 1) })
set_option maxHeartbeats 8000000 in
set_option maxRecDepth 100000 in
theorem grown_take.calls (w0 : World) (A : Option Addr) (c : Nat) (raw : List S152) (g : Nat) (vars props : Int) (hr : Kd.C k152 w0 A raw.length raw) (bg : w0.heap.size ≤ g) (st : GrSt) (r : S152) (st' : GrSt) (w : World) (hv : GrownAt w0 w g A raw.length c vars props st) (h : grown_take.f raw st = some (r, st')) :
  Calls Tryd.prog 78 #[.pointer (some ⟨g, 0, none⟩)] w fun e w' => e = .returned (.agg #[.int .i64 r.f0, .int .i64 r.f1]) ∧ GrownAt w0 w' g A raw.length c vars props st' := by
 have R0 := Aside0.mk hr
 have BG := Aside0.mk bg
 clear hr bg
 obtain ⟨at_, tempo, out⟩ := st
 obtain ⟨vo, hbk, hro, hb⟩ := hv
 have BK := Aside0.mk hbk
 have RO := Aside0.mk hro
 have HB := Aside0.mk hb
 clear hbk hro hb
 have RW := Aside0.mk (Kd.C_below R0.out HB.out)
 have hcz0 : w.cell? ⟨g, 0, none⟩ = some (.slice A raw.length c) := (blk_cell BK.out 0).trans rfl
 have hcz1 : w.cell? ⟨g, 1, none⟩ = some (.int .i64 at_) := (blk_cell BK.out 1).trans rfl
 have hfz1 := blk_frozen BK.out 1
 unfold grown_take.f at h
 by_cases c1 : at_ < (raw.length : Int)
 rotate_left
 ·
  rw [if_neg c1] at h
  have c1' : decide (at_ < (raw.length : Int)) = false := decide_eq_false c1
  obtain ⟨rfl, rfl⟩ := Prod.mk.inj (Option.some.inj h)
  clear c1 h
  go_enter Tryd.func78, Tryd.ntmps78
  go_wp2_with (first | ((with_reducible refine gate_dst (N := 2) rfl ?_); go_must (refine box_event ?hg (N := 2) ?hd (cs := #[.int .i64 0, .int .i64 0]) (t := 152) ?hr ?_; (case hd => rfl); (case hg => rfl); (case hr => first | (go_simp; done) | (go_simp; rfl)); intro g2 hg w1 hbox hb; have K2 := Aside0.mk hbox; have Hw1 := Aside0.mk hb; have G2 := Aside0.mk (show w.heap.size ≤ g2 by rw [hg]; exact Nat.le_refl _); clear hb hbox hg)) | ((with_reducible refine gate_dst (N := 3) rfl ?_); go_must (refine box_event ?hg (N := 3) ?hd (cs := #[.int .i64 0, .int .i64 0]) (t := 152) ?hr ?_; (case hd => rfl); (case hg => rfl); (case hr => first | (go_simp; done) | (go_simp; rfl)); intro g3 hg w2 hbox hb; have K3 := Aside0.mk hbox; have K22 := Aside0.mk (blk_below K2.out hb); have Hw2 := Aside0.mk (below_step Hw1.out hb); have G3 := Aside0.mk (show w.heap.size ≤ g3 by rw [hg]; exact below_size Hw1.out); have N23 : g2 ≠ g3 := (by rw [hg]; exact Nat.ne_of_lt (blk_lt K2.out)); have h30 : w2.cell? ⟨g3, 0, none⟩ = some (.int .i64 0) := (blk_cell K3.out 0).trans rfl; have h31 : w2.cell? ⟨g3, 1, none⟩ = some (.int .i64 0) := (blk_cell K3.out 1).trans rfl; have f30 := blk_frozen K3.out 0; have f31 := blk_frozen K3.out 1; clear hb hbox hg)) | ((with_reducible refine gate_store (t := 152) (p := 3) (v := .tmp 4) rfl ?_); go_must (refine store_event (t := 152) (p := 3) (v := .tmp 4) (w1 := ((w2.setCell ⟨g3, 0, none⟩ (.int .i64 0)).setCell ⟨g3, 1, none⟩ (.int .i64 0))) ?hg ?ho ?hn ?hr ?_; (case ho => rfl); (case hg => rfl); (case hn => rfl); (case hr => first | (go_simp; done) | (go_simp; rfl)); intro w3 hw; have K33 := Aside0.mk (show w3.heap[g3]? = some (.cells #[.int .i64 0, .int .i64 0] 152 (0, 0)) by rw [hw]; exact blk_put (blk_put K3.out 0 _ rfl) 1 _ rfl); have K23 := Aside0.mk (show w3.heap[g2]? = some (.cells #[.int .i64 0, .int .i64 0] 152 (0, 0)) by rw [hw]; exact blk_far (p := ⟨g3, 1, none⟩) (blk_far (p := ⟨g3, 0, none⟩) K22.out N23 _) N23 _); have Hw3 := Aside0.mk (show Below w.heap.size w w3 by rw [hw]; exact (Hw2.out.setCell G3.out _).setCell G3.out _); have hzw30 : w3.cell? ⟨g, 0, none⟩ = some (.slice A raw.length c) := (blk_cell (blk_below BK.out Hw3.out) 0).trans rfl; have hzw31 : w3.cell? ⟨g, 1, none⟩ = some (.int .i64 at_) := (blk_cell (blk_below BK.out Hw3.out) 1).trans rfl; have hfw31 := blk_frozen (blk_below BK.out Hw3.out) 1; clear hw)))
  go_quiet (fail)
  generalize hq : World.drewN w3 _ = w4
  have K34 := Aside0.mk (blk_at hq K33.out)
  have K24 := Aside0.mk (blk_at hq K23.out)
  have Hw4 := Aside0.mk (below_at hq Hw3.out)
  clear hq
  have hzw40 : w4.cell? ⟨g, 0, none⟩ = some (.slice A raw.length c) := (blk_cell (blk_below BK.out Hw4.out) 0).trans rfl
  have hzw41 : w4.cell? ⟨g, 1, none⟩ = some (.int .i64 at_) := (blk_cell (blk_below BK.out Hw4.out) 1).trans rfl
  have hfw41 := blk_frozen (blk_below BK.out Hw4.out) 1
  have N2g : g2 ≠ g := Ne.symm (Nat.ne_of_lt (Nat.lt_of_lt_of_le (blk_lt BK.out) G2.out))
  have N3g : g3 ≠ g := Ne.symm (Nat.ne_of_lt (Nat.lt_of_lt_of_le (blk_lt BK.out) G3.out))
  have Gw2 := Aside0.mk (Nat.le_trans (below_size HB.out) G2.out)
  go_wp2_with (first | ((with_reducible refine gate_store (t := 3) (p := 31) (v := .tmp 29) rfl ?_); go_must (refine store_event (t := 3) (p := 31) (v := .tmp 29) (w1 := (w4.setCell ⟨g, 1, none⟩ (.int .i64 (wrap64 (at_ + 1))))) ?hg ?ho ?hn ?hr ?_; (case ho => rfl); (case hg => rfl); (case hn => rfl); (case hr => first | (go_simp; done) | (go_simp; rfl)); intro w6 hw; have K36 := Aside0.mk (show w6.heap[g3]? = some (.cells #[.int .i64 0, .int .i64 0] 152 (0, 0)) by rw [hw]; exact blk_far (p := ⟨g, 1, none⟩) K34.out N3g _); have K26 := Aside0.mk (show w6.heap[g2]? = some (.cells #[.int .i64 0, .int .i64 0] 152 (0, 0)) by rw [hw]; exact blk_far (p := ⟨g, 1, none⟩) K24.out N2g _); have HV6 := Aside0.mk (show GrownAt w0 w6 g A raw.length c vars props ⟨wrap64 (at_ + 1), tempo, out⟩ by rw [hw]; exact GrownAt.put1 BK.out RO.out HB.out BG.out Hw4.out _); clear hw; have h60 : w6.cell? ⟨g3, 0, none⟩ = some (.int .i64 0) := (blk_cell K36.out 0).trans rfl; have h61 : w6.cell? ⟨g3, 1, none⟩ = some (.int .i64 0) := (blk_cell K36.out 1).trans rfl; have h62 : w6.cell? ⟨g2, 0, none⟩ = some (.int .i64 0) := (blk_cell K26.out 0).trans rfl; have h63 : w6.cell? ⟨g2, 1, none⟩ = some (.int .i64 0) := (blk_cell K26.out 1).trans rfl; have f62 := blk_frozen K26.out 0; have f63 := blk_frozen K26.out 1)) | ((with_reducible refine gate_store (t := 152) (p := 2) (v := .tmp 32) rfl ?_); go_must (refine store_event (t := 152) (p := 2) (v := .tmp 32) (w1 := ((w6.setCell ⟨g2, 0, none⟩ (.int .i64 0)).setCell ⟨g2, 1, none⟩ (.int .i64 0))) ?hg ?ho ?hn ?hr ?_; (case ho => rfl); (case hg => rfl); (case hn => rfl); (case hr => first | (go_simp; done) | (go_simp; rfl)); intro w7 hw; have K27 := Aside0.mk (show w7.heap[g2]? = some (.cells #[.int .i64 0, .int .i64 0] 152 (0, 0)) by rw [hw]; exact blk_put (blk_put K26.out 0 _ rfl) 1 _ rfl); have HV7 := Aside0.mk (show GrownAt w0 w7 g A raw.length c vars props ⟨wrap64 (at_ + 1), tempo, out⟩ by rw [hw]; exact GrownAt.box2 HV6.out K26.out N2g.symm Gw2.out _ _); clear hw; have h72 : w7.cell? ⟨g2, 0, none⟩ = some (.int .i64 0) := (blk_cell K27.out 0).trans rfl; have h73 : w7.cell? ⟨g2, 1, none⟩ = some (.int .i64 0) := (blk_cell K27.out 1).trans rfl)))
  refine ⟨rfl, .agg #[.int .i64 0, .int .i64 0], ?_, rfl, HV7.out⟩
  simp [results, Tryd.results78, go_sem, h72, h73]
 rw [if_pos c1] at h
 have c1' : decide (at_ < (raw.length : Int)) = true := decide_eq_true c1
 by_cases c2 : 0 ≤ at_
 rotate_left
 ·
  rw [if_neg c2] at h
  exact absurd h (by simp)
 rw [if_pos c2] at h
 obtain ⟨rfl, rfl⟩ := Prod.mk.inj (Option.some.inj h)
 obtain ⟨ad, eA, hx0, hx1⟩ := at_T152 RW.out at_ c2 c1
 have eA' := eA
 clear eA
 have c1b := eq_true c1
 have c2b := eq_true c2
 clear c1 c2 h
 generalize hop : rd_T152 raw at_ = r at *
 go_enter Tryd.func78, Tryd.ntmps78
 go_wp2_with (first | ((with_reducible refine gate_dst (N := 2) rfl ?_); go_must (refine box_event ?hg (N := 2) ?hd (cs := #[.int .i64 0, .int .i64 0]) (t := 152) ?hr ?_; (case hd => rfl); (case hg => rfl); (case hr => first | (go_simp; done) | (go_simp; rfl)); intro g2 hg w1 hbox hb; have K2 := Aside0.mk hbox; have Hw1 := Aside0.mk hb; have G2 := Aside0.mk (show w.heap.size ≤ g2 by rw [hg]; exact Nat.le_refl _); clear hb hbox hg)) | ((with_reducible refine gate_dst (N := 3) rfl ?_); go_must (refine box_event ?hg (N := 3) ?hd (cs := #[.int .i64 0, .int .i64 0]) (t := 152) ?hr ?_; (case hd => rfl); (case hg => rfl); (case hr => first | (go_simp; done) | (go_simp; rfl)); intro g3 hg w2 hbox hb; have K3 := Aside0.mk hbox; have K22 := Aside0.mk (blk_below K2.out hb); have Hw2 := Aside0.mk (below_step Hw1.out hb); have G3 := Aside0.mk (show w.heap.size ≤ g3 by rw [hg]; exact below_size Hw1.out); have N23 : g2 ≠ g3 := (by rw [hg]; exact Nat.ne_of_lt (blk_lt K2.out)); have h30 : w2.cell? ⟨g3, 0, none⟩ = some (.int .i64 0) := (blk_cell K3.out 0).trans rfl; have h31 : w2.cell? ⟨g3, 1, none⟩ = some (.int .i64 0) := (blk_cell K3.out 1).trans rfl; have f30 := blk_frozen K3.out 0; have f31 := blk_frozen K3.out 1; clear hb hbox hg)) | ((with_reducible refine gate_store (t := 152) (p := 3) (v := .tmp 4) rfl ?_); go_must (refine store_event (t := 152) (p := 3) (v := .tmp 4) (w1 := ((w2.setCell ⟨g3, 0, none⟩ (.int .i64 0)).setCell ⟨g3, 1, none⟩ (.int .i64 0))) ?hg ?ho ?hn ?hr ?_; (case ho => rfl); (case hg => rfl); (case hn => rfl); (case hr => first | (go_simp; done) | (go_simp; rfl)); intro w3 hw; have K33 := Aside0.mk (show w3.heap[g3]? = some (.cells #[.int .i64 0, .int .i64 0] 152 (0, 0)) by rw [hw]; exact blk_put (blk_put K3.out 0 _ rfl) 1 _ rfl); have K23 := Aside0.mk (show w3.heap[g2]? = some (.cells #[.int .i64 0, .int .i64 0] 152 (0, 0)) by rw [hw]; exact blk_far (p := ⟨g3, 1, none⟩) (blk_far (p := ⟨g3, 0, none⟩) K22.out N23 _) N23 _); have Hw3 := Aside0.mk (show Below w.heap.size w w3 by rw [hw]; exact (Hw2.out.setCell G3.out _).setCell G3.out _); have hzw30 : w3.cell? ⟨g, 0, none⟩ = some (.slice A raw.length c) := (blk_cell (blk_below BK.out Hw3.out) 0).trans rfl; have hzw31 : w3.cell? ⟨g, 1, none⟩ = some (.int .i64 at_) := (blk_cell (blk_below BK.out Hw3.out) 1).trans rfl; have hfw31 := blk_frozen (blk_below BK.out Hw3.out) 1; clear hw)))
 go_quiet (fail)
 generalize hq : World.drewN w3 _ = w4
 have K34 := Aside0.mk (blk_at hq K33.out)
 have K24 := Aside0.mk (blk_at hq K23.out)
 have Hw4 := Aside0.mk (below_at hq Hw3.out)
 clear hq
 have hzw40 : w4.cell? ⟨g, 0, none⟩ = some (.slice A raw.length c) := (blk_cell (blk_below BK.out Hw4.out) 0).trans rfl
 have hzw41 : w4.cell? ⟨g, 1, none⟩ = some (.int .i64 at_) := (blk_cell (blk_below BK.out Hw4.out) 1).trans rfl
 have hfw41 := blk_frozen (blk_below BK.out Hw4.out) 1
 have hx40 := (Hw4.out.cell (World.block_lt_of_cell? w _ hx0)).trans hx0
 have hx41 := (Hw4.out.cell (World.block_lt_of_cell? w _ hx1)).trans hx1
 have h40 : w4.cell? ⟨g3, 0, none⟩ = some (.int .i64 0) := (blk_cell K34.out 0).trans rfl
 have h41 : w4.cell? ⟨g3, 1, none⟩ = some (.int .i64 0) := (blk_cell K34.out 1).trans rfl
 have f40 := blk_frozen K34.out 0
 have f41 := blk_frozen K34.out 1
 go_wp2
 go_region
 generalize hq5 : ((w4.setCell ⟨g3, 0, none⟩ (.int .i64 r.f0)).setCell ⟨g3, 1, none⟩ (.int .i64 r.f1)).drew = w5
 have K44 : w4.heap[g3]? = some (.cells #[.int .i64 0, .int .i64 0] 152 (0, 0)) := K34.out
 have K45 : w4.heap[g2]? = some (.cells #[.int .i64 0, .int .i64 0] 152 (0, 0)) := K24.out
 have K35 := Aside0.mk (show w5.heap[g3]? = some (.cells #[.int .i64 r.f0, .int .i64 r.f1] 152 (0, 0)) by rw [← hq5]; exact blk_put (blk_put K44 0 _ rfl) 1 _ rfl)
 have K25 := Aside0.mk (show w5.heap[g2]? = some (.cells #[.int .i64 0, .int .i64 0] 152 (0, 0)) by rw [← hq5]; exact blk_far (p := ⟨g3, 1, none⟩) (blk_far (p := ⟨g3, 0, none⟩) K45 N23 _) N23 _)
 have Hw5 := Aside0.mk (show Below w.heap.size w w5 by rw [← hq5]; exact ((Hw4.out.setCell G3.out _).setCell G3.out _).drew)
 clear hq5 K44 K45
 have hzw50 : w5.cell? ⟨g, 0, none⟩ = some (.slice A raw.length c) := (blk_cell (blk_below BK.out Hw5.out) 0).trans rfl
 have hzw51 : w5.cell? ⟨g, 1, none⟩ = some (.int .i64 at_) := (blk_cell (blk_below BK.out Hw5.out) 1).trans rfl
 have hfw51 := blk_frozen (blk_below BK.out Hw5.out) 1
 have N2g : g2 ≠ g := Ne.symm (Nat.ne_of_lt (Nat.lt_of_lt_of_le (blk_lt BK.out) G2.out))
 have N3g : g3 ≠ g := Ne.symm (Nat.ne_of_lt (Nat.lt_of_lt_of_le (blk_lt BK.out) G3.out))
 have Gw2 := Aside0.mk (Nat.le_trans (below_size HB.out) G2.out)
 go_wp2_with (first | ((with_reducible refine gate_store (t := 3) (p := 31) (v := .tmp 29) rfl ?_); go_must (refine store_event (t := 3) (p := 31) (v := .tmp 29) (w1 := (w5.setCell ⟨g, 1, none⟩ (.int .i64 (wrap64 (at_ + 1))))) ?hg ?ho ?hn ?hr ?_; (case ho => rfl); (case hg => rfl); (case hn => rfl); (case hr => first | (go_simp; done) | (go_simp; rfl)); intro w6 hw; have K36 := Aside0.mk (show w6.heap[g3]? = some (.cells #[.int .i64 r.f0, .int .i64 r.f1] 152 (0, 0)) by rw [hw]; exact blk_far (p := ⟨g, 1, none⟩) K35.out N3g _); have K26 := Aside0.mk (show w6.heap[g2]? = some (.cells #[.int .i64 0, .int .i64 0] 152 (0, 0)) by rw [hw]; exact blk_far (p := ⟨g, 1, none⟩) K25.out N2g _); have HV6 := Aside0.mk (show GrownAt w0 w6 g A raw.length c vars props ⟨wrap64 (at_ + 1), tempo, out⟩ by rw [hw]; exact GrownAt.put1 BK.out RO.out HB.out BG.out Hw5.out _); clear hw; have h60 : w6.cell? ⟨g3, 0, none⟩ = some (.int .i64 r.f0) := (blk_cell K36.out 0).trans rfl; have h61 : w6.cell? ⟨g3, 1, none⟩ = some (.int .i64 r.f1) := (blk_cell K36.out 1).trans rfl; have h62 : w6.cell? ⟨g2, 0, none⟩ = some (.int .i64 0) := (blk_cell K26.out 0).trans rfl; have h63 : w6.cell? ⟨g2, 1, none⟩ = some (.int .i64 0) := (blk_cell K26.out 1).trans rfl; have f62 := blk_frozen K26.out 0; have f63 := blk_frozen K26.out 1)) | ((with_reducible refine gate_store (t := 152) (p := 2) (v := .tmp 32) rfl ?_); go_must (refine store_event (t := 152) (p := 2) (v := .tmp 32) (w1 := ((w6.setCell ⟨g2, 0, none⟩ (.int .i64 r.f0)).setCell ⟨g2, 1, none⟩ (.int .i64 r.f1))) ?hg ?ho ?hn ?hr ?_; (case ho => rfl); (case hg => rfl); (case hn => rfl); (case hr => first | (go_simp; done) | (go_simp; rfl)); intro w7 hw; have K27 := Aside0.mk (show w7.heap[g2]? = some (.cells #[.int .i64 r.f0, .int .i64 r.f1] 152 (0, 0)) by rw [hw]; exact blk_put (blk_put K26.out 0 _ rfl) 1 _ rfl); have HV7 := Aside0.mk (show GrownAt w0 w7 g A raw.length c vars props ⟨wrap64 (at_ + 1), tempo, out⟩ by rw [hw]; exact GrownAt.box2 HV6.out K26.out N2g.symm Gw2.out _ _); clear hw; have h72 : w7.cell? ⟨g2, 0, none⟩ = some (.int .i64 r.f0) := (blk_cell K27.out 0).trans rfl; have h73 : w7.cell? ⟨g2, 1, none⟩ = some (.int .i64 r.f1) := (blk_cell K27.out 1).trans rfl)))
 refine ⟨rfl, .agg #[.int .i64 r.f0, .int .i64 r.f1], ?_, rfl, HV7.out⟩
 simp [results, Tryd.results78, go_sem, h72, h73]

--IMPORT FGrownTake
--IMPORT Derived.WalkSpells
def grown_put.f (st : GrSt) (kind value : Int) : Option GrSt :=
 if st.out.length < 8796093022208 then some { st with out := st.out ++ [⟨kind, value⟩] } else none
set_option maxHeartbeats 8000000 in
set_option maxRecDepth 100000 in
theorem grown_put.calls (w0 : World) (A : Option Addr) (n c : Nat) (g : Nat) (vars props : Int) (bg : w0.heap.size ≤ g) (st : GrSt) (kind value : Int) (st' : GrSt) (w : World) (hv : GrownAt w0 w g A n c vars props st) (h : grown_put.f st kind value = some st') :
  Calls Tryd.prog 79 #[.pointer (some ⟨g, 0, none⟩), .int .i64 kind, .int .i64 value] w fun e w' => e = .returned (.tuple #[]) ∧ GrownAt w0 w' g A n c vars props st' := by
 have info := (by kernel_rfl : (Tryd.prog.info? 72).map (fun i => (i.zero, i.size, i.bytes)) = some (some (.agg #[(.int .i64 0), (.int .i64 0)]), 2, 16))
 have BG := Aside0.mk bg
 clear bg
 obtain ⟨at_, tempo, out⟩ := st
 obtain ⟨vo, hbk, hro, hb⟩ := hv
 have BK := Aside0.mk hbk
 have RO := Aside0.mk hro
 have HB := Aside0.mk hb
 clear hbk hro hb
 obtain ⟨Ao, co, rfl⟩ := Kd.R_slice RO.out
 unfold grown_put.f at h
 by_cases c1 : out.length < 8796093022208
 rotate_left
 ·
  rw [if_neg c1] at h
  exact absurd h (by simp)
 rw [if_pos c1] at h
 obtain rfl := Option.some.inj h
 have LM := Aside0.mk c1
 clear c1 h
 have hcz5 : w.cell? ⟨g, 5, none⟩ = some (.slice Ao out.length co) := (blk_cell BK.out 5).trans rfl
 have hfz5 := blk_frozen BK.out 5
 go_enter Tryd.func79, Tryd.ntmps79
 go_wp2_with (first | ((with_reducible refine gate_builtin (b := .append) (xs := #[.tmp 10, .tmp 14]) rfl ?_); at_builtin; go_must (refine Kd.R_append k72 (w0 := w0) w0.heap.size rfl (.tmp 10) (.tmp 14) 32 72 (.agg #[(.int .i64 0), (.int .i64 0)]) 16 rfl Tryd.underlying32 info rfl (by decide) (by omega) (.slice Ao out.length co) out (⟨kind, value⟩ : S72) [.int .i64 kind, .int .i64 value] (fun _ => True) (fun _ => False) rfl rfl ?aP (fun _ hk => hk.elim) ?aF ?aO ?aB ?aS ?aL ?_; (case aP => exact k72_mkM _ _ _ (⟨kind, value⟩ : S72)); (case aB => exact HB.out); (case aF => exact (fun _ _ => trivial)); (case aO => exact RO.out); (case aS => exact below_size HB.out); (case aL => have := LM.out; omega); intro v1 w2 ho hb hg hat; obtain ⟨A1, c1, rfl⟩ := Kd.R_slice ho; replace ho : Kd.R k72 72 w2 w0.heap.size (fun _ => True) (.slice A1 (out.length + 1) c1) (out ++ [(⟨kind, value⟩ : S72)]) := (by rw [List.length_append] at ho; exact ho); have R1 := Aside0.mk ho; have HB2 := Aside0.mk hb; have K2 := Aside0.mk (blk_grown BK.out hg (Kd.R_ne RO.out BK.out (by decide))); clear ho hb hg hat; have hcz6 : w2.cell? ⟨g, 5, none⟩ = some (.slice Ao out.length co) := (blk_cell K2.out 5).trans rfl; have hfz6 := blk_frozen K2.out 5)))
 go_end0
 exact ⟨rfl, _, blk_put K2.out 5 _ rfl, Kd.R_set R1.out K2.out (by decide) _ _, HB2.out.setCell BG.out _⟩
theorem picked_same (a0 a1 r : Int) (w : World) (h : foretellkeep_picked.f a0 a1 = some r) : Calls Tryd.prog 14 #[.int .i64 a0, .int .i64 a1] w fun e w' => e = .returned (.int .i64 r) ∧ w' = w := by
 have H := h
 unfold foretellkeep_picked.f at H
 clear h
 by_cases c3 : a0 < 0
 ·
  rw [if_pos c3] at H
  have c3b0 : decide (a0 < 0) = true := decide_eq_true c3
  clear c3
  by_cases c4 : a1 = 0
  ·
   rw [if_pos c4] at H
   exact absurd H (by simp)
  rw [if_neg c4] at H
  have c4b0 : (a1 == 0) = false := beq_eq_false_iff_ne.mpr c4
  have c4b1 : (a1 != 0) = true := bne_iff_ne.mpr c4
  obtain rfl := Option.some.inj H
  go_enter Tryd.func14, Tryd.ntmps14
  go_wp2
  go_ret
  exact ⟨by first | rfl | (simp; done) | (simp [*]; done), rfl⟩
 rw [if_neg c3] at H
 have c3b0 : decide (a0 < 0) = false := decide_eq_false c3
 clear c3
 by_cases c5 : a1 = 0
 ·
  rw [if_pos c5] at H
  exact absurd H (by simp)
 rw [if_neg c5] at H
 have c5b0 : (a1 == 0) = false := beq_eq_false_iff_ne.mpr c5
 have c5b1 : (a1 != 0) = true := bne_iff_ne.mpr c5
 obtain rfl := Option.some.inj H
 go_enter Tryd.func14, Tryd.ntmps14
 go_wp2
 go_ret
 exact ⟨by first | rfl | (simp; done) | (simp [*]; done), rfl⟩
theorem GrownAt.size {w0 w : World} {g : Nat} {A : Option Addr} {n c : Nat} {vars props : Int} {st : GrSt} (h : GrownAt w0 w g A n c vars props st) : w0.heap.size ≤ w.heap.size := by
 obtain ⟨_, _, _, h⟩ := h
 exact below_size h
theorem GrownAt.lt {w0 w : World} {g : Nat} {A : Option Addr} {n c : Nat} {vars props : Int} {st : GrSt} (h : GrownAt w0 w g A n c vars props st) : g < w.heap.size := by
 obtain ⟨_, h, _, _⟩ := h
 exact blk_lt h
theorem GrownAt.c1 {w0 w : World} {g : Nat} {A : Option Addr} {n c : Nat} {vars props : Int} {st : GrSt} (h : GrownAt w0 w g A n c vars props st) : w.cell? ⟨g, 1, none⟩ = some (.int .i64 st.at_) := by
 obtain ⟨_, h, _, _⟩ := h
 exact (blk_cell h 1).trans rfl
theorem GrownAt.c2 {w0 w : World} {g : Nat} {A : Option Addr} {n c : Nat} {vars props : Int} {st : GrSt} (h : GrownAt w0 w g A n c vars props st) : w.cell? ⟨g, 2, none⟩ = some (.int .i64 vars) := by
 obtain ⟨_, h, _, _⟩ := h
 exact (blk_cell h 2).trans rfl
theorem GrownAt.c3 {w0 w : World} {g : Nat} {A : Option Addr} {n c : Nat} {vars props : Int} {st : GrSt} (h : GrownAt w0 w g A n c vars props st) : w.cell? ⟨g, 3, none⟩ = some (.int .i64 props) := by
 obtain ⟨_, h, _, _⟩ := h
 exact (blk_cell h 3).trans rfl
theorem GrownAt.c4 {w0 w : World} {g : Nat} {A : Option Addr} {n c : Nat} {vars props : Int} {st : GrSt} (h : GrownAt w0 w g A n c vars props st) : w.cell? ⟨g, 4, none⟩ = some (.int .i64 st.tempo) := by
 obtain ⟨_, h, _, _⟩ := h
 exact (blk_cell h 4).trans rfl
theorem GrownAt.f4 {w0 w : World} {g : Nat} {A : Option Addr} {n c : Nat} {vars props : Int} {st : GrSt} (h : GrownAt w0 w g A n c vars props st) : w.frozen? ⟨g, 4, none⟩ = false := by
 obtain ⟨_, h, _, _⟩ := h
 exact blk_frozen h 4
/-- Fewer ops that look ahead are left. -/
theorem GrownAt.put4 {w0 w : World} {g : Nat} {A : Option Addr} {n c : Nat} {vars props : Int} {st : GrSt} (h : GrownAt w0 w g A n c vars props st) (bg : w0.heap.size ≤ g) (t : Int) : GrownAt w0 (w.setCell ⟨g, 4, none⟩ (.int .i64 t)) g A n c vars props { st with tempo := t } := by
 obtain ⟨vo, h1, h2, h3⟩ := h
 exact ⟨vo, blk_put h1 4 _ rfl, Kd.R_set h2 h1 (by decide) _ _, h3.setCell bg _⟩

--IMPORT FGrownTake
--IMPORT FGrownPut
--IMPORT Derived.WalkSpells
--IMPORT Derived.StillTailTactics
def grown_number.f : Nat → List S152 → Int → GrSt → Int → Option GrSt
 | 0, _, _, _, _ => none
 | k + 1, raw, vars, st, deep => (grown_take.f raw st).bind fun r => (foretellkeep_picked.f r.1.f0 5).bind fun p5 => (if deep = 0 ∨ 14 < r.2.at_ then foretellkeep_picked.f r.1.f0 2 else some p5).bind fun op =>
   if op = 1 ∧ 0 < vars then (foretellkeep_picked.f r.1.f1 vars).bind fun v => grown_put.f r.2 2 v
   else if op < 2 then (foretellkeep_picked.f r.1.f1 9).bind fun v => grown_put.f r.2 1 (wrap64 (v - 4))
   else (grown_put.f r.2 (wrap64 (wrap64 (3 + op) - 2)) 0).bind fun s1 => (grown_number.f k raw vars s1 (wrap64 (deep - 1))).bind fun s2 => grown_number.f k raw vars s2 (wrap64 (deep - 1))
theorem grown_number.mono_f : ∀ k raw vars st deep, LeO (grown_number.f k raw vars st deep) (grown_number.f (k + 1) raw vars st deep)
 | 0, _, _, _, _ => fun r h => by simp [grown_number.f] at h
 | k + 1, raw, vars, st, deep => by
  unfold grown_number.f
  exact LeO.bind (LeO.refl _) fun _ => LeO.bind (LeO.refl _) fun _ => LeO.bind (LeO.refl _) fun _ => LeO.ite (LeO.refl _) (LeO.ite (LeO.refl _) (LeO.bind (LeO.refl _) fun _ => LeO.bind (grown_number.mono_f k _ _ _ _) fun _ => grown_number.mono_f k _ _ _ _))
set_option maxHeartbeats 8000000 in
set_option maxRecDepth 100000 in
theorem grown_number.calls (w0 : World) (A : Option Addr) (c : Nat) (raw : List S152) (g : Nat) (vars props : Int) (hr : Kd.C k152 w0 A raw.length raw) (bg : w0.heap.size ≤ g) (k : Nat) : ∀ (st : GrSt) (deep : Int) (st' : GrSt) (w : World) (hv : GrownAt w0 w g A raw.length c vars props st) (h : grown_number.f k raw vars st deep = some st'),
  Calls Tryd.prog 77 #[.pointer (some ⟨g, 0, none⟩), .int .i64 deep] w fun e w' => e = .returned (.tuple #[]) ∧ GrownAt w0 w' g A raw.length c vars props st' := by
 have R0 := Aside0.mk hr
 have BG := Aside0.mk bg
 clear hr bg
 induction k with
 | zero =>
  intro st deep st' w hv h
  exact absurd h (by simp [grown_number.f])
 | succ k ih =>
  intro st deep st' w hv h
  have HV := Aside0.mk hv
  clear hv
  simp only [grown_number.f] at h
  obtain ⟨⟨r, s1⟩, h1, h⟩ := Option.bind_eq_some_iff.mp h
  obtain ⟨p5, h2, h⟩ := Option.bind_eq_some_iff.mp h
  obtain ⟨op, h3, h⟩ := Option.bind_eq_some_iff.mp h
  have H1 := Aside0.mk h1
  have H2 := Aside0.mk h2
  clear h1 h2
  simp only [] at h h3
  have hop : (op = 1 ∧ 0 < vars ∧ ((foretellkeep_picked.f r.f1 vars).bind fun v => grown_put.f s1 2 v) = some st') ∨ (((op == 1) = false ∨ ((op == 1) = true ∧ decide (vars > 0) = false)) ∧ decide (op < 2) = true ∧ ((foretellkeep_picked.f r.f1 9).bind fun v => grown_put.f s1 1 (wrap64 (v - 4))) = some st') ∨ ((op == 1) = false ∧ decide (op < 2) = false ∧ ((grown_put.f s1 (wrap64 (wrap64 (3 + op) - 2)) 0).bind fun s1 => (grown_number.f k raw vars s1 (wrap64 (deep - 1))).bind fun s2 => grown_number.f k raw vars s2 (wrap64 (deep - 1))) = some st') := by
   by_cases d1 : op = 1 ∧ 0 < vars
   ·
    rw [if_pos d1] at h
    exact .inl ⟨d1.1, d1.2, h⟩
   ·
    rw [if_neg d1] at h
    by_cases d2 : op < 2
    ·
     rw [if_pos d2] at h
     refine .inr (.inl ⟨?_, decide_eq_true d2, h⟩)
     by_cases d3 : op = 1
     ·
      exact .inr ⟨beq_iff_eq.mpr d3, decide_eq_false (fun h0 => d1 ⟨d3, h0⟩)⟩
     ·
      exact .inl (beq_eq_false_iff_ne.mpr d3)
    ·
     rw [if_neg d2] at h
     exact .inr (.inr ⟨beq_eq_false_iff_ne.mpr (by omega), decide_eq_false d2, h⟩)
  have hdp : (((deep == 0) = true ∨ ((deep == 0) = false ∧ decide (s1.at_ > 14) = true)) ∧ foretellkeep_picked.f r.f0 2 = some op) ∨ ((deep == 0) = false ∧ decide (s1.at_ > 14) = false ∧ p5 = op) := by
   by_cases d0 : deep = 0
   ·
    rw [if_pos (.inl d0)] at h3
    exact .inl ⟨.inl (beq_iff_eq.mpr d0), h3⟩
   ·
    by_cases d4 : 14 < s1.at_
    ·
     rw [if_pos (.inr d4)] at h3
     exact .inl ⟨.inr ⟨beq_eq_false_iff_ne.mpr d0, decide_eq_true d4⟩, h3⟩
    ·
     rw [if_neg (by rintro (h0 | h0) <;> contradiction)] at h3
     exact .inr ⟨beq_eq_false_iff_ne.mpr d0, decide_eq_false d4, Option.some.inj h3⟩
  clear h h3
  rcases hop with ⟨rfl, o2, h⟩ | ⟨o1, o2, h⟩ | ⟨o1, o2, h⟩
  ·
   obtain ⟨v, h4, h⟩ := Option.bind_eq_some_iff.mp h
   have H4 := Aside0.mk h4
   have H5 := Aside0.mk h
   clear h h4
   have o2' : decide (vars > 0) = true := decide_eq_true o2
   clear o2
   rcases hdp with ⟨(d0 | ⟨d0, d1⟩), h3⟩ | ⟨d0, d1, rfl⟩
   all_goals try (have H3 := Aside0.mk h3; clear h3)
   all_goals go_enter Tryd.func77, Tryd.ntmps77
   all_goals go_wp2_with (first | (go_at_call 78; go_must (refine (grown_take.calls w0 A c raw g vars props R0.out BG.out st r s1 _ HV.out H1.out).mono ?_; rintro e w1 ⟨rfl, hv⟩; have HV1 := Aside0.mk hv; clear hv)) | ((with_reducible refine gate_dst (N := 4) rfl ?_); go_must (refine box_event ?hg (N := 4) ?hd (cs := #[.int .i64 0, .int .i64 0]) (t := 152) ?hr ?_; (case hd => rfl); (case hg => rfl); (case hr => first | (go_simp; done) | (go_simp; rfl)); intro g4 hg w2 hbox hb; have K4 := Aside0.mk hbox; have HV2 := Aside0.mk (GrownAt.below HV1.out hb); have G4 := Aside0.mk (show w0.heap.size ≤ g4 by rw [hg]; exact HV1.out.size); have N4 : g ≠ g4 := (by rw [hg]; exact Nat.ne_of_lt HV1.out.lt); clear hb hbox hg; have h20 : w2.cell? ⟨g4, 0, none⟩ = some (.int .i64 0) := (blk_cell K4.out 0).trans rfl; have h21 : w2.cell? ⟨g4, 1, none⟩ = some (.int .i64 0) := (blk_cell K4.out 1).trans rfl; have f20 := blk_frozen K4.out 0; have f21 := blk_frozen K4.out 1)) | ((with_reducible refine gate_store (t := 152) (p := 4) (v := .tmp 7) rfl ?_); go_must (refine store_event (t := 152) (p := 4) (v := .tmp 7) (w1 := ((w2.setCell ⟨g4, 0, none⟩ (.int .i64 r.f0)).setCell ⟨g4, 1, none⟩ (.int .i64 r.f1))) ?hg ?ho ?hn ?hr ?_; (case ho => rfl); (case hg => rfl); (case hn => rfl); (case hr => first | (go_simp; done) | (go_simp; rfl)); intro w3 hw; have K43 := Aside0.mk (show w3.heap[g4]? = some (.cells #[.int .i64 r.f0, .int .i64 r.f1] 152 (0, 0)) by rw [hw]; exact blk_put (blk_put K4.out 0 _ rfl) 1 _ rfl); have HV3 := Aside0.mk (show GrownAt w0 w3 g A raw.length c vars props s1 by rw [hw]; exact GrownAt.box2 HV2.out K4.out N4 G4.out _ _); clear hw; have h30 : w3.cell? ⟨g4, 0, none⟩ = some (.int .i64 r.f0) := (blk_cell K43.out 0).trans rfl; have h31 : w3.cell? ⟨g4, 1, none⟩ = some (.int .i64 r.f1) := (blk_cell K43.out 1).trans rfl; have z31 := HV3.out.c1; have z32 := HV3.out.c2; have z33 := HV3.out.c3; have z34 := HV3.out.c4)) | (go_at_call 14; go_must (refine (picked_same _ _ _ _ (by first | exact H2.out | exact H3.out | exact H4.out)).mono ?_; rintro e w' ⟨rfl, hww⟩; obtain rfl := hww.symm)))
   all_goals go_still_tail 8, (by kernel_rfl)
   all_goals still_call (picked_same _ _ _ _ H4.out)
   all_goals refine wpStill_nil ?_
   all_goals change wpList _ _ _ _ _ w3.drew
   all_goals have HV3d := Aside0.mk (show GrownAt w0 w3.drew g A raw.length c vars props s1 from HV3.out.drewN 1)
   all_goals generalize w3.drew = w3d at *
   all_goals go_wp2_with (go_at_call 79; go_must (refine (grown_put.calls w0 A raw.length c g vars props BG.out s1 _ _ _ _ HV3d.out H5.out).mono ?_; rintro e w4 ⟨rfl, hv⟩; have HV4 := Aside0.mk hv; clear hv))
   all_goals go_end0
   all_goals exact ⟨rfl, HV4.out⟩
  ·
   obtain ⟨v, h4, h⟩ := Option.bind_eq_some_iff.mp h
   have H4 := Aside0.mk h4
   have H5 := Aside0.mk h
   clear h h4
   rcases hdp with ⟨(d0 | ⟨d0, d1⟩), h3⟩ | ⟨d0, d1, rfl⟩ <;> rcases o1 with o1 | ⟨o1, o3⟩
   all_goals try (have H3 := Aside0.mk h3; clear h3)
   all_goals go_enter Tryd.func77, Tryd.ntmps77
   all_goals go_wp2_with (first | (go_at_call 78; go_must (refine (grown_take.calls w0 A c raw g vars props R0.out BG.out st r s1 _ HV.out H1.out).mono ?_; rintro e w1 ⟨rfl, hv⟩; have HV1 := Aside0.mk hv; clear hv)) | ((with_reducible refine gate_dst (N := 4) rfl ?_); go_must (refine box_event ?hg (N := 4) ?hd (cs := #[.int .i64 0, .int .i64 0]) (t := 152) ?hr ?_; (case hd => rfl); (case hg => rfl); (case hr => first | (go_simp; done) | (go_simp; rfl)); intro g4 hg w2 hbox hb; have K4 := Aside0.mk hbox; have HV2 := Aside0.mk (GrownAt.below HV1.out hb); have G4 := Aside0.mk (show w0.heap.size ≤ g4 by rw [hg]; exact HV1.out.size); have N4 : g ≠ g4 := (by rw [hg]; exact Nat.ne_of_lt HV1.out.lt); clear hb hbox hg; have h20 : w2.cell? ⟨g4, 0, none⟩ = some (.int .i64 0) := (blk_cell K4.out 0).trans rfl; have h21 : w2.cell? ⟨g4, 1, none⟩ = some (.int .i64 0) := (blk_cell K4.out 1).trans rfl; have f20 := blk_frozen K4.out 0; have f21 := blk_frozen K4.out 1)) | ((with_reducible refine gate_store (t := 152) (p := 4) (v := .tmp 7) rfl ?_); go_must (refine store_event (t := 152) (p := 4) (v := .tmp 7) (w1 := ((w2.setCell ⟨g4, 0, none⟩ (.int .i64 r.f0)).setCell ⟨g4, 1, none⟩ (.int .i64 r.f1))) ?hg ?ho ?hn ?hr ?_; (case ho => rfl); (case hg => rfl); (case hn => rfl); (case hr => first | (go_simp; done) | (go_simp; rfl)); intro w3 hw; have K43 := Aside0.mk (show w3.heap[g4]? = some (.cells #[.int .i64 r.f0, .int .i64 r.f1] 152 (0, 0)) by rw [hw]; exact blk_put (blk_put K4.out 0 _ rfl) 1 _ rfl); have HV3 := Aside0.mk (show GrownAt w0 w3 g A raw.length c vars props s1 by rw [hw]; exact GrownAt.box2 HV2.out K4.out N4 G4.out _ _); clear hw; have h30 : w3.cell? ⟨g4, 0, none⟩ = some (.int .i64 r.f0) := (blk_cell K43.out 0).trans rfl; have h31 : w3.cell? ⟨g4, 1, none⟩ = some (.int .i64 r.f1) := (blk_cell K43.out 1).trans rfl; have z31 := HV3.out.c1; have z32 := HV3.out.c2; have z33 := HV3.out.c3; have z34 := HV3.out.c4)) | (go_at_call 14; go_must (refine (picked_same _ _ _ _ (by first | exact H2.out | exact H3.out | exact H4.out)).mono ?_; rintro e w' ⟨rfl, hww⟩; obtain rfl := hww.symm)) | (go_at_call 79; go_must (refine (grown_put.calls w0 A raw.length c g vars props BG.out s1 _ _ _ _ HV3.out H5.out).mono ?_; rintro e w4 ⟨rfl, hv⟩; have HV4 := Aside0.mk hv; clear hv)))
   all_goals go_end0
   all_goals exact ⟨rfl, HV4.out⟩
  ·
   obtain ⟨s2, h4, h⟩ := Option.bind_eq_some_iff.mp h
   obtain ⟨s3, h5, h⟩ := Option.bind_eq_some_iff.mp h
   have H5 := Aside0.mk h4
   have H6 := Aside0.mk h5
   have H7 := Aside0.mk h
   clear h h4 h5
   rcases hdp with ⟨(d0 | ⟨d0, d1⟩), h3⟩ | ⟨d0, d1, rfl⟩
   all_goals try (have H3 := Aside0.mk h3; clear h3)
   all_goals go_enter Tryd.func77, Tryd.ntmps77
   all_goals go_wp2_with (first | (go_at_call 78; go_must (refine (grown_take.calls w0 A c raw g vars props R0.out BG.out st r s1 _ HV.out H1.out).mono ?_; rintro e w1 ⟨rfl, hv⟩; have HV1 := Aside0.mk hv; clear hv)) | ((with_reducible refine gate_dst (N := 4) rfl ?_); go_must (refine box_event ?hg (N := 4) ?hd (cs := #[.int .i64 0, .int .i64 0]) (t := 152) ?hr ?_; (case hd => rfl); (case hg => rfl); (case hr => first | (go_simp; done) | (go_simp; rfl)); intro g4 hg w2 hbox hb; have K4 := Aside0.mk hbox; have HV2 := Aside0.mk (GrownAt.below HV1.out hb); have G4 := Aside0.mk (show w0.heap.size ≤ g4 by rw [hg]; exact HV1.out.size); have N4 : g ≠ g4 := (by rw [hg]; exact Nat.ne_of_lt HV1.out.lt); clear hb hbox hg; have h20 : w2.cell? ⟨g4, 0, none⟩ = some (.int .i64 0) := (blk_cell K4.out 0).trans rfl; have h21 : w2.cell? ⟨g4, 1, none⟩ = some (.int .i64 0) := (blk_cell K4.out 1).trans rfl; have f20 := blk_frozen K4.out 0; have f21 := blk_frozen K4.out 1)) | ((with_reducible refine gate_store (t := 152) (p := 4) (v := .tmp 7) rfl ?_); go_must (refine store_event (t := 152) (p := 4) (v := .tmp 7) (w1 := ((w2.setCell ⟨g4, 0, none⟩ (.int .i64 r.f0)).setCell ⟨g4, 1, none⟩ (.int .i64 r.f1))) ?hg ?ho ?hn ?hr ?_; (case ho => rfl); (case hg => rfl); (case hn => rfl); (case hr => first | (go_simp; done) | (go_simp; rfl)); intro w3 hw; have K43 := Aside0.mk (show w3.heap[g4]? = some (.cells #[.int .i64 r.f0, .int .i64 r.f1] 152 (0, 0)) by rw [hw]; exact blk_put (blk_put K4.out 0 _ rfl) 1 _ rfl); have HV3 := Aside0.mk (show GrownAt w0 w3 g A raw.length c vars props s1 by rw [hw]; exact GrownAt.box2 HV2.out K4.out N4 G4.out _ _); clear hw; have h30 : w3.cell? ⟨g4, 0, none⟩ = some (.int .i64 r.f0) := (blk_cell K43.out 0).trans rfl; have h31 : w3.cell? ⟨g4, 1, none⟩ = some (.int .i64 r.f1) := (blk_cell K43.out 1).trans rfl; have z31 := HV3.out.c1; have z32 := HV3.out.c2; have z33 := HV3.out.c3; have z34 := HV3.out.c4)) | (go_at_call 14; go_must (refine (picked_same _ _ _ _ (by first | exact H2.out | exact H3.out | exact H4.out)).mono ?_; rintro e w' ⟨rfl, hww⟩; obtain rfl := hww.symm)) | (go_at_call 79; go_must (refine (grown_put.calls w0 A raw.length c g vars props BG.out s1 _ _ _ _ HV3.out H5.out).mono ?_; rintro e w4 ⟨rfl, hv⟩; have HV4 := Aside0.mk hv; clear hv)) | (go_at_call 77; go_must (first | (refine (ih _ _ _ _ HV5.out H7.out).mono ?_; rintro e w6 ⟨rfl, hv⟩; have HVn := Aside0.mk hv; clear hv) | (refine (ih _ _ _ _ HV4.out H6.out).mono ?_; rintro e w5 ⟨rfl, hv⟩; have HV5 := Aside0.mk hv; clear hv))))
   all_goals go_end0
   all_goals exact ⟨rfl, HVn.out⟩

--IMPORT FGrownTake
--IMPORT Derived.WalkSpells
def foretellkeep_Number.f (k : Nat) (l0 : List (S152)) (a1 : Int) : Option ((List (S72))) := (grown_number.f k l0 a1 ⟨0, 0, []⟩ 2).bind fun st => some st.out
theorem foretellkeep_Number.mono : ∀ a0 a1 k, LeO (foretellkeep_Number.f k a0 a1) (foretellkeep_Number.f (k + 1) a0 a1) := by
 intro a0 a1 k
 unfold foretellkeep_Number.f
 exact LeO.bind (grown_number.mono_f k _ _ _ _) (fun _ => LeO.refl _)
set_option maxHeartbeats 8000000 in
set_option maxRecDepth 100000 in
theorem foretellkeep_Number.calls (k : Nat) (A0 : Option Addr) (c0 : Nat) (l0 : List (S152)) (a1 : Int) (r : List (S72)) (w : World) (hr0 : Kd.C k152 w A0 l0.length l0) (hc0 : l0.length ≤ c0) (h : foretellkeep_Number.f k l0 a1 = some r) :
  Calls Tryd.prog 52 #[.slice A0 l0.length c0, .int .i64 a1] w fun e w' => ∃ v0_ : Value, e = .returned (v0_) ∧ Kd.R k72 72 w' w.heap.size (fun _ => True) v0_ r ∧ Below w.heap.size w w' := by
 have R0 := Aside0.mk hr0
 clear hr0 hc0
 unfold foretellkeep_Number.f at h
 obtain ⟨st, h1, h⟩ := Option.bind_eq_some_iff.mp h
 obtain rfl := Option.some.inj h
 have H1 := Aside0.mk h1
 clear h h1
 go_enter Tryd.func52, Tryd.ntmps52
 go_wp2_with (first | ((with_reducible refine gate_dst (N := 9) rfl ?_); go_must (refine box_event ?hg (N := 9) ?hd (cs := #[.slice A0 l0.length c0, .int .i64 0, .int .i64 a1, .int .i64 0, .int .i64 0, .slice none 0 0]) (t := 128) ?hr ?_; (case hd => rfl); (case hg => rfl); (case hr => first | (go_simp; done) | (go_simp; rfl)); intro g hg w1 hbox hb; have HV := Aside0.mk (show GrownAt w w1 g A0 l0.length c0 a1 0 ⟨0, 0, []⟩ from ⟨_, hbox, Kd.R_nil _ _ _ _ _, hb⟩); have BG := Aside0.mk (show w.heap.size ≤ g by rw [hg]; exact Nat.le_refl _); clear hb hbox hg)) | (go_at_call 77; go_must (refine (grown_number.calls w A0 c0 l0 g a1 0 R0.out BG.out k _ _ _ _ HV.out H1.out).mono ?_; rintro e w2 ⟨rfl, hv⟩; obtain ⟨vo, k2, ro, b2⟩ := hv; have K2 := Aside0.mk k2; have RO := Aside0.mk ro; have HB := Aside0.mk b2; clear k2 ro b2; have hcz5 : w2.cell? ⟨g, 5, none⟩ = some vo := (blk_cell K2.out 5).trans rfl)))
 go_ret
 exact ⟨_, rfl, RO.out, HB.out⟩

def foretellkeep_joined.l0 : Nat → List (List (S72)) → List (S72) → Int → Option ((List (S72)))
 | 0, _, _, _ => none
 | k + 1, x1, x5, x6 => if x6 < (x1.length : Int) then (if 0 ≤ x6 then (if x5.length + (rd_L4 x1 x6).length < 8796093022208 then (foretellkeep_joined.l0 k x1 (x5 ++ (rd_L4 x1 x6)) (wrap64 (x6 + 1))) else (none)) else (none)) else (some x5)
def foretellkeep_joined.f (k : Nat) (a0 : Int) (l1 : List (List (S72))) : Option ((List (S72))) := foretellkeep_joined.l0 k l1 (([(⟨a0, 0⟩ : S72)] : List (S72))) 0
theorem foretellkeep_joined.mono_l : ∀ k, (∀ y0 y1 y2, LeO (foretellkeep_joined.l0 k y0 y1 y2) (foretellkeep_joined.l0 (k + 1) y0 y1 y2))
 | 0 => fun _ _ _ r h => by simp [foretellkeep_joined.l0] at h
 | k + 1 => by
  have ih0 := foretellkeep_joined.mono_l k
  ·
   intro y0 y1 y2
   unfold foretellkeep_joined.l0
   repeat' first
   | (with_reducible exact ih0 _ _ _)
   | (with_reducible exact LeO.refl _)
   | (with_reducible exact LeO.none _)
   | (with_reducible refine LeO.ite ?_ ?_)
   | (with_reducible refine LeO.bind ?_ (fun _ => ?_))
   | exact ih0 _ _ _
   | exact LeO.none _
   | refine LeO.ite ?_ ?_
   | refine LeO.bind ?_ (fun _ => ?_)
theorem foretellkeep_joined.mono : ∀ a0 a1 k, LeO (foretellkeep_joined.f k a0 a1) (foretellkeep_joined.f (k + 1) a0 a1) := by
 intro a0 a1 k
 have ih0 := foretellkeep_joined.mono_l k
 unfold foretellkeep_joined.f
 repeat' first
   | (with_reducible exact ih0 _ _ _)
   | (with_reducible exact LeO.refl _)
   | (with_reducible exact LeO.none _)
   | (with_reducible refine LeO.ite ?_ ?_)
   | (with_reducible refine LeO.bind ?_ (fun _ => ?_))
   | exact ih0 _ _ _
   | exact LeO.none _
   | refine LeO.ite ?_ ?_
   | refine LeO.bind ?_ (fun _ => ?_)
set_option maxHeartbeats 8000000 in
set_option maxRecDepth 100000 in
theorem foretellkeep_joined.calls (k : Nat) (a0 : Int) (A1 : Option Addr) (c1 : Nat) (l1 : List (List (S72))) (r : List (S72)) (w : World) (hr1 : Kd.C (Kd.slice 72 k72) w A1 l1.length l1) (hc1 : l1.length ≤ c1) (h : foretellkeep_joined.f k a0 l1 = some r) :
  Calls Tryd.prog 10 #[.int .i64 a0, .slice A1 l1.length c1] w fun e w' => ∃ v0_ : Value, e = .returned (v0_) ∧ Kd.R k72 72 w' w.heap.size (fun _ => True) v0_ r ∧ Below w.heap.size w w' := by
 have hu72 := Tryd.underlying72
 have HR1 := Aside0.mk hr1
 have HC1 := Aside0.mk hc1
 clear hr1 hc1
 have HB := Aside0.mk (Below.refl w.heap.size w)
 have H : (foretellkeep_joined.l0 k l1 (([(⟨a0, 0⟩ : S72)] : List (S72))) 0) = some r := h
 clear h
 obtain ⟨y104, hy104⟩ : ∃ y_ : List (S72), y_ = (([(⟨a0, 0⟩ : S72)] : List (S72))) := ⟨_, rfl⟩
 replace H : (foretellkeep_joined.l0 k l1 y104 0) = some r := by first | (rw [hy104]; with_reducible exact H) | (have H2_ := (Option.bind_some _ _).symm.trans H; rw [hy104]; with_reducible exact H2_) | (have H2_ := (Option.bind_some _ _).symm.trans H; with_reducible exact H2_) | with_reducible exact H | (rw [hy104]; exact H) | exact H
 have Ny104 := Aside0.mk hy104
 clear hy104
 have H' := Aside0.mk H
 clear H
 go_enter Tryd.func10, Tryd.ntmps10
 go_wp2_with (first | ((with_reducible refine gate_dst (N := 9) rfl ?_); refine Kd.R_lit k72 _ 72 ?hg (N := 9) ?hd (xs := ([(⟨a0, 0⟩ : S72)] : List (S72))) (inner := [.int .i64 a0, .int .i64 0]) (ok := fun _ => True) (okp := fun _ => True) ?hr ?hp (fun _ hk => hk) trivial (Below.refl _ _) (Nat.le_refl _) (by simp) ?_; (case hd => rfl); (case hg => rfl); (case hr => first | (go_simp; done) | (go_simp; rfl)); (case hp => exact (Reps.c2 (show Kd.M k72 _ _ _ (⟨a0, 0⟩ : S72) [.int .i64 a0, .int .i64 0] from (k72_mkM _ _ _ (⟨a0, 0⟩ : S72) )) (Reps.none _ _))); intro v105 w3 ho4 hb hg_ hnew_; clear hg_ hnew_; (first | rw [← Ny104.out] at ho4 | (simp only [Int.reduceToNat] at ho4; rw [← Ny104.out] at ho4)); have n0_ := Aside0.mk (Kd.R_lower ho4 (below_size (bQ))); have n1_ := Aside0.mk (below_step (bQ) hb); clear HB; have HO106 := n0_; have HB := n1_; clear n0_ n1_; clear hb ho4))
 go_loopg [5, 6] k (fun kq v5 v6 w' => ∃ (x5_1 : List (S72)) (x6_1 : Int), v6 = .int .i64 x6_1 ∧ Aside0 (foretellkeep_joined.l0 kq l1 x5_1 x6_1 = some r) ∧ Aside0 (kq ≤ k) ∧ Aside0 (Kd.R k72 72 w' w.heap.size (fun _ => True) v5 x5_1) ∧ Aside0 (Below w.heap.size w w'))
 case atStart => exact ⟨(y104), (0), (by first | rfl | (simp; done) | (simp [*]; done)), H', ⟨Nat.le_refl _⟩, ⟨by (with_reducible repeat (first | apply Kd.R_alloc | apply Kd.R_drewN | apply Kd.R_drew)); exact HO106.out⟩, ⟨bQ⟩⟩
 case round =>
  clear H'
  try clear c1
  try clear c2
  try clear p2
  obtain ⟨x5_1, x6_1, rfl, HA, HK1, HO_5, HB⟩ := hrel
  cases gk with
  | zero => exact absurd HA.out (by simp [foretellkeep_joined.l0])
  | succ k1 =>
   have H := HA.out
   clear HA
   simp only [foretellkeep_joined.l0] at H
   by_cases c5 : x6_1 < (l1.length : Int)
   rotate_left
   ·
    rw [if_neg c5] at H
    have c5b0 : decide (x6_1 < (l1.length : Int)) = false := decide_eq_false c5
    clear c5
    obtain rfl := Option.some.inj H
    go_wp2
    go_ret
    exact ⟨_, by first | rfl | (simp [errW_none, errW_some] <;> rfl) | (simp [*, errW_none, errW_some] <;> rfl), by (with_reducible repeat (first | apply Kd.R_alloc | apply Kd.R_drewN | apply Kd.R_drew)); exact HO_5.out, bQ⟩
   rw [if_pos c5] at H
   have c5b0 : decide (x6_1 < (l1.length : Int)) = true := decide_eq_true c5
   clear c5
   by_cases c6 : 0 ≤ x6_1
   rotate_left
   ·
    rw [if_neg c6] at H
    exact absurd H (by simp)
   rw [if_pos c6] at H
   have c6b0 : decide (0 ≤ x6_1) = true := decide_eq_true c6
   clear c6
   by_cases c7 : x5_1.length + (rd_L4 l1 x6_1).length < 8796093022208
   rotate_left
   ·
    rw [if_neg c7] at H
    exact absurd H (by simp)
   rw [if_pos c7] at H
   have LMc7 := Aside0.mk c7
   clear c7
   obtain ⟨y108, hy108⟩ : ∃ y_ : List (S72), y_ = (x5_1 ++ (rd_L4 l1 x6_1)) := ⟨_, rfl⟩
   replace H : (foretellkeep_joined.l0 k1 l1 y108 (wrap64 (x6_1 + 1))) = some r := by first | (rw [hy108]; with_reducible exact H) | (have H2_ := (Option.bind_some _ _).symm.trans H; rw [hy108]; with_reducible exact H2_) | (have H2_ := (Option.bind_some _ _).symm.trans H; with_reducible exact H2_) | with_reducible exact H | (rw [hy108]; exact H) | exact H
   have Ny108 := Aside0.mk hy108
   clear hy108
   have H' := Aside0.mk H
   clear H
   have p107 : 0 ≤ (x6_1 : Int) := of_decide_eq_true (by first | (with_reducible assumption) | assumption)
   have q107 : x6_1 < (l1.length : Int) := of_decide_eq_true (by first | (with_reducible assumption) | assumption)
   obtain ⟨ad107, A107_0, c107_0, e107, hx107_0, hl107_0, hi107_0⟩ := at_L4 HR1.out x6_1 p107 q107
   cases e107
   replace hx107_0 := (HB.out.cell (World.block_lt_of_cell? w _ hx107_0)).trans hx107_0
   have HR107_0 := Aside0.mk hi107_0
   have HC107_0 := Aside0.mk hl107_0
   clear hi107_0 hl107_0
   replace p107 := eq_true p107
   replace q107 := eq_true q107
   go_wp2_with (first | ((with_reducible refine gate_builtin (b := .append) (xs := #[.tmp 16, .tmp 20]) rfl ?_); at_builtin; refine Kd.R_append_rows k72 (w0 := w) w.heap.size rfl (.tmp 16) (.tmp 20) 32 72 (.agg #[(.int .i64 0), (.int .i64 0)]) 16 rfl Tryd.underlying32 info72 rfl (by decide) (by omega) u5 x5_1 (rd_L4 l1 x6_1) _ _ _ (fun _ => True) (fun _ => False) rfl rfl ?aO ?aR (fun _ _ h => h) (fun _ h => h.elim) ?aF ?aB ?aS ?aL ?_; (case aR => exact cQ HR107_0.out); (case aB => exact (bQ)); (case aF => exact (fun _ _ => trivial)); (case aO => exact (rQR HO_5.out)); (case aS => exact (below_size (bQ))); (case aL => have := LMc7.out; omega); intro v109 w8 ho hb hg hat; rw [← Ny108.out] at ho; have n0_ := Aside0.mk (hb); have n1_ := Aside0.mk (ho); clear HB; clear HO_5; have HB := n0_; have HO110 := n1_; clear n0_ n1_; clear ho hb hg hat))
   go_roundg k1
   case measure => have := HK1.out; omega
   case rel => exact ⟨(y108), (wrap64 (x6_1 + 1)), (by first | rfl | (simp; done) | (simp [*]; done)), H', ⟨by have := HK1.out; omega⟩, ⟨by (with_reducible repeat (first | apply Kd.R_alloc | apply Kd.R_drewN | apply Kd.R_drew)); exact HO110.out⟩, ⟨bQ⟩⟩

--IMPORT FForetellkeepJoined
def foretellkeep_props.f (k : Nat)  : Option ((List (List (S72)))) :=
 (foretellkeep_joined.f k 7 [[(⟨2, 0⟩ : S72)], [(⟨1, 1⟩ : S72)]]).bind fun a => (foretellkeep_joined.f k 7 [[(⟨2, 0⟩ : S72)], [(⟨2, 1⟩ : S72)]]).bind fun b => (foretellkeep_joined.f k 6 [[(⟨2, 0⟩ : S72)], [(⟨2, 1⟩ : S72)]]).bind fun c => some [a, b, c]
theorem foretellkeep_props.mono : ∀ k, LeO (foretellkeep_props.f k ) (foretellkeep_props.f (k + 1) ) := by
 intro k
 unfold foretellkeep_props.f
 exact LeO.bind (foretellkeep_joined.mono _ _ _) (fun _ => LeO.bind (foretellkeep_joined.mono _ _ _) (fun _ => LeO.bind (foretellkeep_joined.mono _ _ _) (fun _ => LeO.refl _)))
theorem props_rows {w : World} {base : Nat} {o0 o1 o2 : Nat → Prop} {v0 v1 v2 : Value} {a b c : List S72} {okj : Nat → Nat → Prop} (h0 : Kd.R k72 72 w base o0 v0 a) (h1 : Kd.R k72 72 w base o1 v1 b) (h2 : Kd.R k72 72 w base o2 v2 c) (k0 : ∀ k, o0 k → okj 0 k) (k1 : ∀ k, o1 k → okj 1 k) (k2 : ∀ k, o2 k → okj 2 k) :
  ∀ j x, [a, b, c][j]? = some x → (Kd.slice 72 k72).M w base (okj j) x (([v0, v1, v2].drop (j * (Kd.slice 72 k72).sz)).take (Kd.slice 72 k72).sz) := by
 intro j x hx
 match j, hx with
 | 0, hx => obtain rfl := Option.some.inj hx; exact ⟨v0, rfl, Kd.R_mono h0 k0⟩
 | 1, hx => obtain rfl := Option.some.inj hx; exact ⟨v1, rfl, Kd.R_mono h1 k1⟩
 | 2, hx => obtain rfl := Option.some.inj hx; exact ⟨v2, rfl, Kd.R_mono h2 k2⟩
 | j + 3, hx => simp at hx
set_option maxHeartbeats 8000000 in
set_option maxRecDepth 100000 in
theorem foretellkeep_props.calls (k : Nat)  (r : List (List (S72))) (w : World) (h : foretellkeep_props.f k  = some r) :
  Calls Tryd.prog 25 #[] w fun e w' => ∃ v0_ : Value, e = .returned (v0_) ∧ Kd.S (Kd.slice 72 k72) 32 w' w.heap.size (fun _ => True) v0_ r ∧ Below w.heap.size w w' := by
 have hu35 := Tryd.underlying72
 unfold foretellkeep_props.f at h
 obtain ⟨a, ha, h2⟩ := Option.bind_eq_some_iff.mp h
 clear h
 obtain ⟨b, hb', h3⟩ := Option.bind_eq_some_iff.mp h2
 clear h2
 obtain ⟨c, hc', h4⟩ := Option.bind_eq_some_iff.mp h3
 clear h3
 obtain rfl := Option.some.inj h4
 clear h4
 have H0 := Aside0.mk (Below.refl w.heap.size w)
 have FA := Aside0.mk ha
 have FB := Aside0.mk hb'
 have FC := Aside0.mk hc'
 clear ha hb' hc'
 go_enter Tryd.func25, Tryd.ntmps25
 go_wp2_with (first | ((with_reducible refine gate_dst (N := 4) rfl ?_); (refine Kd.R_lit (k72) (w0 := w) w.heap.size 72 ?hg (N := 4) ?hd (xs := ([(⟨2, 0⟩ : S72)] : List (S72))) (inner := [.int .i64 2, .int .i64 0]) (ok := fun _ => True) (okp := fun _ => True) ?hr ?hp (fun _ hk => hk) trivial (H0.out) (below_size (H0.out)) (by simp) ?_; (case hd => rfl); (case hg => rfl); (case hr => first | (go_simp; done) | (go_simp; rfl)); (case hp => exact (Reps.c2 (show Kd.M k72 _ _ _ (⟨2, 0⟩ : S72) [.int .i64 2, .int .i64 0] from (k72_mkM _ _ _ (⟨2, 0⟩ : S72))) (Reps.none _ _))); intro v_ w1 ho hb hg hn; obtain ⟨A4, c4, rfl⟩ := Kd.R_slice ho; have hB : Below w.heap.size w w1 := (Below.refl w.heap.size w).grown hg (Nat.le_refl _) (fun k hk => by simp at hk); have Zw1 := Aside0.mk hB.size; have X1 := Aside0.mk ho; have H1 := Aside0.mk hb; clear ho hb hg hn hB)) | ((with_reducible refine gate_dst (N := 6) rfl ?_); (refine Kd.R_lit (k72) (w0 := w) w.heap.size 72 ?hg (N := 6) ?hd (xs := ([(⟨2, 1⟩ : S72)] : List (S72))) (inner := [.int .i64 2, .int .i64 1]) (ok := fun _ => True) (okp := fun _ => True) ?hr ?hp (fun _ hk => hk) trivial (H1.out) (below_size (H1.out)) (by simp) ?_; (case hd => rfl); (case hg => rfl); (case hr => first | (go_simp; done) | (go_simp; rfl)); (case hp => exact (Reps.c2 (show Kd.M k72 _ _ _ (⟨2, 1⟩ : S72) [.int .i64 2, .int .i64 1] from (k72_mkM _ _ _ (⟨2, 1⟩ : S72))) (Reps.none _ _))); intro v_ w2 ho hb hg hn; obtain ⟨A6, c6, rfl⟩ := Kd.R_slice ho; have hB : Below w1.heap.size w1 w2 := (Below.refl w1.heap.size w1).grown hg (Nat.le_refl _) (fun k hk => by simp at hk); have Zw2 := Aside0.mk hB.size; have Y2 := Aside0.mk ho; have H2 := Aside0.mk hb; have X2 := Aside0.mk (Kd.R_below X1.out hB); clear ho hb hg hn hB)) | ((with_reducible refine gate_dst (N := 9) rfl ?_); (refine Kd.R_lit (k72) (w0 := w) w.heap.size 72 ?hg (N := 9) ?hd (xs := ([(⟨1, 1⟩ : S72)] : List (S72))) (inner := [.int .i64 1, .int .i64 1]) (ok := fun _ => True) (okp := fun _ => True) ?hr ?hp (fun _ hk => hk) trivial (H2.out) (below_size (H2.out)) (by simp) ?_; (case hd => rfl); (case hg => rfl); (case hr => first | (go_simp; done) | (go_simp; rfl)); (case hp => exact (Reps.c2 (show Kd.M k72 _ _ _ (⟨1, 1⟩ : S72) [.int .i64 1, .int .i64 1] from (k72_mkM _ _ _ (⟨1, 1⟩ : S72))) (Reps.none _ _))); intro v_ w3 ho hb hg hn; obtain ⟨A9, c9, rfl⟩ := Kd.R_slice ho; have hB : Below w2.heap.size w2 w3 := (Below.refl w2.heap.size w2).grown hg (Nat.le_refl _) (fun k hk => by simp at hk); have Zw3 := Aside0.mk hB.size; have Z3 := Aside0.mk ho; have H3 := Aside0.mk hb; have X3 := Aside0.mk (Kd.R_below X2.out hB); have Y3 := Aside0.mk (Kd.R_below Y2.out hB); clear ho hb hg hn hB)) | ((with_reducible refine gate_dst (N := 10) rfl ?_); (refine Kd.R_lit (Kd.slice 72 k72) (w0 := w) w.heap.size 32 ?hg (N := 10) ?hd (xs := ([[(⟨2, 0⟩ : S72)], [(⟨1, 1⟩ : S72)]] : List (List (S72)))) (inner := [.slice A4 1 c4, .slice A9 1 c9]) (ok := fun _ => True) (okp := fun _ => True) ?hr ?hp (fun _ hk => hk) trivial (H3.out) (below_size (H3.out)) (by simp) ?_; (case hd => rfl); (case hg => rfl); (case hr => first | (go_simp; done) | (go_simp; rfl)); (case hp => exact (Reps.one (show Kd.M (Kd.slice 72 k72) _ _ _ ([(⟨2, 0⟩ : S72)] : List (S72)) [.slice A4 1 c4] from ⟨_, rfl, X3.out⟩) (Reps.one (show Kd.M (Kd.slice 72 k72) _ _ _ ([(⟨1, 1⟩ : S72)] : List (S72)) [.slice A9 1 c9] from ⟨_, rfl, Z3.out⟩) (Reps.none _ _)))); intro v_ w4 ho hb hg hn; obtain ⟨A10, c10, rfl⟩ := Kd.R_slice ho; have hB : Below w3.heap.size w3 w4 := (Below.refl w3.heap.size w3).grown hg (Nat.le_refl _) (fun k hk => by simp at hk); have Zw4 := Aside0.mk hB.size; have L4 := Aside0.mk ho; have H4 := Aside0.mk hb; have X4 := Aside0.mk (Kd.R_below X3.out hB); have Y4 := Aside0.mk (Kd.R_below Y3.out hB); clear ho hb hg hn hB)) | (go_at_call_of 10 (Value.slice A10 2 c10); (refine (foretellkeep_joined.calls k 7 A10 c10 [[(⟨2, 0⟩ : S72)], [(⟨1, 1⟩ : S72)]] a _ (Kd.R_reads' L4.out).2.2 (Kd.R_reads' L4.out).2.1 FA.out).mono ?_; rintro e w5 ⟨v_, rfl, ho, hB⟩; obtain ⟨A11, c11, rfl⟩ := Kd.R_slice ho; have H5 := Aside0.mk (below_step H4.out hB); have P5 := Aside0.mk (show Kd.R k72 72 w5 w.heap.size (fun k => w4.heap.size ≤ k ∧ k < w5.heap.size) (.slice A11 a.length c11) a from Kd.R_lower (Kd.R_mono (Kd.R_bound ho) (fun k hk => ⟨hk.2.1, hk.2.2.1⟩)) H4.out.size); have Zw5 := Aside0.mk hB.size; have X5 := Aside0.mk (Kd.R_below X4.out hB); have Y5 := Aside0.mk (Kd.R_below Y4.out hB); clear ho hB)) | ((with_reducible refine gate_dst (N := 14) rfl ?_); (refine Kd.R_lit (Kd.slice 72 k72) (w0 := w) w.heap.size 32 ?hg (N := 14) ?hd (xs := ([[(⟨2, 0⟩ : S72)], [(⟨2, 1⟩ : S72)]] : List (List (S72)))) (inner := [.slice A4 1 c4, .slice A6 1 c6]) (ok := fun _ => True) (okp := fun _ => True) ?hr ?hp (fun _ hk => hk) trivial (H5.out) (below_size (H5.out)) (by simp) ?_; (case hd => rfl); (case hg => rfl); (case hr => first | (go_simp; done) | (go_simp; rfl)); (case hp => exact (Reps.one (show Kd.M (Kd.slice 72 k72) _ _ _ ([(⟨2, 0⟩ : S72)] : List (S72)) [.slice A4 1 c4] from ⟨_, rfl, X5.out⟩) (Reps.one (show Kd.M (Kd.slice 72 k72) _ _ _ ([(⟨2, 1⟩ : S72)] : List (S72)) [.slice A6 1 c6] from ⟨_, rfl, Y5.out⟩) (Reps.none _ _)))); intro v_ w6 ho hb hg hn; obtain ⟨A14, c14, rfl⟩ := Kd.R_slice ho; have hB : Below w5.heap.size w5 w6 := (Below.refl w5.heap.size w5).grown hg (Nat.le_refl _) (fun k hk => by simp at hk); have Zw6 := Aside0.mk hB.size; have L6 := Aside0.mk ho; have H6 := Aside0.mk hb; have X6 := Aside0.mk (Kd.R_below X5.out hB); have Y6 := Aside0.mk (Kd.R_below Y5.out hB); have P6 := Aside0.mk (Kd.R_below P5.out hB); clear ho hb hg hn hB)) | (go_at_call_of 10 (Value.slice A14 2 c14); (refine (foretellkeep_joined.calls k 7 A14 c14 [[(⟨2, 0⟩ : S72)], [(⟨2, 1⟩ : S72)]] b _ (Kd.R_reads' L6.out).2.2 (Kd.R_reads' L6.out).2.1 FB.out).mono ?_; rintro e w7 ⟨v_, rfl, ho, hB⟩; obtain ⟨A15, c15, rfl⟩ := Kd.R_slice ho; have H7 := Aside0.mk (below_step H6.out hB); have Q7 := Aside0.mk (show Kd.R k72 72 w7 w.heap.size (fun k => w6.heap.size ≤ k ∧ k < w7.heap.size) (.slice A15 b.length c15) b from Kd.R_lower (Kd.R_mono (Kd.R_bound ho) (fun k hk => ⟨hk.2.1, hk.2.2.1⟩)) H6.out.size); have Zw7 := Aside0.mk hB.size; have X7 := Aside0.mk (Kd.R_below X6.out hB); have Y7 := Aside0.mk (Kd.R_below Y6.out hB); have P7 := Aside0.mk (Kd.R_below P6.out hB); clear ho hB)) | ((with_reducible refine gate_dst (N := 18) rfl ?_); (refine Kd.R_lit (Kd.slice 72 k72) (w0 := w) w.heap.size 32 ?hg (N := 18) ?hd (xs := ([[(⟨2, 0⟩ : S72)], [(⟨2, 1⟩ : S72)]] : List (List (S72)))) (inner := [.slice A4 1 c4, .slice A6 1 c6]) (ok := fun _ => True) (okp := fun _ => True) ?hr ?hp (fun _ hk => hk) trivial (H7.out) (below_size (H7.out)) (by simp) ?_; (case hd => rfl); (case hg => rfl); (case hr => first | (go_simp; done) | (go_simp; rfl)); (case hp => exact (Reps.one (show Kd.M (Kd.slice 72 k72) _ _ _ ([(⟨2, 0⟩ : S72)] : List (S72)) [.slice A4 1 c4] from ⟨_, rfl, X7.out⟩) (Reps.one (show Kd.M (Kd.slice 72 k72) _ _ _ ([(⟨2, 1⟩ : S72)] : List (S72)) [.slice A6 1 c6] from ⟨_, rfl, Y7.out⟩) (Reps.none _ _)))); intro v_ w8 ho hb hg hn; obtain ⟨A18, c18, rfl⟩ := Kd.R_slice ho; have hB : Below w7.heap.size w7 w8 := (Below.refl w7.heap.size w7).grown hg (Nat.le_refl _) (fun k hk => by simp at hk); have Zw8 := Aside0.mk hB.size; have L8 := Aside0.mk ho; have H8 := Aside0.mk hb; have P8 := Aside0.mk (Kd.R_below P7.out hB); have Q8 := Aside0.mk (Kd.R_below Q7.out hB); clear ho hb hg hn hB)) | (go_at_call_of 10 (Value.slice A18 2 c18); (refine (foretellkeep_joined.calls k 6 A18 c18 [[(⟨2, 0⟩ : S72)], [(⟨2, 1⟩ : S72)]] c _ (Kd.R_reads' L8.out).2.2 (Kd.R_reads' L8.out).2.1 FC.out).mono ?_; rintro e w9 ⟨v_, rfl, ho, hB⟩; obtain ⟨A19, c19, rfl⟩ := Kd.R_slice ho; have H9 := Aside0.mk (below_step H8.out hB); have S9 := Aside0.mk (show Kd.R k72 72 w9 w.heap.size (fun k => w8.heap.size ≤ k ∧ k < w9.heap.size) (.slice A19 c.length c19) c from Kd.R_lower (Kd.R_mono (Kd.R_bound ho) (fun k hk => ⟨hk.2.1, hk.2.2.1⟩)) H8.out.size); have Zw9 := Aside0.mk hB.size; have P9 := Aside0.mk (Kd.R_below P8.out hB); have Q9 := Aside0.mk (Kd.R_below Q8.out hB); clear ho hB)) | ((with_reducible refine gate_dst (N := 20) rfl ?_); (refine Kd.S_lits (Kd.slice 72 k72) (w0 := w) w.heap.size 32 ?hg (N := 20) ?hd (xs := [a, b, c]) (inner := [.slice A11 a.length c11, .slice A15 b.length c15, .slice A19 c.length c19]) (ok := fun _ => True) (fun j k => (j = 0 ∧ w4.heap.size ≤ k ∧ k < w5.heap.size) ∨ (j = 1 ∧ w6.heap.size ≤ k ∧ k < w7.heap.size) ∨ (j = 2 ∧ w8.heap.size ≤ k ∧ k < w9.heap.size)) ?hr ?hl ?hp ?ha (fun _ _ _ => trivial) trivial H9.out (below_size H9.out) (by simp) ?_; (case hd => rfl); (case hg => rfl); (case hr => first | (go_simp; done) | (go_simp; rfl)); (case hl => rfl); (case ha => (intro i j k h1 h2; have z6 := Zw6.out; have z7 := Zw7.out; have z8 := Zw8.out; omega)); (case hp => exact props_rows P9.out Q9.out S9.out (fun k hk => Or.inl ⟨rfl, hk⟩) (fun k hk => Or.inr (Or.inl ⟨rfl, hk⟩)) (fun k hk => Or.inr (Or.inr ⟨rfl, hk⟩))); intro v_ w10 ho hb hg hn; have L10 := Aside0.mk ho; have H10 := Aside0.mk hb; clear ho hb hg hn)))
 go_ret
 exact ⟨_, rfl, L10.out, H10.out⟩

--IMPORT Derived.WalkSpells
--IMPORT Derived.WalkLawsBesides
--IMPORT Derived.Lib.ConvBytes
/-- May it be a letter of a name? -/
def model_name.chr (i n : Nat) : Bool := decide ((97 ≤ n ∧ n ≤ 122) ∨ (48 ≤ n ∧ n ≤ 57 ∧ i ≠ 0))
def model_name.all : Nat → List UInt8 → Bool
 | _, [] => true
 | i, c :: l => model_name.chr i c.toNat && model_name.all (i + 1) l
def model_name.ok (s : ByteArray) : Bool := if s.toList = [] ∨ 8 < s.size ∨ s.toList = [121, 101, 115] ∨ s.toList = [110, 111] then false else model_name.all 0 s.data.toList
def model_name.f (a0 : ByteArray) : Option (Bool) := some (model_name.ok a0)
theorem bytesWorld_below (w : World) (e : TypeId) (s : ByteArray) : Below w.heap.size w (Lib.bytesWorld w e s) :=
 ⟨rfl, rfl, rfl, by rw [Lib.bytesWorld_size]; omega, fun j hj => Lib.bytesWorld_at_old w e s j hj⟩
set_option maxHeartbeats 8000000 in
set_option maxRecDepth 100000 in
theorem model_name.calls (a0 : ByteArray) (r : Bool) (w : World) (h : model_name.f a0 = some r) :
  Calls Tryd.prog 86 #[.string a0] w fun e w' => e = .returned (.bool r) ∧ Below w.heap.size w w' := by
 unfold model_name.f model_name.ok at h
 have HF := Aside0.mk (Option.some.inj h)
 clear h
 have hcv := fun (w : World) => Lib.run_convert_string_bytes (P := Tryd.prog) w 9 106 5 a0 Tryd.underlying9 Tryd.underlying106 Tryd.underlying5
 by_cases b1 : a0.toList = []
 ·
  have e1 : a0.toList.isEmpty = true := by simp [b1]
  have hf := HF.out
  rw [if_pos (.inl b1)] at hf
  cases hf
  clear HF
  go_enter Tryd.func86, Tryd.ntmps86
  go_wp2
  go_ret
  exact ⟨rfl, Below.refl _ _⟩
 have e1 : a0.toList.isEmpty = false := by simpa using b1
 by_cases b2 : 8 < a0.size
 ·
  have e2 : decide ((8 : Int) < (a0.size : Int)) = true := decide_eq_true (by omega)
  have hf := HF.out
  rw [if_pos (.inr (.inl b2))] at hf
  cases hf
  clear HF
  go_enter Tryd.func86, Tryd.ntmps86
  go_wp2
  go_ret
  exact ⟨rfl, Below.refl _ _⟩
 have e2 : decide ((8 : Int) < (a0.size : Int)) = false := decide_eq_false (by omega)
 by_cases b3 : a0.toList = [121, 101, 115]
 ·
  have e3 : (a0.toList == [121, 101, 115]) = true := by simpa using b3
  have B2 := Aside0.mk b2
  have hf := HF.out
  rw [if_pos (.inr (.inr (.inl b3)))] at hf
  cases hf
  clear HF
  go_enter Tryd.func86, Tryd.ntmps86
  go_wp2
  go_ret
  exact ⟨rfl, Below.refl _ _⟩
 have e3 : (a0.toList == [121, 101, 115]) = false := by simpa using b3
 by_cases b4 : a0.toList = [110, 111]
 ·
  have e4 : (a0.toList == [110, 111]) = true := by simpa using b4
  have hf := HF.out
  rw [if_pos (.inr (.inr (.inr b4)))] at hf
  cases hf
  clear HF
  go_enter Tryd.func86, Tryd.ntmps86
  go_wp2
  go_ret
  exact ⟨rfl, Below.refl _ _⟩
 have e4 : (a0.toList == [110, 111]) = false := by simpa using b4
 have hf := HF.out
 rw [if_neg (by rintro (hh | hh | hh | hh) <;> contradiction)] at hf
 have HF2 := Aside0.mk hf
 have B2 := Aside0.mk b2
 clear hf HF b1 b2 b3 b4
 go_enter Tryd.func86, Tryd.ntmps86
 go_wp2
 clear e1 e2 e3 e4
 have hmx : (a0.size : Int) ≤ 100 := by have := B2.out; omega
 go_loop [23] (fun v23 => ∃ q : Nat, q ≤ a0.size ∧ v23 = .int .i64 q ∧ Aside0 (model_name.all q (a0.data.toList.drop q) = r)) (fun v23 => a0.size - (intOf v23).toNat)
 case atStart => exact ⟨0, by omega, rfl, HF2⟩
 case round =>
  obtain ⟨q, hq, rfl, HQ⟩ := hrel
  have hlen : a0.data.toList.length = a0.size := Array.length_toList
  by_cases c1 : q < a0.size
  rotate_left
  ·
   obtain rfl : q = a0.size := by omega
   have hq2 := HQ.out
   rw [List.drop_of_length_le (by omega)] at hq2
   have HQ2 := Aside0.mk (show true = r from hq2)
   clear hq2 c1 hlen HQ HF2
   go_wp2
   go_ret
   have hh := HQ2.out
   cases hh
   exact ⟨rfl, bytesWorld_below w _ a0⟩
  have hcell := Lib.bytesWorld_cell w 5 a0 q c1
  have hdr : a0.data.toList.drop q = a0.data.toList.getD q 0 :: a0.data.toList.drop (q + 1) := by
   have hl : q < a0.data.toList.length := by omega
   rw [List.drop_eq_getElem_cons hl, List.getD_eq_getElem?_getD, List.getElem?_eq_getElem hl]
   rfl
  have hq2 := HQ.out
  rw [hdr] at hq2
  simp only [model_name.all] at hq2
  have hn : (a0.data.toList.getD q 0).toNat < 256 := UInt8.toNat_lt _
  generalize (a0.data.toList.getD q 0).toNat = n at hcell hq2 hn
  have HN := Aside0.mk hn
  clear hdr hlen hn HQ HF2
  have hcs : ((n : Int) < 48) ∨ ((48 ≤ (n : Int) ∧ (n : Int) ≤ 57) ∧ q = 0) ∨ ((48 ≤ (n : Int) ∧ (n : Int) ≤ 57) ∧ q ≠ 0) ∨ (58 ≤ (n : Int) ∧ (n : Int) ≤ 96) ∨ (97 ≤ (n : Int) ∧ (n : Int) ≤ 122) ∨ (122 < (n : Int)) := by omega
  rcases hcs with d | ⟨⟨d, d2⟩, rfl⟩ | ⟨⟨d, d2⟩, d3⟩ | ⟨d, d2⟩ | ⟨d, d2⟩ | d
  ·
   have e : model_name.chr q n = false := by unfold model_name.chr; exact decide_eq_false (by omega)
   rw [e, Bool.false_and] at hq2
   cases hq2
   clear e
   go_wp2
   go_ret
   exact ⟨rfl, bytesWorld_below w _ a0⟩
  ·
   have e : model_name.chr 0 n = false := by unfold model_name.chr; exact decide_eq_false (by omega)
   rw [e, Bool.false_and] at hq2
   cases hq2
   have d4 : (((0 : Nat) : Int) == 0) = true := rfl
   clear e
   go_wp2
   go_ret
   exact ⟨rfl, bytesWorld_below w _ a0⟩
  ·
   have e : model_name.chr q n = true := by unfold model_name.chr; exact decide_eq_true (by omega)
   rw [e, Bool.true_and] at hq2
   have HQ2 := Aside0.mk hq2
   clear hq2 e
   have d4 : ((q : Int) == 0) = false := beq_eq_false_iff_ne.mpr (by omega)
   have D3 := Aside0.mk d3
   clear d3
   go_wp2
   go_round
   case rel => exact ⟨q + 1, by omega, by go_num, HQ2⟩
   case measure => simp [intOf]; omega
  ·
   have e : model_name.chr q n = false := by unfold model_name.chr; exact decide_eq_false (by omega)
   rw [e, Bool.false_and] at hq2
   cases hq2
   clear e
   go_wp2
   go_ret
   exact ⟨rfl, bytesWorld_below w _ a0⟩
  ·
   have e : model_name.chr q n = true := by unfold model_name.chr; exact decide_eq_true (by omega)
   rw [e, Bool.true_and] at hq2
   have HQ2 := Aside0.mk hq2
   clear hq2 e
   go_wp2
   go_round
   case rel => exact ⟨q + 1, by omega, by go_num, HQ2⟩
   case measure => simp [intOf]; omega
  ·
   have e : model_name.chr q n = false := by unfold model_name.chr; exact decide_eq_false (by omega)
   rw [e, Bool.false_and] at hq2
   cases hq2
   clear e
   go_wp2
   go_ret
   exact ⟨rfl, bytesWorld_below w _ a0⟩

--IMPORT FModelName
--IMPORT Derived.WalkSpells
--IMPORT Derived.WalkLawsBesides
--IMPORT Derived.Maps.OwnSet
--IMPORT Derived.Maps.Views
--IMPORT Derived.Maps.Keyed
--IMPORT Derived.StringKeys
open Go.Maps Go.WideMaps
abbrev model_variables.Vr := S77
def model_variables.rng (v : model_variables.Vr) : Prop := -1000 ≤ v.f1 ∧ v.f2 ≤ 1000 ∧ v.f1 ≤ v.f2 ∧ v.f1 ≤ v.f3 ∧ v.f3 ≤ v.f2
instance (v : model_variables.Vr) : Decidable (model_variables.rng v) := by unfold model_variables.rng; exact inferInstance
def model_variables.go : List model_variables.Vr → List (List UInt8) → Int → Int
 | [], _, _ => 0
 | v :: l, seen, st =>
  if model_name.ok v.f0 = false then 6
  else if v.f0.data.toList ∈ seen then 7
  else if ¬ model_variables.rng v then 2
  else if v.f2 - v.f1 ≥ 64 then 1
  else if st * (v.f2 - v.f1 + 1) > 4096 then 1
  else model_variables.go l (seen ++ [v.f0.data.toList]) (st * (v.f2 - v.f1 + 1))
def model_variables.f (k : Nat) (l0 : List (S77)) : Option (Int) := if (l0.length : Int) > 6 then some 1 else some (model_variables.go l0 [] 1)
theorem model_variables.mono : ∀ a0 k, LeO (model_variables.f k a0) (model_variables.f (k + 1) a0) := by
 intros
 exact LeO.refl _
def model_variables.keys (l : List model_variables.Vr) : List Lit := l.map fun v => .string v.f0.data.toList
def model_variables.set (l : List model_variables.Vr) : DataW Unit := setOf (.agg []) (model_variables.keys l)
theorem model_variables.set_snoc (l : List model_variables.Vr) (v : model_variables.Vr) : model_variables.set (l ++ [v]) = (model_variables.set l).put (.string v.f0.data.toList) (.agg []) := by
 unfold model_variables.set model_variables.keys
 rw [List.map_append, List.map_singleton, setOf_snoc]
theorem same_str (a b : List UInt8) : (Lit.string a).sameKey (Lit.string b) = decide (a = b) := by
 by_cases c : a = b
 ·
  subst c
  simp [Lit.sameKey]
 ·
  rw [sameKey_ne (fun h => c (by injection h)), decide_eq_false c]
theorem model_variables.has_set (l : List model_variables.Vr) (k : List UInt8) : Maps.has (model_variables.set l) (.string k) = decide (k ∈ l.map fun v => v.f0.data.toList) := by
 unfold model_variables.set
 rw [has_setOf _ _ _ (fun x hx => by
  obtain ⟨v, _, rfl⟩ := List.mem_map.1 hx
  trivial)]
 unfold model_variables.keys
 rw [List.any_map, Bool.eq_iff_iff, List.any_eq_true, decide_eq_true_iff, List.mem_map]
 constructor
 ·
  rintro ⟨v, hv, h⟩
  rw [Function.comp_apply, same_str, decide_eq_true_iff] at h
  exact ⟨v, hv, h⟩
 ·
  rintro ⟨v, hv, h⟩
  exact ⟨v, hv, by rw [Function.comp_apply, same_str, decide_eq_true_iff]; exact h⟩
def model_variables.At (w0 w : World) (gm q : Nat) (l : List model_variables.Vr) : Prop := w.ownsMap Tryd.prog 9 unitElem gm q (model_variables.set l) ∧ Below w0.heap.size w0 w ∧ w0.heap.size ≤ gm ∧ gm < w.heap.size
theorem own_of {P : Program} {k b n : Nat} {R : Value → Option (DataW Unit × List MemPlace)} {D : DataW Unit} {w w' : World} (h : w.ownsMap P k R b n D) (e : w'.heap[b]? = w.heap[b]?) : w'.ownsMap P k R b n D := by
 obtain ⟨es, cl, h1, h2⟩ := h
 exact ⟨es, cl, e.trans h1, h2⟩
theorem name_small {s : ByteArray} (h : model_name.ok s = true) : s.size ≤ 8 := by
 unfold model_name.ok at h
 split at h
 ·
  exact absurd h (by simp)
 ·
  rename_i hh
  omega
theorem model_variables.law : Keyed Tryd.prog 9 := string_keyed Tryd.underlying9
set_option maxHeartbeats 8000000 in
set_option maxRecDepth 100000 in
theorem model_variables.calls (k : Nat) (A0 : Option Addr) (c0 : Nat) (l0 : List (S77)) (r : Int) (w : World) (hr0 : Kd.C k77 w A0 l0.length l0) (hc0 : l0.length ≤ c0) (h : model_variables.f k l0 = some r) :
  Calls Tryd.prog 58 #[.slice A0 l0.length c0] w fun e w' => e = .returned (.int .i64 r) ∧ Below w.heap.size w w' := by
 have R0 := Aside0.mk hr0
 have L0 := Aside0.mk hc0
 clear hr0 hc0
 unfold model_variables.f at h
 by_cases c0 : (l0.length : Int) > 6
 ·
  rw [if_pos c0] at h
  cases h
  have c0' : decide ((l0.length : Int) > 6) = true := decide_eq_true c0
  go_enter Tryd.func58, Tryd.ntmps58
  go_wp2
  go_ret
  exact ⟨rfl, Below.refl _ _⟩
 rw [if_neg c0] at h
 have HR := Aside0.mk (Option.some.inj h)
 have hn : (l0.length : Int) ≤ 6 := by omega
 clear c0 h
 have hmm := @run_makeMap Tryd.prog
 have hz75 : ∀ w : World, (zeroValue 166).run Tryd.prog w = .ok (.agg #[]) w := fun w => by kernel_rfl
 go_enter Tryd.func58, Tryd.ntmps58
 go_wp2
 go_loopw [4, 15] (fun v4 v15 wr => ∃ (q : Nat) (st : Int), q ≤ l0.length ∧ v15 = .int .i64 q ∧ v4 = .int .i64 st ∧ 0 ≤ st ∧ st ≤ 4096 ∧ Aside0 (model_variables.go (l0.drop q) ((l0.take q).map fun v => v.f0.data.toList) st = r) ∧ Aside0 (model_variables.At w wr w.heap.size q (l0.take q))) (fun _ v15 _ => l0.length - (intOf v15).toNat)
 case atStart => exact ⟨0, 1, by omega, rfl, rfl, by omega, by omega, HR, ⟨World.ownsMap_made _ _ _ _, below_alloc (Below.refl _ _) _, Nat.le_refl _, by rw [World.size_alloc]; omega⟩⟩
 case round =>
  obtain ⟨q, st, hq, rfl, rfl, hst0, hst1, HG, HA⟩ := hrel
  clear HR
  by_cases c1 : q < l0.length
  rotate_left
  ·
   obtain rfl : q = l0.length := by omega
   have hg := HG.out
   rw [List.drop_length] at hg
   simp only [model_variables.go] at hg
   cases hg
   clear c1
   go_wp2
   go_ret
   exact ⟨rfl, HA.out.2.1⟩
  have hdr : l0.drop q = l0[q] :: l0.drop (q + 1) := List.drop_eq_getElem_cons c1
  have htk : l0.take (q + 1) = l0.take q ++ [l0[q]] := List.take_succ_eq_append_getElem c1
  obtain ⟨ad, e0, hx0, hx1, hx2, hx3⟩ := at_T77 (Kd.C_below R0.out HA.out.2.1) (q : Int) (by omega) (by omega)
  subst e0
  have hrd : rd_T77 l0 (q : Int) = l0[q] := by
   unfold rd_T77
   rw [Int.toNat_natCast, List.getD_eq_getElem?_getD, List.getElem?_eq_getElem c1]
   rfl
  rw [hrd, Int.toNat_natCast] at hx0 hx1 hx2 hx3
  have hg := HG.out
  rw [hdr] at hg
  clear hrd hdr
  generalize l0[q] = v at *
  have HTK := Aside0.mk htk
  clear htk
  simp only [model_variables.go] at hg
  by_cases c2 : model_name.ok v.f0 = false
  ·
   rw [if_pos c2] at hg
   cases hg
   go_wp2_with (first | ((with_reducible refine gate_dst (N := 6) rfl ?_); go_must (refine box_event ?hg (N := 6) ?hd (cs := #[(.string ⟨#[]⟩), (.int .i64 0), (.int .i64 0), (.int .i64 0)]) (t := 77) ?hr ?_; (case hd => rfl); (case hg => rfl); (case hr => first | (go_simp; done) | (go_simp; rfl)); intro g6 hg w3 hbox hb; have K6 := Aside0.mk hbox; have G6 := Aside0.mk (show wr.heap.size ≤ g6 by rw [hg]; exact Nat.le_refl _); have B3 := Aside0.mk hb; clear hb hbox hg; have ha0 : w3.cell? ⟨g6, 0, none⟩ = some (.string ⟨#[]⟩) := (blk_cell K6.out 0).trans rfl; have fha0 := blk_frozen K6.out 0; have ha1 : w3.cell? ⟨g6, 1, none⟩ = some (.int .i64 0) := (blk_cell K6.out 1).trans rfl; have fha1 := blk_frozen K6.out 1; have ha2 : w3.cell? ⟨g6, 2, none⟩ = some (.int .i64 0) := (blk_cell K6.out 2).trans rfl; have fha2 := blk_frozen K6.out 2; have ha3 : w3.cell? ⟨g6, 3, none⟩ = some (.int .i64 0) := (blk_cell K6.out 3).trans rfl; have fha3 := blk_frozen K6.out 3; )) | ((with_reducible refine gate_store (t := 77) (p := 6) rfl ?_); go_must (refine store_event (t := 77) (p := 6) (v := .tmp 18) (w1 := ((((w3.setCell ⟨g6, 0, none⟩ (.string v.f0)).setCell ⟨g6, 1, none⟩ (.int .i64 v.f1)).setCell ⟨g6, 2, none⟩ (.int .i64 v.f2)).setCell ⟨g6, 3, none⟩ (.int .i64 v.f3))) ?hg ?ho ?hn ?hr ?_; (case ho => rfl); (case hg => rfl); (case hn => rfl); (case hr => first | (go_simp; done) | (go_simp; rfl)); intro w4 hw; have K7 := Aside0.mk (show w4.heap[g6]? = some (.cells #[(.string v.f0), (.int .i64 v.f1), (.int .i64 v.f2), (.int .i64 v.f3)] 77 (0, 0)) by rw [hw]; exact blk_put (blk_put (blk_put (blk_put K6.out 0 _ rfl) 1 _ rfl) 2 _ rfl) 3 _ rfl); have B4 := Aside0.mk (show Below wr.heap.size wr w4 by rw [hw]; exact (((B3.out.setCell G6.out _).setCell G6.out _).setCell G6.out _).setCell G6.out _); clear hw ha0 ha1 ha2 ha3 fha0 fha1 fha2 fha3; have hb0 : w4.cell? ⟨g6, 0, none⟩ = some (.string v.f0) := (blk_cell K7.out 0).trans rfl; have hb1 : w4.cell? ⟨g6, 1, none⟩ = some (.int .i64 v.f1) := (blk_cell K7.out 1).trans rfl; have hb2 : w4.cell? ⟨g6, 2, none⟩ = some (.int .i64 v.f2) := (blk_cell K7.out 2).trans rfl; have hb3 : w4.cell? ⟨g6, 3, none⟩ = some (.int .i64 v.f3) := (blk_cell K7.out 3).trans rfl; )) | (go_at_call 86; go_must (refine (model_name.calls v.f0 _ _ rfl).mono ?_; rintro e w5 ⟨rfl, hb⟩; have K8 := Aside0.mk (blk_below K7.out hb); have B5 := Aside0.mk (below_step B4.out hb); clear hb; have hc0 : w5.cell? ⟨g6, 0, none⟩ = some (.string v.f0) := (blk_cell K8.out 0).trans rfl; have hc1 : w5.cell? ⟨g6, 1, none⟩ = some (.int .i64 v.f1) := (blk_cell K8.out 1).trans rfl; have hc2 : w5.cell? ⟨g6, 2, none⟩ = some (.int .i64 v.f2) := (blk_cell K8.out 2).trans rfl; have hc3 : w5.cell? ⟨g6, 3, none⟩ = some (.int .i64 v.f3) := (blk_cell K8.out 3).trans rfl; )))
   go_ret
   exact ⟨rfl, HA.out.2.1.trans (B5.out.mono HA.out.2.1.size)⟩
  rw [if_neg c2] at hg
  have c2' : model_name.ok v.f0 = true := by simpa using c2
  have hs8 : v.f0.size ≤ 8 := name_small c2'
  have hkey := keyOf_string_mk (P := Tryd.prog) (k := 9) Tryd.underlying9 (s := v.f0) (by unfold maxLen; omega)
  clear c2
  have C2 := Aside0.mk c2'
  have HG2 := Aside0.mk hg
  clear hg
  go_upto_region 10 with (first | ((with_reducible refine gate_dst (N := 6) rfl ?_); go_must (refine box_event ?hg (N := 6) ?hd (cs := #[(.string ⟨#[]⟩), (.int .i64 0), (.int .i64 0), (.int .i64 0)]) (t := 77) ?hr ?_; (case hd => rfl); (case hg => rfl); (case hr => first | (go_simp; done) | (go_simp; rfl)); intro g6 hg w3 hbox hb; have K6 := Aside0.mk hbox; have G6 := Aside0.mk (show wr.heap.size ≤ g6 by rw [hg]; exact Nat.le_refl _); have B3 := Aside0.mk hb; clear hb hbox hg; have ha0 : w3.cell? ⟨g6, 0, none⟩ = some (.string ⟨#[]⟩) := (blk_cell K6.out 0).trans rfl; have fha0 := blk_frozen K6.out 0; have ha1 : w3.cell? ⟨g6, 1, none⟩ = some (.int .i64 0) := (blk_cell K6.out 1).trans rfl; have fha1 := blk_frozen K6.out 1; have ha2 : w3.cell? ⟨g6, 2, none⟩ = some (.int .i64 0) := (blk_cell K6.out 2).trans rfl; have fha2 := blk_frozen K6.out 2; have ha3 : w3.cell? ⟨g6, 3, none⟩ = some (.int .i64 0) := (blk_cell K6.out 3).trans rfl; have fha3 := blk_frozen K6.out 3; )) | ((with_reducible refine gate_store (t := 77) (p := 6) rfl ?_); go_must (refine store_event (t := 77) (p := 6) (v := .tmp 18) (w1 := ((((w3.setCell ⟨g6, 0, none⟩ (.string v.f0)).setCell ⟨g6, 1, none⟩ (.int .i64 v.f1)).setCell ⟨g6, 2, none⟩ (.int .i64 v.f2)).setCell ⟨g6, 3, none⟩ (.int .i64 v.f3))) ?hg ?ho ?hn ?hr ?_; (case ho => rfl); (case hg => rfl); (case hn => rfl); (case hr => first | (go_simp; done) | (go_simp; rfl)); intro w4 hw; have K7 := Aside0.mk (show w4.heap[g6]? = some (.cells #[(.string v.f0), (.int .i64 v.f1), (.int .i64 v.f2), (.int .i64 v.f3)] 77 (0, 0)) by rw [hw]; exact blk_put (blk_put (blk_put (blk_put K6.out 0 _ rfl) 1 _ rfl) 2 _ rfl) 3 _ rfl); have B4 := Aside0.mk (show Below wr.heap.size wr w4 by rw [hw]; exact (((B3.out.setCell G6.out _).setCell G6.out _).setCell G6.out _).setCell G6.out _); clear hw ha0 ha1 ha2 ha3 fha0 fha1 fha2 fha3; have hb0 : w4.cell? ⟨g6, 0, none⟩ = some (.string v.f0) := (blk_cell K7.out 0).trans rfl; have hb1 : w4.cell? ⟨g6, 1, none⟩ = some (.int .i64 v.f1) := (blk_cell K7.out 1).trans rfl; have hb2 : w4.cell? ⟨g6, 2, none⟩ = some (.int .i64 v.f2) := (blk_cell K7.out 2).trans rfl; have hb3 : w4.cell? ⟨g6, 3, none⟩ = some (.int .i64 v.f3) := (blk_cell K7.out 3).trans rfl; )) | (go_at_call 86; go_must (refine (model_name.calls v.f0 _ _ rfl).mono ?_; rintro e w5 ⟨rfl, hb⟩; have K8 := Aside0.mk (blk_below K7.out hb); have B5 := Aside0.mk (below_step B4.out hb); clear hb; have hc0 : w5.cell? ⟨g6, 0, none⟩ = some (.string v.f0) := (blk_cell K8.out 0).trans rfl; have hc1 : w5.cell? ⟨g6, 1, none⟩ = some (.int .i64 v.f1) := (blk_cell K8.out 1).trans rfl; have hc2 : w5.cell? ⟨g6, 2, none⟩ = some (.int .i64 v.f2) := (blk_cell K8.out 2).trans rfl; have hc3 : w5.cell? ⟨g6, 3, none⟩ = some (.int .i64 v.f3) := (blk_cell K8.out 3).trans rfl; )))
  clear C2
  have hown := Aside0.mk (own_of (w' := w5) HA.out.1 (B5.out.block _ HA.out.2.2.2))
  have hhas := model_variables.has_set (l0.take q) v.f0.data.toList
  have S8 := Aside0.mk hs8
  have HK := Aside0.mk hkey
  clear c2' hs8 hkey hx0 hx1 hx2 hx3
  have hg := HG2.out
  by_cases c3 : v.f0.data.toList ∈ (l0.take q).map fun v => v.f0.data.toList
  ·
   rw [if_pos c3] at hg
   cases hg
   rw [decide_eq_true c3] at hhas
   go_wp2_with (first | (at_lookup; go_must (refine wpList_lookup_own_unit _ rfl (.tmp 24) (.tmp 26) 165 rfl 9 166 model_variables.law Tryd.underlying165 (hz75 _) w.heap.size q (model_variables.set (l0.take q)) rfl hown.out (.string v.f0) (.string v.f0.data.toList) rfl HK.out ?_)))
   go_ret
   exact ⟨rfl, HA.out.2.1.trans ((below_alloc B5.out _).mono HA.out.2.1.size)⟩
  rw [if_neg c3] at hg
  rw [decide_eq_false c3] at hhas
  have HG3 := Aside0.mk hg
  clear hg c3 HG2
  have GNE := Aside0.mk (show g6 ≠ w.heap.size by have := G6.out; have := HA.out.2.2.2; omega)
  go_upto_region 14 with (first | (at_lookup; go_must (refine wpList_lookup_own_unit _ rfl (.tmp 24) (.tmp 26) 165 rfl 9 166 model_variables.law Tryd.underlying165 (hz75 _) w.heap.size q (model_variables.set (l0.take q)) rfl hown.out (.string v.f0) (.string v.f0.data.toList) rfl HK.out ?_)) | ((with_reducible refine gate_dst (N := 7) rfl ?_); go_must (refine box_event ?hg (N := 7) ?hd (cs := #[]) (t := 166) ?hr ?_; (case hd => rfl); (case hg => rfl); (case hr => first | (go_simp; done) | (go_simp; rfl)); intro g7 hg w6 hbox hb; have K9 := Aside0.mk (blk_below K8.out hb); have B6 := Aside0.mk (below_step B5.out hb); have hown6 := Aside0.mk (own_of (w' := w6) HA.out.1 (B6.out.block _ HA.out.2.2.2)); clear hb hbox hg; have hd0 : w6.cell? ⟨g6, 0, none⟩ = some (.string v.f0) := (blk_cell K9.out 0).trans rfl; have hd1 : w6.cell? ⟨g6, 1, none⟩ = some (.int .i64 v.f1) := (blk_cell K9.out 1).trans rfl; have hd2 : w6.cell? ⟨g6, 2, none⟩ = some (.int .i64 v.f2) := (blk_cell K9.out 2).trans rfl; have hd3 : w6.cell? ⟨g6, 3, none⟩ = some (.int .i64 v.f3) := (blk_cell K9.out 3).trans rfl)) | (at_mapUpdate; go_must (refine wpList_mapUpdate_own _ rfl (.tmp 31) (.tmp 33) (.tmp 34) 165 rfl 9 166 model_variables.law Tryd.underlying165 unitElem w.heap.size q (model_variables.set (l0.take q)) rfl hown6.out (by unfold maxLen; omega) (.string v.f0) (.agg #[]) (.string v.f0.data.toList) rfl rfl HK.out (.agg []) [] unitElem_mk ?_; intro w7 hown7 hgrow7; have O7 := Aside0.mk hown7; have GR7 := Aside0.mk hgrow7; have K10 := Aside0.mk (blk_grown K9.out hgrow7 (fun e => GNE.out (by injection e))); clear hown7 hgrow7; have he0 : w7.cell? ⟨g6, 0, none⟩ = some (.string v.f0) := (blk_cell K10.out 0).trans rfl; have he1 : w7.cell? ⟨g6, 1, none⟩ = some (.int .i64 v.f1) := (blk_cell K10.out 1).trans rfl; have he2 : w7.cell? ⟨g6, 2, none⟩ = some (.int .i64 v.f2) := (blk_cell K10.out 2).trans rfl; have he3 : w7.cell? ⟨g6, 3, none⟩ = some (.int .i64 v.f3) := (blk_cell K10.out 3).trans rfl)))
  have BW := Aside0.mk (show Below w.heap.size w w7 from (HA.out.2.1.trans (B6.out.mono HA.out.2.1.size)).grown GR7.out (Nat.le_of_lt (Nat.lt_of_lt_of_le HA.out.2.2.2 B6.out.size)) (fun k hk => by cases hk; exact Nat.le_refl _))
  clear hhas
  have hg := HG3.out
  by_cases c4 : model_variables.rng v
  rotate_left
  ·
   rw [if_pos c4] at hg
   cases hg
   have C4 := Aside0.mk c4
   clear c4
   have hcs : v.f1 < -1000 ∨ (-1000 ≤ v.f1 ∧ 1000 < v.f2) ∨ (-1000 ≤ v.f1 ∧ v.f2 ≤ 1000 ∧ v.f2 < v.f1) ∨ (-1000 ≤ v.f1 ∧ v.f2 ≤ 1000 ∧ v.f1 ≤ v.f2 ∧ v.f3 < v.f1) ∨ (-1000 ≤ v.f1 ∧ v.f2 ≤ 1000 ∧ v.f1 ≤ v.f2 ∧ v.f1 ≤ v.f3 ∧ v.f2 < v.f3) := by
    have hc := C4.out
    unfold model_variables.rng at hc
    omega
   rcases hcs with d1 | ⟨d1, d2⟩ | ⟨d1, d2, d3⟩ | ⟨d1, d2, d3, d4⟩ | ⟨d1, d2, d3, d4, d5⟩
   all_goals go_wp2
   all_goals go_ret
   all_goals exact ⟨rfl, BW.out⟩
  rw [if_neg (not_not_intro c4)] at hg
  obtain ⟨r1, r2, r3, r4, r5⟩ := c4
  by_cases c5 : v.f2 - v.f1 ≥ 64
  ·
   rw [if_pos c5] at hg
   cases hg
   go_wp2
   go_ret
   exact ⟨rfl, BW.out⟩
  rw [if_neg c5] at hg
  have hm0 : 0 ≤ v.f2 - v.f1 := by omega
  have hm1 : v.f2 - v.f1 < 64 := by omega
  have hml : st * (v.f2 - v.f1 + 1) ≤ 4096 * 64 := Int.mul_le_mul hst1 (by omega) (by omega) (by omega)
  have hmg : 0 ≤ st * (v.f2 - v.f1 + 1) := Int.mul_nonneg hst0 (by omega)
  have e64 : wrap64 (st * (v.f2 - v.f1 + 1)) = st * (v.f2 - v.f1 + 1) := by unfold wrap64; omega
  by_cases c6 : st * (v.f2 - v.f1 + 1) > 4096
  ·
   rw [if_pos c6] at hg
   cases hg
   go_wp2
   go_ret
   exact ⟨rfl, BW.out⟩
  rw [if_neg c6] at hg
  have HG4 := Aside0.mk hg
  clear hg
  go_wp2
  go_roundw
  case rel => exact ⟨q + 1, _, by omega, by go_num, rfl, hmg, by omega, ⟨by rw [HTK.out, List.map_append]; exact HG4.out⟩, ⟨by rw [HTK.out, model_variables.set_snoc]; exact O7.out, BW.out, Nat.le_refl _, Nat.lt_of_lt_of_le HA.out.2.2.2 (Nat.le_trans B6.out.size GR7.out.size)⟩⟩
  case measure => simp [intOf]; omega

end Go.Proofs.YtbokbbcoekeoaaaDoor.P
end
section
namespace Go.Proofs.YtbokbbcoekeoaaaDoor.P
open Go.RowKit Go.Proofs.YtbokbbcoekeoaaaDoorW.PrintWords Go.Proofs.YtbokbbcoekeoaaaDoorW.PrintLast Go.Proofs.YtbokbbcoekeoaaaDoorW.PrintMore Go.Proofs.YtbokbbcoekeoaaaDoor.G
attribute [local go_sem] max2_int min2_int max_two min_two max_three min_three max_four min_four
set_option linter.unusedVariables false
set_option linter.unusedSimpArgs false

/-- How many parts each kind has. -/
def polish_Parts.tab : List Int := [-1, 0, 0, 2, 2, 2, 2, 2, 2, 2, 1, 0, 0, 0, 1, 2, 2, 1, 1]
def polish_Parts.f (a0 : Int) : Option (Int × Int) := if a0 < 1 then some (0, 13) else if 18 < a0 then some (0, 13) else some (polish_Parts.tab.getD a0.toNat 0, 0)
set_option maxHeartbeats 8000000 in
set_option maxRecDepth 100000 in
theorem polish_Parts.calls (a0 : Int) (r1 : Int) (r2 : Int) (w : World) (hG_ : Glob w) (h : polish_Parts.f a0 = some (r1, r2)) :
  Calls Tryd.prog 110 #[.int .i64 a0] w fun e w' => e = .returned (.tuple #[.int .i64 r1, .int .i64 r2]) ∧ Drawn0 w w' := by
 unfold polish_Parts.f at h
 by_cases c1 : a0 < 1
 ·
  rw [if_pos c1] at h
  have c1' : decide (a0 < 1) = true := decide_eq_true c1
  obtain ⟨rfl, rfl⟩ := Prod.mk.inj (Option.some.inj h)
  go_enter Tryd.func110, Tryd.ntmps110
  go_wp2
  go_ret2
  exact ⟨rfl, 0, rfl⟩
 rw [if_neg c1] at h
 have c1' : decide (a0 < 1) = false := decide_eq_false c1
 by_cases c2 : 18 < a0
 ·
  rw [if_pos c2] at h
  have c2' : decide (18 < a0) = true := decide_eq_true c2
  obtain ⟨rfl, rfl⟩ := Prod.mk.inj (Option.some.inj h)
  go_enter Tryd.func110, Tryd.ntmps110
  go_wp2
  go_ret2
  exact ⟨rfl, 0, rfl⟩
 rw [if_neg c2] at h
 have c2' : decide (18 < a0) = false := decide_eq_false c2
 obtain ⟨rfl, rfl⟩ := Prod.mk.inj (Option.some.inj h)
 have hcell : w.cell? ⟨1, a0.toNat, none⟩ = some (.int .i64 (polish_Parts.tab.getD a0.toNat 0)) := hG_.at_ a0.toNat (by show a0.toNat < 19; omega)
 generalize polish_Parts.tab.getD a0.toNat 0 = t at hcell ⊢
 have b0 : (0 ≤ a0) = True := eq_true (by omega)
 have b1 : (a0 < 19) = True := eq_true (by omega)
 clear c1 c2
 go_enter Tryd.func110, Tryd.ntmps110
 go_wp2
 go_ret2
 exact ⟨rfl, 0, rfl⟩

--IMPORT FPolishParts
--IMPORT Derived.WalkSpells
--IMPORT Derived.WalkLawsBesides
mutual
/-- What 'skip' answers (what it panics with, 0: nothing), and the ends behind it. -/
def polish_skip.f : Nat → List S72 → Int → List Int → Option (Int × Int × List Int)
 | 0, _, _, _ => none
 | k + 1, l, a, es => if 0 ≤ a then (if a < (l.length : Int) then (if (rd_T72 l a).f0 < 1 then some (13, 0, es) else (if 18 < (rd_T72 l a).f0 then some (13, 0, es) else polish_skip.l k l a (polish_Parts.tab.getD ((rd_T72 l a).f0).toNat 0) 0 (wrap64 (a + 1)) es)) else some (4, 0, es)) else none
def polish_skip.l : Nat → List S72 → Int → Int → Int → Int → List Int → Option (Int × Int × List Int)
 | 0, _, _, _, _, _, _ => none
 | k + 1, l, a, n, i, e, es => if i < n then ((polish_skip.f k l e es).bind fun r => if r.1 = 0 then polish_skip.l k l a n (wrap64 (i + 1)) r.2.1 r.2.2 else some (r.1, 0, r.2.2)) else (if a < (es.length : Int) then some (0, e, es.set a.toNat e) else none)
end
theorem polish_skip.mono_l : ∀ k, (∀ l a es, LeO (polish_skip.f k l a es) (polish_skip.f (k + 1) l a es)) ∧ (∀ l a n i e es, LeO (polish_skip.l k l a n i e es) (polish_skip.l (k + 1) l a n i e es))
 | 0 => ⟨fun _ _ _ r h => by simp [polish_skip.f] at h, fun _ _ _ _ _ _ r h => by simp [polish_skip.l] at h⟩
 | k + 1 => by
  obtain ⟨ih0, ih1⟩ := polish_skip.mono_l k
  refine ⟨fun l a es => ?_, fun l a n i e es => ?_⟩
  ·
   unfold polish_skip.f
   exact LeO.ite (LeO.ite (LeO.ite (LeO.refl _) (LeO.ite (LeO.refl _) (ih1 _ _ _ _ _ _))) (LeO.refl _)) (LeO.none _)
  ·
   unfold polish_skip.l
   exact LeO.ite (LeO.bind (ih0 _ _ _) (fun _ => LeO.ite (ih1 _ _ _ _ _ _) (LeO.refl _))) (LeO.refl _)
/-- What stands in memory while the reader goes on. -/
def polish_skip.St (w0 w : World) (gr : Nat) (A : Option Addr) (n c : Nat) (es : List Int) : Prop :=
 ∃ ve, w.heap[gr]? = some (.cells #[.slice A n c, ve] 163 (0, 0)) ∧ Kd.R (Kd.int .i64) 3 w w0.heap.size (fun _ => True) ve es ∧ Below w0.heap.size w0 w
theorem polish_skip.St.drewN {w0 w : World} {gr : Nat} {A : Option Addr} {n c : Nat} {es : List Int} (h : polish_skip.St w0 w gr A n c es) (m : Nat) : polish_skip.St w0 (w.drewN m) gr A n c es := by
 obtain ⟨ve, h1, h2, h3⟩ := h
 exact ⟨ve, h1, Kd.R_drewN h2 m, pw_below_drewN h3 m⟩
def polish_skip.pan (n : Int) : List PanicEntry := [{ v := .iface 38 (.int .i64 n), recovered := false }]
set_option maxHeartbeats 8000000 in
set_option maxRecDepth 100000 in
theorem polish_skip.calls (w0 : World) (A : Option Addr) (c : Nat) (l : List S72) (gr : Nat) (hr : Kd.C k72 w0 A l.length l) (hc : l.length ≤ c) (hG_ : Glob w0) (bg : w0.heap.size ≤ gr) (k : Nat) :
  ∀ (a : Int) (es : List Int) (r : Int × Int × List Int) (w : World) (hv : polish_skip.St w0 w gr A l.length c es) (h : polish_skip.f k l a es = some r),
   Calls Tryd.prog 85 #[.pointer (some ⟨gr, 0, none⟩), .int .i64 a] w fun e w' => (if r.1 = 0 then e = .returned (.int .i64 r.2.1) else e = .panicked (polish_skip.pan r.1)) ∧ polish_skip.St w0 w' gr A l.length c r.2.2 := by
 induction k using Nat.strongRecOn with
 | _ k ih =>
 intro a es r w hv h
 have R0 := Aside0.mk hr
 have L0 := Aside0.mk hc
 have BG := Aside0.mk bg
 have GL := Aside0.mk hG_
 clear hr hc hG_ bg
 cases k with
 | zero => exact absurd h (by simp [polish_skip.f])
 | succ k =>
 simp only [polish_skip.f] at h
 have HS := hv
 obtain ⟨ve, hbk, hre, hb⟩ := hv
 have BK := Aside0.mk hbk
 have RE := Aside0.mk hre
 have HB := Aside0.mk hb
 clear hbk hre hb
 obtain ⟨Ae, ce, rfl⟩ := Kd.R_slice RE.out
 have RW := Aside0.mk (Kd.C_below R0.out HB.out)
 have hcz0 : w.cell? ⟨gr, 0, none⟩ = some (.slice A l.length c) := (blk_cell BK.out 0).trans rfl
 have hcz1 : w.cell? ⟨gr, 1, none⟩ = some (.slice Ae es.length ce) := (blk_cell BK.out 1).trans rfl
 by_cases c1 : 0 ≤ a
 rotate_left
 ·
  rw [if_neg c1] at h
  exact absurd h (by simp)
 rw [if_pos c1] at h
 by_cases c2 : a < (l.length : Int)
 rotate_left
 ·
  rw [if_neg c2] at h
  have c2' : decide (a ≥ (l.length : Int)) = true := decide_eq_true (by omega)
  obtain rfl := Option.some.inj h
  clear c1 c2
  go_enter Tryd.func85, Tryd.ntmps85
  go_wp2
  exact ⟨rfl, rfl, HS⟩
 rw [if_pos c2] at h
 have c2' : decide (a ≥ (l.length : Int)) = false := decide_eq_false (by omega)
 obtain ⟨ad, eA, hx0, hx1⟩ := at_T72 RW.out a c1 c2
 subst eA
 have HX0 := Aside0.mk hx0
 have c1' := eq_true c1
 have c2b := eq_true c2
 clear c1 c2
 generalize hop : rd_T72 l a = op at *
 by_cases c3 : op.f0 < 1
 ·
  rw [if_pos c3] at h
  obtain rfl := Option.some.inj h
  go_enter Tryd.func85, Tryd.ntmps85
  go_wp2_with (go_at_call 110; go_must (refine (polish_Parts.calls op.f0 0 13 _ (Glob.below GL.out HB.out) (by unfold polish_Parts.f; rw [if_pos c3])).mono ?_; rintro e w' ⟨rfl, ⟨nd, rfl⟩⟩))
  exact ⟨rfl, rfl, HS.drewN nd⟩
 rw [if_neg c3] at h
 by_cases c4 : 18 < op.f0
 ·
  rw [if_pos c4] at h
  obtain rfl := Option.some.inj h
  go_enter Tryd.func85, Tryd.ntmps85
  go_wp2_with (go_at_call 110; go_must (refine (polish_Parts.calls op.f0 0 13 _ (Glob.below GL.out HB.out) (by unfold polish_Parts.f; rw [if_neg c3, if_pos c4])).mono ?_; rintro e w' ⟨rfl, ⟨nd, rfl⟩⟩))
  exact ⟨rfl, rfl, HS.drewN nd⟩
 rw [if_neg c4] at h
 have HP := Aside0.mk (show polish_Parts.f op.f0 = some (polish_Parts.tab.getD op.f0.toNat 0, 0) by unfold polish_Parts.f; rw [if_neg c3, if_neg c4])
 clear c3 c4
 generalize polish_Parts.tab.getD op.f0.toNat 0 = n at *
 have H' := Aside0.mk h
 clear h
 go_enter Tryd.func85, Tryd.ntmps85
 go_wp2_with (go_at_call 110; go_must (refine (polish_Parts.calls op.f0 n 0 _ (Glob.below GL.out HB.out) HP.out).mono ?_; rintro e w' ⟨rfl, ⟨nd, rfl⟩⟩))
 go_loopg [7, 35] k (fun kq v7 v35 w' => ∃ (e i : Int) (es1 : List Int), v7 = .int .i64 e ∧ v35 = .int .i64 i ∧ Aside0 (polish_skip.l kq l a n i e es1 = some r) ∧ Aside0 (kq ≤ k) ∧ Aside0 (polish_skip.St w0 w' gr (some ad) l.length c es1))
 case atStart => exact ⟨_, 0, es, rfl, rfl, H', ⟨Nat.le_refl _⟩, ⟨HS.drewN nd⟩⟩
 case round =>
  clear H' HS HP hx0 hx1 HX0 hop hcz0 hcz1 RW RE BK HB
  obtain ⟨e, i, es1, rfl, rfl, HA, HK, HV⟩ := hrel
  cases gk with
  | zero => exact absurd HA.out (by simp [polish_skip.l])
  | succ k1 =>
   have H := HA.out
   clear HA
   simp only [polish_skip.l] at H
   by_cases d1 : i < n
   ·
    rw [if_pos d1] at H
    have d1' : decide (i < n) = true := decide_eq_true d1
    clear d1
    obtain ⟨r1, A1, H⟩ := Option.bind_eq_some_iff.mp H
    have HA1 := Aside0.mk A1
    clear A1
    by_cases d2 : r1.1 = 0
    ·
     rw [if_pos d2] at H
     have D2 := Aside0.mk d2
     clear d2
     have H' := Aside0.mk H
     clear H
     go_wp2_with (go_at_call 85; go_must (refine (ih k1 (by have := HK.out; omega) e es1 r1 _ HV.out HA1.out).mono ?_; rintro e' w2 ⟨he, hv⟩; rw [if_pos D2.out] at he; subst he; have HV2 := Aside0.mk hv; clear hv))
     go_roundg k1
     case measure => have := HK.out; omega
     case rel => exact ⟨_, wrap64 (i + 1), r1.2.2, rfl, rfl, H', ⟨by have := HK.out; omega⟩, HV2⟩
    ·
     rw [if_neg d2] at H
     have D2 := Aside0.mk d2
     clear d2
     obtain rfl := Option.some.inj H
     clear H
     go_wp2_with (go_at_call 85; go_must (refine (ih k1 (by have := HK.out; omega) e es1 r1 _ HV.out HA1.out).mono ?_; rintro e' w2 ⟨he, hv⟩; rw [if_neg D2.out] at he; subst he; have HV2 := Aside0.mk hv; clear hv))
     all_goals first | exact absurd (by assumption) D2.out | exact ⟨rfl, rfl, HV2.out⟩
   ·
    rw [if_neg d1] at H
    have d1' : decide (i < n) = false := decide_eq_false d1
    clear d1
    by_cases d2 : a < (es1.length : Int)
    ·
     rw [if_pos d2] at H
     obtain rfl := Option.some.inj H
     clear H
     obtain ⟨ve, hbk, hre, hb⟩ := HV.out
     have BK := Aside0.mk hbk
     have RE := Aside0.mk hre
     have HB := Aside0.mk hb
     clear hbk hre hb HV
     obtain ⟨Ae2, ce2, rfl⟩ := Kd.R_slice RE.out
     obtain ⟨gs, cp, he5, _, _, cgs, hgs⟩ := Kd.R_form RE.out (by have := of_eq_true c1'; omega)
     cases he5
     have HGS := Aside0.mk hgs
     have N5s : gr ≠ gs := blk_ne BK.out hgs (by decide)
     obtain ⟨hcs, hfs⟩ := Kd.R_celln (0 : Int) RE.out a (of_eq_true c1') d2
     have d2' := eq_true d2
     clear hgs d2
     have hcz1 : wr.cell? ⟨gr, 1, none⟩ = some (.slice (some ⟨gs, 0, none⟩) es1.length ce2) := (blk_cell BK.out 1).trans rfl
     go_wp2_with ((with_reducible refine gate_store (t := 3) (p := 47) (v := .tmp 46) rfl ?_); go_must (refine store_event (t := 3) (p := 47) (v := .tmp 46) (w1 := (wr.setCell ⟨gs, a.toNat, none⟩ (.int .i64 e))) ?hg ?ho ?hn ?hr ?_; (case ho => rfl); (case hg => rfl); (case hn => rfl); (case hr => first | (go_simp; done) | (go_simp; rfl)); intro w1 hw1; have HV2 := Aside0.mk (show polish_skip.St w0 w1 gr (some ad) l.length c (es1.set a.toNat e) by rw [hw1]; exact ⟨_, blk_far (p := ⟨gs, a.toNat, none⟩) BK.out N5s _, by exact Kd.R_putn RE.out a e, HB.out.setCell (Kd.R_base RE.out gs rfl) _⟩); clear hw1))
     go_ret
     exact ⟨rfl, HV2.out⟩
    ·
     rw [if_neg d2] at H
     exact absurd H (by simp)

--IMPORT Derived.WalkSpells
--IMPORT Derived.WalkLawsBesides
--IMPORT Derived.Recover
set_option maxRecDepth 100000 in
theorem polish_catch.panicking (g2 g3 : Nat) (v2 v3 : Value) (n : Int) (w : World) (h2 : w.heap[g2]? = some (.cells #[v2] 43 (0, 0))) (h3 : w.heap[g3]? = some (.cells #[v3] 38 (0, 0))) (hne : g2 ≠ g3) :
  CallsD Tryd.prog 84 #[.pointer (some ⟨g2, 0, none⟩), .pointer (some ⟨g3, 0, none⟩)] (.panicking [{ v := .iface 38 (.int .i64 n), recovered := false }]) w fun e u' w' =>
   e = .returned (.tuple #[]) ∧ u' = .panicking [{ v := .iface 38 (.int .i64 n), recovered := true }] ∧ w'.heap[g2]? = some (.cells #[.slice none 0 0] 43 (0, 0)) ∧ w'.heap[g3]? = some (.cells #[.int .i64 n] 38 (0, 0)) ∧ ∀ b, b ≤ g2 → b ≤ g3 → Below b w w' := by
 have hc2 : w.cell? ⟨g2, 0, none⟩ = some v2 := (blk_cell h2 0).trans rfl
 have hc3 : w.cell? ⟨g3, 0, none⟩ = some v3 := (blk_cell h3 0).trans rfl
 have hz2 := blk_frozen h2 0
 have hz3 := blk_frozen h3 0
 have hn3 : g3 ≠ g2 := hne.symm
 have B2 := Aside0.mk h2
 have B3 := Aside0.mk h3
 clear h2 h3
 refine callsD_of_wpS Tryd.func84 rfl fun c₀ cs hu => ?_
 apply wpS_seq
 apply wpS_region
 simp [wpOpsS, go_sem, recoverD, hu, Tryd.ntmps84, Exit.thenS]
 apply wpS_seq
 apply wpS_region
 simp [wpOpsS, go_sem, recoverD, hu, Tryd.ntmps84, Exit.thenS]
 refine wpS_cond (t := true) (by simp [Act.eval, Array.replicate]) ?_
 simp only [if_true]
 have hta : ∀ W : World, (Instr.typeAssert (.iface 38 (.int .i64 n)) 20 38 false).run Tryd.prog W = .ok (.int .i64 n) W := fun W => by rfl
 refine wpS_of_wp ?_
 go_region
 all_goals
  have b2 : w.drew.heap[g2]? = some (.cells #[v2] 43 (0, 0)) := B2.out
  have b3 : w.drew.heap[g3]? = some (.cells #[v3] 38 (0, 0)) := B3.out
  refine ⟨rfl, _, rfl, .tuple #[], by simp [results, Tryd.results84], rfl, rfl, ?_, ?_, fun b h2 h3 => ?_⟩
  ·
   first
   | exact blk_far (p := ⟨g3, 0, none⟩) (blk_put b2 0 _ rfl) hne _
   | exact blk_put (blk_far (p := ⟨g3, 0, none⟩) b2 hne _) 0 _ rfl
  ·
   first
   | exact blk_far (p := ⟨g2, 0, none⟩) (blk_put b3 0 _ rfl) hn3 _
   | exact blk_put (blk_far (p := ⟨g2, 0, none⟩) b3 hn3 _) 0 _ rfl
  ·
   have b0 : Below b w w.drew := (Below.refl b w).drew
   first
   | exact (b0.setCell (p := ⟨g2, 0, none⟩) h2 _).setCell (p := ⟨g3, 0, none⟩) h3 _
   | exact (b0.setCell (p := ⟨g3, 0, none⟩) h3 _).setCell (p := ⟨g2, 0, none⟩) h2 _
theorem polish_catch.idle (p q : Addr) (w : World) :
  CallsD Tryd.prog 84 #[.pointer (some p), .pointer (some q)] .returning w fun e u' w' => e = .returned (.tuple #[]) ∧ u' = .returning ∧ w' = w := by
 refine callsD_of_wpS Tryd.func84 rfl fun c₀ cs hu => ?_
 apply wpS_seq
 apply wpS_region
 simp [wpOpsS, go_sem, recoverD, hu, Tryd.ntmps84, Exit.thenS]
 apply wpS_seq
 apply wpS_region
 simp [wpOpsS, go_sem, recoverD, hu, Tryd.ntmps84, Exit.thenS]
 refine wpS_cond (t := false) (by simp [Act.eval, Array.replicate]) ?_
 simp only [Bool.false_eq_true, if_false]
 refine wpS_of_wp (wp_skip ?_)
 cases c₀
 simp_all [bodyPostS, results, Tryd.results84]

--IMPORT Derived.WalkSpells
--IMPORT Derived.WalkLawsBesides
--IMPORT Derived.Recover
def polish_Ends.f (k : Nat) (l0 : List (S72)) : Option (List Int × Int) := if 60 < (l0.length : Int) then some ([], 1) else ((polish_skip.f k l0 0 (List.replicate l0.length 0)).bind fun r => if r.1 = 0 then (if r.2.1 = (l0.length : Int) then some (r.2.2, 0) else some ([], 3)) else some ([], r.1))
theorem polish_Ends.mono : ∀ a0 k, LeO (polish_Ends.f k a0) (polish_Ends.f (k + 1) a0) := by
 intro a0 k
 unfold polish_Ends.f
 exact LeO.ite (LeO.refl _) (LeO.bind ((polish_skip.mono_l k).1 _ _ _) (fun _ => LeO.refl _))
set_option maxHeartbeats 8000000 in
set_option maxRecDepth 100000 in
theorem polish_Ends.calls (k : Nat) (A0 : Option Addr) (c0 : Nat) (l0 : List (S72)) (r1 : List Int) (r2 : Int) (w : World) (hr0 : Kd.C k72 w A0 l0.length l0) (hc0 : l0.length ≤ c0) (hG_ : Glob w) (h : polish_Ends.f k l0 = some (r1, r2)) :
  Calls Tryd.prog 55 #[.slice A0 l0.length c0] w fun e w' => ∃ v0_ : Value, e = .returned (.tuple #[v0_, .int .i64 r2]) ∧ Kd.R (Kd.int .i64) 3 w' w.heap.size (fun _ => True) v0_ r1 ∧ Below w.heap.size w w' := by
 have hmf : ∀ (fn : Fn) (first cap : Array Value) (w : World), (Instr.makeFunc fn first cap).run Tryd.prog w = .ok (.func fn first cap) w := fun _ _ _ _ => rfl
 have info3 := (by kernel_rfl : (Tryd.prog.info? 3).map (fun i => (i.zero, i.size, i.bytes)) = some (some (.int .i64 0), 1, 8))
 have R0 := Aside0.mk hr0
 have L0 := Aside0.mk hc0
 have GL := Aside0.mk hG_
 clear hr0 hc0 hG_
 unfold polish_Ends.f at h
 by_cases c1 : 60 < (l0.length : Int)
 ·
  rw [if_pos c1] at h
  have c1' : decide ((l0.length : Int) > 60) = true := decide_eq_true c1
  clear c1
  obtain ⟨rfl, rfl⟩ := Prod.mk.inj (Option.some.inj h)
  clear h
  go_enter_defers Tryd.func55, Tryd.ntmps55
  go_wp2_with (first | ((with_reducible refine gate_dst (N := 2) rfl ?_); go_must (refine box_event ?hg (N := 2) ?hd (cs := #[.slice none 0 0]) (t := 43) ?hr ?_; (case hd => rfl); (case hg => rfl); (case hr => first | (go_simp; done) | (go_simp; rfl)); intro g2 hg w1 hbox hb; have BK2 := Aside0.mk hbox; have HB1 := Aside0.mk hb; have B2 := Aside0.mk (show w.heap.size ≤ g2 by rw [hg]; exact Nat.le_refl _); clear hb hbox hg)) | ((with_reducible refine gate_dst (N := 3) rfl ?_); go_must (refine box_event ?hg (N := 3) ?hd (cs := #[.int .i64 0]) (t := 38) ?hr ?_; (case hd => rfl); (case hg => rfl); (case hr => first | (go_simp; done) | (go_simp; rfl)); intro g3 hg w2 hbox hb; have BK3 := Aside0.mk hbox; have K2 := Aside0.mk (blk_below BK2.out hb); have HB2 := Aside0.mk (below_step HB1.out hb); have B3 := Aside0.mk (show w.heap.size ≤ g3 by rw [hg]; exact below_size HB1.out); clear hb hbox hg; have N23 : g2 ≠ g3 := blk_ne K2.out BK3.out (by decide); have hcz2 : w2.cell? ⟨g2, 0, none⟩ = some (.slice none 0 0) := (blk_cell K2.out 0).trans rfl; have hfz2 := blk_frozen K2.out 0; have hcz3 : w2.cell? ⟨g3, 0, none⟩ = some (.int .i64 0) := (blk_cell BK3.out 0).trans rfl; have hfz3 := blk_frozen BK3.out 0)))
  have k2 := blk_far (p := ⟨g3, 0, none⟩) (blk_put K2.out 0 (.slice none 0 0) rfl) N23 (.int .i64 1)
  have k3 := blk_put (blk_far (p := ⟨g2, 0, none⟩) BK3.out N23.symm (.slice none 0 0)) 0 (.int .i64 1) rfl
  have kb := (HB2.out.setCell (p := ⟨g2, 0, none⟩) B2.out (.slice none 0 0)).setCell (p := ⟨g3, 0, none⟩) B3.out (.int .i64 1)
  generalize (w2.setCell ⟨g2, 0, none⟩ (.slice none 0 0)).setCell ⟨g3, 0, none⟩ (.int .i64 1) = W at *
  have q2 : W.cell? ⟨g2, 0, none⟩ = some (.slice none 0 0) := (blk_cell k2 0).trans rfl
  have q3 : W.cell? ⟨g3, 0, none⟩ = some (.int .i64 1) := (blk_cell k3 0).trans rfl
  refine ⟨.tuple #[.slice none 0 0, .int .i64 1], ?_, _, rfl, Kd.R_nil _ _ _ _ _, kb⟩
  simp [results, Tryd.results55, go_sem, q2, q3]
 rw [if_neg c1] at h
 have c1' : decide ((l0.length : Int) > 60) = false := decide_eq_false c1
 have LM := Aside0.mk c1
 clear c1
 obtain ⟨r, hA, h⟩ := Option.bind_eq_some_iff.mp h
 have HA := Aside0.mk hA
 clear hA
 by_cases c2 : r.1 = 0
 rotate_left
 ·
  rw [if_neg c2] at h
  have C2 := Aside0.mk c2
  clear c2
  obtain ⟨rfl, rfl⟩ := Prod.mk.inj (Option.some.inj h)
  clear h
  go_enter_defers Tryd.func55, Tryd.ntmps55
  go_wp2_with (first | ((with_reducible refine gate_dst (N := 2) rfl ?_); go_must (refine box_event ?hg (N := 2) ?hd (cs := #[.slice none 0 0]) (t := 43) ?hr ?_; (case hd => rfl); (case hg => rfl); (case hr => first | (go_simp; done) | (go_simp; rfl)); intro g2 hg w1 hbox hb; have BK2 := Aside0.mk hbox; have HB1 := Aside0.mk hb; have B2 := Aside0.mk (show w.heap.size ≤ g2 by rw [hg]; exact Nat.le_refl _); clear hb hbox hg)) | ((with_reducible refine gate_dst (N := 3) rfl ?_); go_must (refine box_event ?hg (N := 3) ?hd (cs := #[.int .i64 0]) (t := 38) ?hr ?_; (case hd => rfl); (case hg => rfl); (case hr => first | (go_simp; done) | (go_simp; rfl)); intro g3 hg w2 hbox hb; have BK3 := Aside0.mk hbox; have K2 := Aside0.mk (blk_below BK2.out hb); have HB2 := Aside0.mk (below_step HB1.out hb); have B3 := Aside0.mk (show w.heap.size ≤ g3 by rw [hg]; exact below_size HB1.out); clear hb hbox hg; have N23 : g2 ≠ g3 := blk_ne K2.out BK3.out (by decide); have hcz2 : w2.cell? ⟨g2, 0, none⟩ = some (.slice none 0 0) := (blk_cell K2.out 0).trans rfl; have hfz2 := blk_frozen K2.out 0; have hcz3 : w2.cell? ⟨g3, 0, none⟩ = some (.int .i64 0) := (blk_cell BK3.out 0).trans rfl; have hfz3 := blk_frozen BK3.out 0)) | ((with_reducible refine gate_dst (N := 12) rfl ?_); go_must (refine Kd.R_make (Kd.int .i64) (w0 := w2) w2.heap.size 3 rfl (N := 12) rfl 43 _ _ rfl (l0.length : Int) rfl rfl Tryd.underlying43 (.int .i64 0) 8 info3 rfl (by decide) (by omega) 0 (ok := fun _ => True) (okp := fun _ => True) rfl (fun _ hk => hk) trivial (by omega) (by have := LM.out; omega) (Below.refl _ _) (Nat.le_refl _) ?_; intro ve w3 ho hb hg hnew; obtain ⟨As, cs5, rfl⟩ := Kd.R_slice ho; rw [List.length_replicate, Int.toNat_natCast] at ho; have RE3 := Aside0.mk ho; have HB3 := Aside0.mk hb; clear ho hb hg hnew)) | ((with_reducible refine gate_dst (N := 14) rfl ?_); go_must (refine box_event ?hg (N := 14) ?hd (cs := #[.slice A0 l0.length c0, .slice As l0.length cs5]) (t := 163) ?hr ?_; (case hd => rfl); (case hg => rfl); (case hr => first | (go_simp; done) | (go_simp; rfl)); intro gr hg w4 hbox hb; have HS := Aside0.mk (show polish_skip.St w2 w4 gr A0 l0.length c0 (List.replicate l0.length 0) from ⟨_, hbox, Kd.R_below RE3.out hb, below_step HB3.out hb⟩); have BG := Aside0.mk (show w2.heap.size ≤ gr by rw [hg]; exact below_size HB3.out); clear hb hbox hg)) | (go_at_call 85; go_must (refine (polish_skip.calls w2 A0 c0 l0 gr (Kd.C_below R0.out HB2.out) L0.out (Glob.below GL.out HB2.out) BG.out k 0 (List.replicate l0.length 0) r w4 HS.out HA.out).mono ?_; rintro e w5 ⟨he, hv⟩; rw [if_neg C2.out] at he; subst he; have HS5 := Aside0.mk hv; clear hv; obtain ⟨ve, k5, re5, b5⟩ := HS5.out; have K5 := Aside0.mk k5; have RE5 := Aside0.mk re5; have HB5 := Aside0.mk b5; clear k5 re5 b5; obtain ⟨Ae, ce, rfl⟩ := Kd.R_slice RE5.out; have K52 := Aside0.mk (blk_below K2.out HB5.out); have K53 := Aside0.mk (blk_below BK3.out HB5.out); have hdz2 : w5.cell? ⟨g2, 0, none⟩ = some (.slice none 0 0) := (blk_cell K52.out 0).trans rfl; have hdf2 := blk_frozen K52.out 0; have hdz3 : w5.cell? ⟨g3, 0, none⟩ = some (.int .i64 0) := (blk_cell K53.out 0).trans rfl; have hdf3 := blk_frozen K53.out 0; have hdz4 : w5.cell? ⟨gr, 1, none⟩ = some (.slice Ae r.2.2.length ce) := (blk_cell K5.out 1).trans rfl)))
  refine leaves_cons (f := 84) (args := #[.pointer (some ⟨g2, 0, none⟩), .pointer (some ⟨g3, 0, none⟩)]) (by simp) (by simp [go_sem]) ?_
  refine (polish_catch.panicking g2 g3 _ _ r.1 _ K52.out K53.out N23).mono ?_
  rintro e u' w' ⟨rfl, rfl, k2, k3, kb⟩
  have q2 : w'.cell? ⟨g2, 0, none⟩ = some (.slice none 0 0) := (blk_cell k2 0).trans rfl
  have q3 : w'.cell? ⟨g3, 0, none⟩ = some (.int .i64 r.1) := (blk_cell k3 0).trans rfl
  refine ⟨.tuple #[.slice none 0 0, .int .i64 r.1], ?_, _, rfl, Kd.R_nil _ _ _ _ _, (below_step HB2.out HB5.out).trans (kb _ B2.out B3.out)⟩
  simp [results, Tryd.results55, go_sem, q2, q3]
 rw [if_pos c2] at h
 have C2 := Aside0.mk c2
 clear c2
 by_cases c3 : r.2.1 = (l0.length : Int)
 rotate_left
 ·
  rw [if_neg c3] at h
  obtain ⟨rfl, rfl⟩ := Prod.mk.inj (Option.some.inj h)
  clear h
  go_enter_defers Tryd.func55, Tryd.ntmps55
  go_wp2_with (first | ((with_reducible refine gate_dst (N := 2) rfl ?_); go_must (refine box_event ?hg (N := 2) ?hd (cs := #[.slice none 0 0]) (t := 43) ?hr ?_; (case hd => rfl); (case hg => rfl); (case hr => first | (go_simp; done) | (go_simp; rfl)); intro g2 hg w1 hbox hb; have BK2 := Aside0.mk hbox; have HB1 := Aside0.mk hb; have B2 := Aside0.mk (show w.heap.size ≤ g2 by rw [hg]; exact Nat.le_refl _); clear hb hbox hg)) | ((with_reducible refine gate_dst (N := 3) rfl ?_); go_must (refine box_event ?hg (N := 3) ?hd (cs := #[.int .i64 0]) (t := 38) ?hr ?_; (case hd => rfl); (case hg => rfl); (case hr => first | (go_simp; done) | (go_simp; rfl)); intro g3 hg w2 hbox hb; have BK3 := Aside0.mk hbox; have K2 := Aside0.mk (blk_below BK2.out hb); have HB2 := Aside0.mk (below_step HB1.out hb); have B3 := Aside0.mk (show w.heap.size ≤ g3 by rw [hg]; exact below_size HB1.out); clear hb hbox hg; have N23 : g2 ≠ g3 := blk_ne K2.out BK3.out (by decide); have hcz2 : w2.cell? ⟨g2, 0, none⟩ = some (.slice none 0 0) := (blk_cell K2.out 0).trans rfl; have hfz2 := blk_frozen K2.out 0; have hcz3 : w2.cell? ⟨g3, 0, none⟩ = some (.int .i64 0) := (blk_cell BK3.out 0).trans rfl; have hfz3 := blk_frozen BK3.out 0)) | ((with_reducible refine gate_dst (N := 12) rfl ?_); go_must (refine Kd.R_make (Kd.int .i64) (w0 := w2) w2.heap.size 3 rfl (N := 12) rfl 43 _ _ rfl (l0.length : Int) rfl rfl Tryd.underlying43 (.int .i64 0) 8 info3 rfl (by decide) (by omega) 0 (ok := fun _ => True) (okp := fun _ => True) rfl (fun _ hk => hk) trivial (by omega) (by have := LM.out; omega) (Below.refl _ _) (Nat.le_refl _) ?_; intro ve w3 ho hb hg hnew; obtain ⟨As, cs5, rfl⟩ := Kd.R_slice ho; rw [List.length_replicate, Int.toNat_natCast] at ho; have RE3 := Aside0.mk ho; have HB3 := Aside0.mk hb; clear ho hb hg hnew)) | ((with_reducible refine gate_dst (N := 14) rfl ?_); go_must (refine box_event ?hg (N := 14) ?hd (cs := #[.slice A0 l0.length c0, .slice As l0.length cs5]) (t := 163) ?hr ?_; (case hd => rfl); (case hg => rfl); (case hr => first | (go_simp; done) | (go_simp; rfl)); intro gr hg w4 hbox hb; have HS := Aside0.mk (show polish_skip.St w2 w4 gr A0 l0.length c0 (List.replicate l0.length 0) from ⟨_, hbox, Kd.R_below RE3.out hb, below_step HB3.out hb⟩); have BG := Aside0.mk (show w2.heap.size ≤ gr by rw [hg]; exact below_size HB3.out); clear hb hbox hg)) | (go_at_call 85; go_must (refine (polish_skip.calls w2 A0 c0 l0 gr (Kd.C_below R0.out HB2.out) L0.out (Glob.below GL.out HB2.out) BG.out k 0 (List.replicate l0.length 0) r w4 HS.out HA.out).mono ?_; rintro e w5 ⟨he, hv⟩; rw [if_pos C2.out] at he; subst he; have HS5 := Aside0.mk hv; clear hv; obtain ⟨ve, k5, re5, b5⟩ := HS5.out; have K5 := Aside0.mk k5; have RE5 := Aside0.mk re5; have HB5 := Aside0.mk b5; clear k5 re5 b5; obtain ⟨Ae, ce, rfl⟩ := Kd.R_slice RE5.out; have K52 := Aside0.mk (blk_below K2.out HB5.out); have K53 := Aside0.mk (blk_below BK3.out HB5.out); have hdz2 : w5.cell? ⟨g2, 0, none⟩ = some (.slice none 0 0) := (blk_cell K52.out 0).trans rfl; have hdf2 := blk_frozen K52.out 0; have hdz3 : w5.cell? ⟨g3, 0, none⟩ = some (.int .i64 0) := (blk_cell K53.out 0).trans rfl; have hdf3 := blk_frozen K53.out 0; have hdz4 : w5.cell? ⟨gr, 1, none⟩ = some (.slice Ae r.2.2.length ce) := (blk_cell K5.out 1).trans rfl)))
  refine leaves_cons (f := 84) (args := #[.pointer (some ⟨g2, 0, none⟩), .pointer (some ⟨g3, 0, none⟩)]) (by simp) (by simp [go_sem]) ?_
  refine (polish_catch.panicking g2 g3 _ _ 3 _ K52.out K53.out N23).mono ?_
  rintro e u' w' ⟨rfl, rfl, k2, k3, kb⟩
  have q2 : w'.cell? ⟨g2, 0, none⟩ = some (.slice none 0 0) := (blk_cell k2 0).trans rfl
  have q3 : w'.cell? ⟨g3, 0, none⟩ = some (.int .i64 3) := (blk_cell k3 0).trans rfl
  refine ⟨.tuple #[.slice none 0 0, .int .i64 3], ?_, _, rfl, Kd.R_nil _ _ _ _ _, (below_step HB2.out HB5.out).trans (kb _ B2.out B3.out)⟩
  simp [results, Tryd.results55, go_sem, q2, q3]
 rw [if_pos c3] at h
 have C3 := Aside0.mk c3
 obtain ⟨rfl, rfl⟩ := Prod.mk.inj (Option.some.inj h)
 clear h
 have c3' : decide (r.2.1 ≠ (l0.length : Int)) = false := decide_eq_false (by omega)
 go_enter_defers Tryd.func55, Tryd.ntmps55
 go_wp2_with (first | ((with_reducible refine gate_dst (N := 2) rfl ?_); go_must (refine box_event ?hg (N := 2) ?hd (cs := #[.slice none 0 0]) (t := 43) ?hr ?_; (case hd => rfl); (case hg => rfl); (case hr => first | (go_simp; done) | (go_simp; rfl)); intro g2 hg w1 hbox hb; have BK2 := Aside0.mk hbox; have HB1 := Aside0.mk hb; have B2 := Aside0.mk (show w.heap.size ≤ g2 by rw [hg]; exact Nat.le_refl _); clear hb hbox hg)) | ((with_reducible refine gate_dst (N := 3) rfl ?_); go_must (refine box_event ?hg (N := 3) ?hd (cs := #[.int .i64 0]) (t := 38) ?hr ?_; (case hd => rfl); (case hg => rfl); (case hr => first | (go_simp; done) | (go_simp; rfl)); intro g3 hg w2 hbox hb; have BK3 := Aside0.mk hbox; have K2 := Aside0.mk (blk_below BK2.out hb); have HB2 := Aside0.mk (below_step HB1.out hb); have B3 := Aside0.mk (show w.heap.size ≤ g3 by rw [hg]; exact below_size HB1.out); clear hb hbox hg; have N23 : g2 ≠ g3 := blk_ne K2.out BK3.out (by decide); have hcz2 : w2.cell? ⟨g2, 0, none⟩ = some (.slice none 0 0) := (blk_cell K2.out 0).trans rfl; have hfz2 := blk_frozen K2.out 0; have hcz3 : w2.cell? ⟨g3, 0, none⟩ = some (.int .i64 0) := (blk_cell BK3.out 0).trans rfl; have hfz3 := blk_frozen BK3.out 0)) | ((with_reducible refine gate_dst (N := 12) rfl ?_); go_must (refine Kd.R_make (Kd.int .i64) (w0 := w2) w2.heap.size 3 rfl (N := 12) rfl 43 _ _ rfl (l0.length : Int) rfl rfl Tryd.underlying43 (.int .i64 0) 8 info3 rfl (by decide) (by omega) 0 (ok := fun _ => True) (okp := fun _ => True) rfl (fun _ hk => hk) trivial (by omega) (by have := LM.out; omega) (Below.refl _ _) (Nat.le_refl _) ?_; intro ve w3 ho hb hg hnew; obtain ⟨As, cs5, rfl⟩ := Kd.R_slice ho; rw [List.length_replicate, Int.toNat_natCast] at ho; have RE3 := Aside0.mk ho; have HB3 := Aside0.mk hb; clear ho hb hg hnew)) | ((with_reducible refine gate_dst (N := 14) rfl ?_); go_must (refine box_event ?hg (N := 14) ?hd (cs := #[.slice A0 l0.length c0, .slice As l0.length cs5]) (t := 163) ?hr ?_; (case hd => rfl); (case hg => rfl); (case hr => first | (go_simp; done) | (go_simp; rfl)); intro gr hg w4 hbox hb; have HS := Aside0.mk (show polish_skip.St w2 w4 gr A0 l0.length c0 (List.replicate l0.length 0) from ⟨_, hbox, Kd.R_below RE3.out hb, below_step HB3.out hb⟩); have BG := Aside0.mk (show w2.heap.size ≤ gr by rw [hg]; exact below_size HB3.out); clear hb hbox hg)) | (go_at_call 85; go_must (refine (polish_skip.calls w2 A0 c0 l0 gr (Kd.C_below R0.out HB2.out) L0.out (Glob.below GL.out HB2.out) BG.out k 0 (List.replicate l0.length 0) r w4 HS.out HA.out).mono ?_; rintro e w5 ⟨he, hv⟩; rw [if_pos C2.out] at he; subst he; have HS5 := Aside0.mk hv; clear hv; obtain ⟨ve, k5, re5, b5⟩ := HS5.out; have K5 := Aside0.mk k5; have RE5 := Aside0.mk re5; have HB5 := Aside0.mk b5; clear k5 re5 b5; obtain ⟨Ae, ce, rfl⟩ := Kd.R_slice RE5.out; have K52 := Aside0.mk (blk_below K2.out HB5.out); have K53 := Aside0.mk (blk_below BK3.out HB5.out); have hdz2 : w5.cell? ⟨g2, 0, none⟩ = some (.slice none 0 0) := (blk_cell K52.out 0).trans rfl; have hdf2 := blk_frozen K52.out 0; have hdz3 : w5.cell? ⟨g3, 0, none⟩ = some (.int .i64 0) := (blk_cell K53.out 0).trans rfl; have hdf3 := blk_frozen K53.out 0; have hdz4 : w5.cell? ⟨gr, 1, none⟩ = some (.slice Ae r.2.2.length ce) := (blk_cell K5.out 1).trans rfl)))
 have k2 := blk_far (p := ⟨g3, 0, none⟩) (blk_put K52.out 0 (.slice Ae r.2.2.length ce) rfl) N23 (.int .i64 0)
 have k3 := blk_put (blk_far (p := ⟨g2, 0, none⟩) K53.out N23.symm (.slice Ae r.2.2.length ce)) 0 (.int .i64 0) rfl
 have kb := ((below_step HB2.out HB5.out).setCell (p := ⟨g2, 0, none⟩) B2.out (.slice Ae r.2.2.length ce)).setCell (p := ⟨g3, 0, none⟩) B3.out (.int .i64 0)
 have kr := Kd.R_set (Kd.R_set RE5.out K52.out (by decide) 0 (.slice Ae r.2.2.length ce)) (blk_far (p := ⟨g2, 0, none⟩) K53.out N23.symm (.slice Ae r.2.2.length ce)) (by decide) 0 (.int .i64 0)
 generalize (w5.setCell ⟨g2, 0, none⟩ (.slice Ae r.2.2.length ce)).setCell ⟨g3, 0, none⟩ (.int .i64 0) = W at *
 have q2 : W.cell? ⟨g2, 0, none⟩ = some (.slice Ae r.2.2.length ce) := (blk_cell k2 0).trans rfl
 have q3 : W.cell? ⟨g3, 0, none⟩ = some (.int .i64 0) := (blk_cell k3 0).trans rfl
 refine leaves_cons (f := 84) (args := #[.pointer (some ⟨g2, 0, none⟩), .pointer (some ⟨g3, 0, none⟩)]) (by simp) (by simp [go_sem]) ?_
 refine (polish_catch.idle _ _ _).mono ?_
 rintro e u' w' ⟨rfl, rfl, rfl⟩
 refine ⟨.tuple #[.slice Ae r.2.2.length ce, .int .i64 0], ?_, _, rfl, Kd.R_lower kr (below_size HB2.out), kb⟩
 simp [results, Tryd.results55, go_sem, q2, q3]

mutual
def expr_truth.j0 : Nat → Int → Bool → Option (Bool × Bool × Bool)
 | 0, _, _ => none
 | k + 1, x5, x6 => if x6 = true then (some (false, false, true)) else (if x5 = 6 then (expr_truth.j1 k x5 (x5 == 6)) else (expr_truth.j1 k x5 (x5 == 7)))
def expr_truth.j1 : Nat → Int → Bool → Option (Bool × Bool × Bool)
 | 0, _, _ => none
 | k + 1, x5, x12 => if x12 = true then (some (true, false, true)) else (if x5 = 8 then (some (true, true, true)) else (if x5 = 9 then (some (true, true, true)) else (if x5 = 10 then (some (true, true, true)) else (if x5 = 11 then (some (true, true, true)) else (if x5 = 12 then (some (true, true, true)) else (some (false, false, false)))))))
end
def expr_truth.f (k : Nat) (a0 : Int) : Option (Bool × Bool × Bool) := if a0 = 1 then (expr_truth.j0 k a0 (a0 == 1)) else (if a0 = 2 then (expr_truth.j0 k a0 (a0 == 2)) else (if a0 = 3 then (expr_truth.j0 k a0 (a0 == 3)) else (if a0 = 4 then (expr_truth.j0 k a0 (a0 == 4)) else (expr_truth.j0 k a0 (a0 == 5)))))
theorem expr_truth.mono_l : ∀ k, (∀ y0 y1, LeO (expr_truth.j0 k y0 y1) (expr_truth.j0 (k + 1) y0 y1)) ∧ (∀ y0 y1, LeO (expr_truth.j1 k y0 y1) (expr_truth.j1 (k + 1) y0 y1))
 | 0 => ⟨fun _ _ r h => by simp [expr_truth.j0] at h, fun _ _ r h => by simp [expr_truth.j1] at h⟩
 | k + 1 => by
  obtain ⟨ih0, ih1⟩ := expr_truth.mono_l k
  refine ⟨?_, ?_⟩
  ·
   intro y0 y1
   unfold expr_truth.j0
   repeat' first
   | (with_reducible exact ih1 _ _)
   | (with_reducible exact LeO.refl _)
   | (with_reducible exact LeO.none _)
   | (with_reducible refine LeO.ite ?_ ?_)
   | (with_reducible refine LeO.bind ?_ (fun _ => ?_))
   | exact ih1 _ _
   | exact LeO.none _
   | refine LeO.ite ?_ ?_
   | refine LeO.bind ?_ (fun _ => ?_)
  ·
   intro y0 y1
   unfold expr_truth.j1
   repeat' first
   | (with_reducible exact LeO.refl _)
   | (with_reducible exact LeO.none _)
   | (with_reducible refine LeO.ite ?_ ?_)
   | (with_reducible refine LeO.bind ?_ (fun _ => ?_))
   | exact LeO.none _
   | refine LeO.ite ?_ ?_
   | refine LeO.bind ?_ (fun _ => ?_)
theorem expr_truth.mono : ∀ a0 k, LeO (expr_truth.f k a0) (expr_truth.f (k + 1) a0) := by
 intro a0 k
 obtain ⟨ih0, ih1⟩ := expr_truth.mono_l k
 unfold expr_truth.f
 repeat' first
   | (with_reducible exact ih0 _ _)
   | (with_reducible exact LeO.refl _)
   | (with_reducible exact LeO.none _)
   | (with_reducible refine LeO.ite ?_ ?_)
   | (with_reducible refine LeO.bind ?_ (fun _ => ?_))
   | exact ih0 _ _
   | exact LeO.none _
   | refine LeO.ite ?_ ?_
   | refine LeO.bind ?_ (fun _ => ?_)
set_option maxHeartbeats 8000000 in
set_option maxRecDepth 100000 in
theorem expr_truth.calls (k : Nat) (a0 : Int) (r1 : Bool) (r2 : Bool) (r3 : Bool) (w : World) (h : expr_truth.f k a0 = some (r1, r2, r3)) :
  Calls Tryd.prog 101 #[.int .i64 a0] w fun e w' => e = .returned (.tuple #[.bool r1, .bool r2, .bool r3]) ∧ Drawn0 w w' := by
 have H : (if a0 = 1 then (expr_truth.j0 k a0 (a0 == 1)) else (if a0 = 2 then (expr_truth.j0 k a0 (a0 == 2)) else (if a0 = 3 then (expr_truth.j0 k a0 (a0 == 3)) else (if a0 = 4 then (expr_truth.j0 k a0 (a0 == 4)) else (expr_truth.j0 k a0 (a0 == 5)))))) = some (r1, r2, r3) := h
 clear h
 have HC2 := Aside0.mk H
 clear H
 go_enter Tryd.func101, Tryd.ntmps101
 go_upto_if 6 with (fail)
 go_cut [6] (fun v6 wc => ∃ (kq : Nat) (x6_1 : Bool), v6 = .bool x6_1 ∧ Aside0 (expr_truth.j0 kq a0 x6_1 = some (r1, r2, r3)) ∧ Aside0 (kq ≤ k) ∧ Drawn0 w wc)
 case first =>
  have H := HC2.out
  clear HC2
  by_cases c3 : a0 = 1
  ·
   rw [if_pos c3] at H
   have c3b0 : (a0 == 1) = true := beq_iff_eq.mpr c3
   have c3b1 : (a0 != 1) = false := bne_eq_false_iff_eq.mpr c3
   clear c3
   (first | rw [c3b0] | (simp only [i64_w, i32_w]; rw [c3b0]) | skip)
   have H' := Aside0.mk H
   clear H
   go_wp2
   go_meet
   case rel => exact ⟨_, ((a0 == 1)), (by first | rfl | (simp; done) | (simp [*]; done)), H', ⟨by first | omega | exact Nat.le_refl _⟩, by repeat (first | exact Drawn0.refl _ | apply Drawn0.step)⟩
  rw [if_neg c3] at H
  have c3b0 : (a0 == 1) = false := beq_eq_false_iff_ne.mpr c3
  have c3b1 : (a0 != 1) = true := bne_iff_ne.mpr c3
  (first | rw [c3b0] | (simp only [i64_w, i32_w]; rw [c3b0]) | skip)
  by_cases c4 : a0 = 2
  ·
   rw [if_pos c4] at H
   have c4b0 : (a0 == 2) = true := beq_iff_eq.mpr c4
   have c4b1 : (a0 != 2) = false := bne_eq_false_iff_eq.mpr c4
   clear c4
   have H' := Aside0.mk H
   clear H
   go_wp2
   go_meet
   case rel => exact ⟨_, ((a0 == 2)), (by first | rfl | (simp; done) | (simp [*]; done)), H', ⟨by first | omega | exact Nat.le_refl _⟩, by repeat (first | exact Drawn0.refl _ | apply Drawn0.step)⟩
  rw [if_neg c4] at H
  have c4b0 : (a0 == 2) = false := beq_eq_false_iff_ne.mpr c4
  have c4b1 : (a0 != 2) = true := bne_iff_ne.mpr c4
  by_cases c5 : a0 = 3
  ·
   rw [if_pos c5] at H
   have c5b0 : (a0 == 3) = true := beq_iff_eq.mpr c5
   have c5b1 : (a0 != 3) = false := bne_eq_false_iff_eq.mpr c5
   clear c5
   have H' := Aside0.mk H
   clear H
   go_wp2
   go_meet
   case rel => exact ⟨_, ((a0 == 3)), (by first | rfl | (simp; done) | (simp [*]; done)), H', ⟨by first | omega | exact Nat.le_refl _⟩, by repeat (first | exact Drawn0.refl _ | apply Drawn0.step)⟩
  rw [if_neg c5] at H
  have c5b0 : (a0 == 3) = false := beq_eq_false_iff_ne.mpr c5
  have c5b1 : (a0 != 3) = true := bne_iff_ne.mpr c5
  by_cases c6 : a0 = 4
  rotate_left
  ·
   rw [if_neg c6] at H
   have c6b0 : (a0 == 4) = false := beq_eq_false_iff_ne.mpr c6
   have c6b1 : (a0 != 4) = true := bne_iff_ne.mpr c6
   have H' := Aside0.mk H
   clear H
   go_wp2
   go_meet
   case rel => exact ⟨_, ((a0 == 5)), (by first | rfl | (simp; done) | (simp [*]; done)), H', ⟨by first | omega | exact Nat.le_refl _⟩, by repeat (first | exact Drawn0.refl _ | apply Drawn0.step)⟩
  rw [if_pos c6] at H
  have c6b0 : (a0 == 4) = true := beq_iff_eq.mpr c6
  have c6b1 : (a0 != 4) = false := bne_eq_false_iff_eq.mpr c6
  clear c6
  have H' := Aside0.mk H
  clear H
  go_wp2
  go_meet
  case rel => exact ⟨_, ((a0 == 4)), (by first | rfl | (simp; done) | (simp [*]; done)), H', ⟨by first | omega | exact Nat.le_refl _⟩, by repeat (first | exact Drawn0.refl _ | apply Drawn0.step)⟩
 case rest =>
  clear HC2
  try clear c1
  try clear p2
  try clear c3
  try clear c3b0
  try clear c3b1
  try clear c4
  try clear c4b0
  try clear c4b1
  try clear c5
  try clear c5b0
  try clear c5b1
  try clear c6
  try clear c6b0
  try clear c6b1
  obtain ⟨kq, x6_1, rfl, HA, HJ1, ⟨mc1, rfl⟩⟩ := hcut
  cases kq with
  | zero => exact absurd HA.out (by simp [expr_truth.j0])
  | succ kj1 =>
   have H := HA.out
   clear HA
   simp only [expr_truth.j0] at H
   by_cases c7 : x6_1 = true
   ·
    subst c7
    have H1 : (some (false, false, true)) = some (r1, r2, r3) := by rw [if_pos rfl] at H; exact H
    clear H
    have H := H1
    clear H1
    simp only [Option.some.injEq, Prod.mk.injEq] at H
    obtain ⟨rfl, rfl, rfl⟩ := H
    go_wp2
    go_ret3
    exact ⟨by first | rfl | (simp; done) | (simp [*]; done), by repeat (first | exact Drawn0.refl _ | apply Drawn0.step)⟩
   replace c7 := Bool.eq_false_iff.mpr c7
   subst c7
   have H1 : (if a0 = 6 then (expr_truth.j1 kj1 a0 (a0 == 6)) else (expr_truth.j1 kj1 a0 (a0 == 7))) = some (r1, r2, r3) := by rw [if_neg (show ¬ (false = true) by decide)] at H; exact H
   clear H
   have H := H1
   clear H1
   have HC8 := Aside0.mk H
   clear H
   go_upto_if 12 with (fail)
   go_cut [12] (fun v12 wc => ∃ (kq : Nat) (x12_7 : Bool), v12 = .bool x12_7 ∧ Aside0 (expr_truth.j1 kq a0 x12_7 = some (r1, r2, r3)) ∧ Aside0 (kq ≤ kj1) ∧ Drawn0 w wc)
   case first =>
    have H := HC8.out
    clear HC8
    by_cases c9 : a0 = 6
    rotate_left
    ·
     rw [if_neg c9] at H
     have c9b0 : (a0 == 6) = false := beq_eq_false_iff_ne.mpr c9
     have c9b1 : (a0 != 6) = true := bne_iff_ne.mpr c9
     (first | rw [c9b0] | (simp only [i64_w, i32_w]; rw [c9b0]) | skip)
     have H' := Aside0.mk H
     clear H
     go_wp2
     go_meet
     case rel => exact ⟨_, ((a0 == 7)), (by first | rfl | (simp; done) | (simp [*]; done)), H', ⟨by have := HJ1.out; first | omega | exact Nat.le_refl _⟩, by repeat (first | exact Drawn0.refl _ | apply Drawn0.step)⟩
    rw [if_pos c9] at H
    have c9b0 : (a0 == 6) = true := beq_iff_eq.mpr c9
    have c9b1 : (a0 != 6) = false := bne_eq_false_iff_eq.mpr c9
    clear c9
    (first | rw [c9b0] | (simp only [i64_w, i32_w]; rw [c9b0]) | skip)
    have H' := Aside0.mk H
    clear H
    go_wp2
    go_meet
    case rel => exact ⟨_, ((a0 == 6)), (by first | rfl | (simp; done) | (simp [*]; done)), H', ⟨by have := HJ1.out; first | omega | exact Nat.le_refl _⟩, by repeat (first | exact Drawn0.refl _ | apply Drawn0.step)⟩
   case rest =>
    clear HC8
    try clear c1
    try clear p2
    try clear c3
    try clear c3b0
    try clear c3b1
    try clear c4
    try clear c4b0
    try clear c4b1
    try clear c5
    try clear c5b0
    try clear c5b1
    try clear c6
    try clear c6b0
    try clear c6b1
    try clear c7
    try clear c9
    try clear c9b0
    try clear c9b1
    try clear p2
    obtain ⟨kq, x12_7, rfl, HA, HJ7, ⟨mc7, rfl⟩⟩ := hcut
    cases kq with
    | zero => exact absurd HA.out (by simp [expr_truth.j1])
    | succ kj7 =>
     have H := HA.out
     clear HA
     simp only [expr_truth.j1] at H
     by_cases c10 : x12_7 = true
     ·
      subst c10
      have H1 : (some (true, false, true)) = some (r1, r2, r3) := by rw [if_pos rfl] at H; exact H
      clear H
      have H := H1
      clear H1
      simp only [Option.some.injEq, Prod.mk.injEq] at H
      obtain ⟨rfl, rfl, rfl⟩ := H
      go_wp2
      go_ret3
      exact ⟨by first | rfl | (simp; done) | (simp [*]; done), by repeat (first | exact Drawn0.refl _ | apply Drawn0.step)⟩
     replace c10 := Bool.eq_false_iff.mpr c10
     subst c10
     have H1 : (if a0 = 8 then (some (true, true, true)) else (if a0 = 9 then (some (true, true, true)) else (if a0 = 10 then (some (true, true, true)) else (if a0 = 11 then (some (true, true, true)) else (if a0 = 12 then (some (true, true, true)) else (some (false, false, false))))))) = some (r1, r2, r3) := by rw [if_neg (show ¬ (false = true) by decide)] at H; exact H
     clear H
     have H := H1
     clear H1
     by_cases c11 : a0 = 8
     ·
      rw [if_pos c11] at H
      have c11b0 : (a0 == 8) = true := beq_iff_eq.mpr c11
      have c11b1 : (a0 != 8) = false := bne_eq_false_iff_eq.mpr c11
      clear c11
      simp only [Option.some.injEq, Prod.mk.injEq] at H
      obtain ⟨rfl, rfl, rfl⟩ := H
      go_wp2
      go_ret3
      exact ⟨by first | rfl | (simp; done) | (simp [*]; done), by repeat (first | exact Drawn0.refl _ | apply Drawn0.step)⟩
     rw [if_neg c11] at H
     have c11b0 : (a0 == 8) = false := beq_eq_false_iff_ne.mpr c11
     have c11b1 : (a0 != 8) = true := bne_iff_ne.mpr c11
     by_cases c12 : a0 = 9
     ·
      rw [if_pos c12] at H
      have c12b0 : (a0 == 9) = true := beq_iff_eq.mpr c12
      have c12b1 : (a0 != 9) = false := bne_eq_false_iff_eq.mpr c12
      clear c12
      simp only [Option.some.injEq, Prod.mk.injEq] at H
      obtain ⟨rfl, rfl, rfl⟩ := H
      go_wp2
      go_ret3
      exact ⟨by first | rfl | (simp; done) | (simp [*]; done), by repeat (first | exact Drawn0.refl _ | apply Drawn0.step)⟩
     rw [if_neg c12] at H
     have c12b0 : (a0 == 9) = false := beq_eq_false_iff_ne.mpr c12
     have c12b1 : (a0 != 9) = true := bne_iff_ne.mpr c12
     by_cases c13 : a0 = 10
     ·
      rw [if_pos c13] at H
      have c13b0 : (a0 == 10) = true := beq_iff_eq.mpr c13
      have c13b1 : (a0 != 10) = false := bne_eq_false_iff_eq.mpr c13
      clear c13
      simp only [Option.some.injEq, Prod.mk.injEq] at H
      obtain ⟨rfl, rfl, rfl⟩ := H
      go_wp2
      go_ret3
      exact ⟨by first | rfl | (simp; done) | (simp [*]; done), by repeat (first | exact Drawn0.refl _ | apply Drawn0.step)⟩
     rw [if_neg c13] at H
     have c13b0 : (a0 == 10) = false := beq_eq_false_iff_ne.mpr c13
     have c13b1 : (a0 != 10) = true := bne_iff_ne.mpr c13
     by_cases c14 : a0 = 11
     ·
      rw [if_pos c14] at H
      have c14b0 : (a0 == 11) = true := beq_iff_eq.mpr c14
      have c14b1 : (a0 != 11) = false := bne_eq_false_iff_eq.mpr c14
      clear c14
      simp only [Option.some.injEq, Prod.mk.injEq] at H
      obtain ⟨rfl, rfl, rfl⟩ := H
      go_wp2
      go_ret3
      exact ⟨by first | rfl | (simp; done) | (simp [*]; done), by repeat (first | exact Drawn0.refl _ | apply Drawn0.step)⟩
     rw [if_neg c14] at H
     have c14b0 : (a0 == 11) = false := beq_eq_false_iff_ne.mpr c14
     have c14b1 : (a0 != 11) = true := bne_iff_ne.mpr c14
     by_cases c15 : a0 = 12
     rotate_left
     ·
      rw [if_neg c15] at H
      have c15b0 : (a0 == 12) = false := beq_eq_false_iff_ne.mpr c15
      have c15b1 : (a0 != 12) = true := bne_iff_ne.mpr c15
      simp only [Option.some.injEq, Prod.mk.injEq] at H
      obtain ⟨rfl, rfl, rfl⟩ := H
      go_wp2
      go_ret3
      exact ⟨by first | rfl | (simp; done) | (simp [*]; done), by repeat (first | exact Drawn0.refl _ | apply Drawn0.step)⟩
     rw [if_pos c15] at H
     have c15b0 : (a0 == 12) = true := beq_iff_eq.mpr c15
     have c15b1 : (a0 != 12) = false := bne_eq_false_iff_eq.mpr c15
     clear c15
     simp only [Option.some.injEq, Prod.mk.injEq] at H
     obtain ⟨rfl, rfl, rfl⟩ := H
     go_wp2
     go_ret3
     exact ⟨by first | rfl | (simp; done) | (simp [*]; done), by repeat (first | exact Drawn0.refl _ | apply Drawn0.step)⟩

--IMPORT Derived.WalkSpells
/-- A machine in memory. -/
def MachAt (w0 w : World) (g : Nat) (A : Option Addr) (n c : Nat) (st : List Int) : Prop :=
 ∃ vs, w.heap[g]? = some (.cells #[vs, .slice A n c] 158 (0, 0)) ∧ Kd.R (Kd.int .i64) 3 w w0.heap.size (fun _ => True) vs st ∧ Below w0.heap.size w0 w
theorem MachAt.drewN {w0 w : World} {g : Nat} {A : Option Addr} {n c : Nat} {st : List Int} (h : MachAt w0 w g A n c st) (m : Nat) : MachAt w0 (w.drewN m) g A n c st := by
 obtain ⟨ve, h1, h2, h3⟩ := h
 exact ⟨ve, h1, Kd.R_drewN h2 m, pw_below_drewN h3 m⟩
theorem MachAt.below {w0 w w' : World} {g : Nat} {A : Option Addr} {n c : Nat} {st : List Int} (h : MachAt w0 w g A n c st) (hb : Below w.heap.size w w') : MachAt w0 w' g A n c st := by
 obtain ⟨ve, h1, h2, h3⟩ := h
 exact ⟨ve, blk_below h1 hb, Kd.R_below h2 hb, below_step h3 hb⟩
theorem MachAt.lt {w0 w : World} {g : Nat} {A : Option Addr} {n c : Nat} {st : List Int} (h : MachAt w0 w g A n c st) : g < w.heap.size := by
 obtain ⟨_, h, _, _⟩ := h
 exact blk_lt h
theorem MachAt.size {w0 w : World} {g : Nat} {A : Option Addr} {n c : Nat} {st : List Int} (h : MachAt w0 w g A n c st) : w0.heap.size ≤ w.heap.size := by
 obtain ⟨_, _, _, h⟩ := h
 exact below_size h
theorem MachAt.parts {w0 w : World} {g : Nat} {A : Option Addr} {n c : Nat} {st : List Int} (h : MachAt w0 w g A n c st.reverse) :
  ∃ A6 c6, w.heap[g]? = some (.cells #[.slice A6 st.length c6, .slice A n c] 158 (0, 0)) ∧ Kd.R (Kd.int .i64) 3 w w0.heap.size (fun _ => True) (.slice A6 st.length c6) st.reverse ∧ Below w0.heap.size w0 w := by
 obtain ⟨vs, h1, h2, h3⟩ := h
 obtain ⟨A6, c6, rfl⟩ := Kd.R_slice h2
 rw [List.length_reverse] at h1 h2
 exact ⟨A6, c6, h1, h2, h3⟩
set_option maxHeartbeats 8000000 in
set_option maxRecDepth 100000 in
theorem mach_pop.calls (w0 : World) (A : Option Addr) (n c : Nat) (g : Nat) (bg : w0.heap.size ≤ g) (ys : List Int) (y : Int) (w : World) (hv : MachAt w0 w g A n c (ys ++ [y])) :
  Calls Tryd.prog 83 #[.pointer (some ⟨g, 0, none⟩)] w fun e w' => e = .returned (.int .i64 y) ∧ MachAt w0 w' g A n c ys ∧ w.heap.size ≤ w'.heap.size ∧ ∀ b, b ≠ g → w'.heap[b]? = w.heap[b]? := by
 have info := (by kernel_rfl : (Tryd.prog.info? 3).map (fun i => (i.zero, i.size, i.bytes)) = some (some (.int .i64 0), 1, 8))
 have BG := Aside0.mk bg
 clear bg
 obtain ⟨vs, hbk, hro, hb⟩ := hv
 have BK := Aside0.mk hbk
 have HB := Aside0.mk hb
 clear hbk hb
 obtain ⟨A6, cp6, rfl⟩ := Kd.R_slice hro
 have hlen : (ys ++ [y]).length = ys.length + 1 := by simp
 replace BK : Aside0 (w.heap[g]? = some (.cells #[.slice A6 (ys.length + 1) cp6, .slice A n c] 158 (0, 0))) := ⟨by rw [← hlen]; exact BK.out⟩
 replace hro : Kd.R (Kd.int .i64) 3 w w0.heap.size (fun _ => True) (.slice A6 (ys.length + 1) cp6) (ys ++ [y]) := by rw [← hlen]; exact hro
 have P6 := Aside0.mk hro
 clear hro hlen
 obtain ⟨gt, cap6, he6, _, _, cgt, hgt⟩ := Kd.R_form P6.out (by simp)
 have HGT := Aside0.mk hgt
 have N6t : g ≠ gt := blk_ne BK.out hgt (by decide)
 have Nt6 := N6t.symm
 clear hgt
 have hAe : A6 = some ⟨gt, 0, none⟩ := by injection he6
 subst hAe
 clear he6
 obtain ⟨hct, hft⟩ := Kd.R_celln (0 : Int) P6.out (ys.length : Int) (by omega) (by omega)
 have hrd : rdOf (0 : Int) (ys ++ [y]) (ys.length : Int) = y := by simp [rdOf]
 rw [hrd, Int.toNat_natCast] at hct
 clear hrd hft
 obtain ⟨i0, hi0, _, hsz, _⟩ := info_parts info
 have hcut := cut_to (P := Tryd.prog) 43 3 .i64 Tryd.underlying43 hi0 (some ⟨gt, 0, none⟩) (ys.length + 1) cp6 (ys.length : Int) (by omega) (by omega) (Kd.R_reads' P6.out).2.1
 rw [Int.toNat_natCast] at hcut
 clear hi0 hsz
 have hc6 : w.cell? ⟨g, 0, none⟩ = some (.slice (some ⟨gt, 0, none⟩) (ys.length + 1) cp6) := (blk_cell BK.out 0).trans rfl
 have hf6 := blk_frozen BK.out 0
 have hmx : ys.length + 1 ≤ 9223372036854775807 := by have h_ := (Kd.R_reads' P6.out).2.2.2.1; rw [List.length_append] at h_; exact h_
 go_enter Tryd.func83, Tryd.ntmps83
 go_wp2
 go_quiet (fail)
 generalize hq : World.drewN w _ = w1
 have K1 := Aside0.mk (blk_at hq BK.out)
 have P1 := Aside0.mk (Kd.R_at hq P6.out)
 have H1 := Aside0.mk (below_at hq HB.out)
 have E1 := Aside0.mk (show w1.heap = w.heap by rw [← hq]; rfl)
 clear hq hc6 hf6 hct
 have hc7 : w1.cell? ⟨g, 0, none⟩ = some (.slice (some ⟨gt, 0, none⟩) (ys.length + 1) cp6) := (blk_cell K1.out 0).trans rfl
 have hf7 := blk_frozen K1.out 0
 go_wp2
 go_region
 have tk := Kd.R_take (m := ys.length) P1.out (by simp)
 rw [List.take_left' rfl] at tk
 have HV := Aside0.mk (show MachAt w0 ((w1.setCell ⟨g, 0, none⟩ (.slice (some ⟨gt, 0, none⟩) ys.length cp6)).drew) g A n c ys from ⟨_, blk_put K1.out 0 _ rfl, Kd.R_drew (Kd.R_set tk K1.out (by decide) _ _), (H1.out.setCell BG.out _).drew⟩)
 clear tk
 go_wp2
 go_ret
 exact ⟨rfl, HV.out, (by simp [World.drew, E1.out]), fun b hb => (Below.heap_setCell w1 ⟨g, 0, none⟩ _ b hb).trans (by rw [E1.out])⟩

--IMPORT Derived.WalkSpells
--IMPORT Derived.WalkLawsBesides
--IMPORT Derived.Recover
set_option maxRecDepth 100000 in
theorem eval_catch.panicking (g2 g3 : Nat) (v2 v3 : Value) (n : Int) (w : World) (h2 : w.heap[g2]? = some (.cells #[v2] 3 (0, 0))) (h3 : w.heap[g3]? = some (.cells #[v3] 38 (0, 0))) (hne : g2 ≠ g3) :
  CallsD Tryd.prog 81 #[.pointer (some ⟨g2, 0, none⟩), .pointer (some ⟨g3, 0, none⟩)] (.panicking [{ v := .iface 38 (.int .i64 n), recovered := false }]) w fun e u' w' =>
   e = .returned (.tuple #[]) ∧ u' = .panicking [{ v := .iface 38 (.int .i64 n), recovered := true }] ∧ w'.heap[g2]? = some (.cells #[.int .i64 0] 3 (0, 0)) ∧ w'.heap[g3]? = some (.cells #[.int .i64 n] 38 (0, 0)) ∧ ∀ b, b ≤ g2 → b ≤ g3 → Below b w w' := by
 have hc2 : w.cell? ⟨g2, 0, none⟩ = some v2 := (blk_cell h2 0).trans rfl
 have hc3 : w.cell? ⟨g3, 0, none⟩ = some v3 := (blk_cell h3 0).trans rfl
 have hz2 := blk_frozen h2 0
 have hz3 := blk_frozen h3 0
 have hn3 : g3 ≠ g2 := hne.symm
 have B2 := Aside0.mk h2
 have B3 := Aside0.mk h3
 clear h2 h3
 refine callsD_of_wpS Tryd.func81 rfl fun c₀ cs hu => ?_
 apply wpS_seq
 apply wpS_region
 simp [wpOpsS, go_sem, recoverD, hu, Tryd.ntmps81, Exit.thenS]
 apply wpS_seq
 apply wpS_region
 simp [wpOpsS, go_sem, recoverD, hu, Tryd.ntmps81, Exit.thenS]
 refine wpS_cond (t := true) (by simp [Act.eval, Array.replicate]) ?_
 simp only [if_true]
 have hta : ∀ W : World, (Instr.typeAssert (.iface 38 (.int .i64 n)) 20 38 false).run Tryd.prog W = .ok (.int .i64 n) W := fun W => by rfl
 refine wpS_of_wp ?_
 go_region
 all_goals
  have b2 : w.drew.heap[g2]? = some (.cells #[v2] 3 (0, 0)) := B2.out
  have b3 : w.drew.heap[g3]? = some (.cells #[v3] 38 (0, 0)) := B3.out
  refine ⟨rfl, _, rfl, .tuple #[], by simp [results, Tryd.results81], rfl, rfl, ?_, ?_, fun b h2 h3 => ?_⟩
  ·
   first
   | exact blk_far (p := ⟨g3, 0, none⟩) (blk_put b2 0 _ rfl) hne _
   | exact blk_put (blk_far (p := ⟨g3, 0, none⟩) b2 hne _) 0 _ rfl
  ·
   first
   | exact blk_far (p := ⟨g2, 0, none⟩) (blk_put b3 0 _ rfl) hn3 _
   | exact blk_put (blk_far (p := ⟨g2, 0, none⟩) b3 hn3 _) 0 _ rfl
  ·
   have b0 : Below b w w.drew := (Below.refl b w).drew
   first
   | exact (b0.setCell (p := ⟨g2, 0, none⟩) h2 _).setCell (p := ⟨g3, 0, none⟩) h3 _
   | exact (b0.setCell (p := ⟨g3, 0, none⟩) h3 _).setCell (p := ⟨g2, 0, none⟩) h2 _
theorem eval_catch.idle (p q : Addr) (w : World) :
  CallsD Tryd.prog 81 #[.pointer (some p), .pointer (some q)] .returning w fun e u' w' => e = .returned (.tuple #[]) ∧ u' = .returning ∧ w' = w := by
 refine callsD_of_wpS Tryd.func81 rfl fun c₀ cs hu => ?_
 apply wpS_seq
 apply wpS_region
 simp [wpOpsS, go_sem, recoverD, hu, Tryd.ntmps81, Exit.thenS]
 apply wpS_seq
 apply wpS_region
 simp [wpOpsS, go_sem, recoverD, hu, Tryd.ntmps81, Exit.thenS]
 refine wpS_cond (t := false) (by simp [Act.eval, Array.replicate]) ?_
 simp only [Bool.false_eq_true, if_false]
 refine wpS_of_wp (wp_skip ?_)
 cases c₀
 simp_all [bodyPostS, results, Tryd.results81]

--IMPORT Derived.Lib.SliceRun
def slices_Clone_int_int.f (l0 : List Int) : Option (List Int) := if l0.length < 17592186044416 then some l0 else none
set_option maxHeartbeats 8000000 in
set_option maxRecDepth 100000 in
theorem slices_Clone_int_int.calls (A0 : Option Addr) (c0 : Nat) (l0 : List Int) (r : List Int) (w : World) (hr0 : Kd.C (Kd.int .i64) w A0 l0.length l0) (hc0 : l0.length ≤ c0) (h : slices_Clone_int_int.f l0 = some r) :
  Calls Tryd.prog 87 #[.slice A0 l0.length c0] w fun e w' => ∃ v0_ : Value, e = .returned (v0_) ∧ Kd.R (Kd.int .i64) 3 w' w.heap.size (fun _ => True) v0_ r ∧ Below w.heap.size w w' := by
 unfold slices_Clone_int_int.f at h
 by_cases c1 : l0.length < 17592186044416
 rotate_left
 ·
  rw [if_neg c1] at h
  exact absurd h (by simp)
 rw [if_pos c1] at h
 obtain rfl := Option.some.inj h
 have LM := Aside0.mk c1
 clear c1 h
 have HR0 := Aside0.mk hr0
 have HB := Aside0.mk (Below.refl w.heap.size w)
 have info := (by kernel_rfl : (Tryd.prog.info? 3).map (fun i => (i.zero, i.size, i.bytes)) = some (some (.int .i64 0), 1, 8))
 have q22 : ∀ (w : World) (a : Option Addr) (n c n' c' : Nat), (binOp .eql 43 (.slice a n c) (.slice none n' c')).run Tryd.prog w = .ok (.bool a.isNone) w := fun w a n c n' c' => Lib.run_eql_slice_nil w _ _ a n c n' c' Tryd.underlying43
 cases A0 with
 | none =>
  obtain rfl : l0 = [] := by
   rcases Nat.eq_zero_or_pos l0.length with h0 | h0
   ·
    exact List.eq_nil_of_length_eq_zero h0
   ·
    obtain ⟨ad, h, _⟩ := hr0.2.2 h0
    cases h
  clear hr0
  go_enter Tryd.func87, Tryd.ntmps87
  go_wp2
  go_ret
  exact ⟨_, rfl, Kd.R_nil _ _ _ _ _, Below.refl _ _⟩
 | some ad =>
  clear hr0 hc0
  go_enter Tryd.func87, Tryd.ntmps87
  go_wp2_with (at_builtin; refine Kd.R_append_rows (Kd.int .i64) (w0 := w) w.heap.size rfl (.tmp 5) (.tmp 6) 43 3 (.int .i64 0) 8 rfl Tryd.underlying43 info rfl (by decide) (by omega) (.slice (some ⟨w.heap.size, 0, none⟩) 0 0) [] l0 _ _ _ (fun _ => True) (fun _ => False) rfl rfl ?aO ?aR (fun _ _ h => h) (fun _ h => h.elim) ?aF ?aB ?aS ?aL ?_)
  case aO => exact ⟨fun _ _ => trivial, [], World.ownsRow_made w #[] 0 (Nat.le_refl _) (Nat.zero_le _) rfl, Reps.none _ _⟩
  case aR => exact Kd.C_below HR0.out (below_alloc (Below.refl _ _) _)
  case aF => exact fun _ _ => trivial
  case aB => exact below_alloc HB.out _
  case aS => exact below_size (below_alloc HB.out _)
  case aL => have := LM.out; simp; omega
  intro v1 w1 ho hb hg hat
  have HO := Aside0.mk ho
  have HB2 := Aside0.mk hb
  clear ho hb hg hat HB
  go_wp2
  go_ret
  exact ⟨_, rfl, HO.out, HB2.out⟩

def logic_ahead.f (a0 : Int) : Option (Bool) := if a0 ≥ 14 then (some (decide (a0 ≤ 18))) else (some false)
set_option maxHeartbeats 8000000 in
set_option maxRecDepth 100000 in
theorem logic_ahead.calls (a0 : Int) (r : Bool) (w : World) (h : logic_ahead.f a0 = some r) :
  Calls Tryd.prog 63 #[.int .i64 a0] w fun e w' => e = .returned (.bool r) ∧ Drawn0 w w' := by
 have H : (if a0 ≥ 14 then (some (decide (a0 ≤ 18))) else (some false)) = some r := h
 clear h
 by_cases c2 : a0 ≥ 14
 ·
  rw [if_pos c2] at H
  have c2b0 : decide (14 ≤ a0) = true := decide_eq_true c2
  clear c2
  obtain rfl := Option.some.inj H
  go_enter Tryd.func63, Tryd.ntmps63
  go_wp2
  go_ret
  exact ⟨by first | rfl | (simp; done) | (simp [*]; done), by repeat (first | exact Drawn0.refl _ | apply Drawn0.step)⟩
 rw [if_neg c2] at H
 have c2b0 : decide (14 ≤ a0) = false := decide_eq_false c2
 clear c2
 obtain rfl := Option.some.inj H
 go_enter Tryd.func63, Tryd.ntmps63
 go_wp2
 go_ret
 exact ⟨by first | rfl | (simp; done) | (simp [*]; done), by repeat (first | exact Drawn0.refl _ | apply Drawn0.step)⟩

end Go.Proofs.YtbokbbcoekeoaaaDoor.P
end
