-- PACKED by pack.py of this repo: FForetellkeepPicked FGrownTake FGrownPut FGrownNumber FForetellkeepNumber FForetellkeepNum FModelName FModelVariables FPolishParts FPolishSkip FPolishCatch FPolishEnds FExprTruth Q QVals QVars QTerm QTake QLies
import Derived.WalkSpells
import Derived.StillTailTactics
import Derived.WalkLawsBesides
import Derived.Lib.ConvBytes
import Derived.Maps.OwnSet
import Derived.Maps.Views
import Derived.Maps.Keyed
import Derived.StringKeys
import Derived.Recover
import Derived.OpenShut
import Derived.Test.YteennleoieafiaaDoorK2
section
namespace Go.Proofs.YteennleoieafiaaDoor.P
open Go.RowKit Go.Proofs.YteennleoieafiaaDoorW.PrintWords Go.Proofs.YteennleoieafiaaDoorW.PrintLast Go.Proofs.YteennleoieafiaaDoorW.PrintMore Go.Proofs.YteennleoieafiaaDoor.G
attribute [local go_sem] max2_int min2_int max_two min_two max_three min_three max_four min_four   -- for this text's walks alone
set_option linter.unusedVariables false
set_option linter.unusedSimpArgs false

/-! ### foretellkeep_picked: function 15 -/
def foretellkeep_picked.f (a0 : Int) (a1 : Int) : Option (Int) := if a0 < 0 then (if a1 = 0 then (none) else (some (Int.tmod (wrap64 (-(wrap64 (a0 + 1)))) a1))) else (if a1 = 0 then (none) else (some (Int.tmod a0 a1)))
set_option maxHeartbeats 8000000 in
set_option maxRecDepth 100000 in
theorem foretellkeep_picked.calls (a0 : Int) (a1 : Int) (r : Int) (w : World) (h : foretellkeep_picked.f a0 a1 = some r) :
    Calls Tryd.prog 15 #[.int .i64 a0, .int .i64 a1] w fun e w' => e = .returned (.int .i64 r) ∧ Drawn0 w w' := by
  have H : (if a0 < 0 then (if a1 = 0 then (none) else (some (Int.tmod (wrap64 (-(wrap64 (a0 + 1)))) a1))) else (if a1 = 0 then (none) else (some (Int.tmod a0 a1)))) = some r := h
  clear h
  by_cases c3 : a0 < 0
  · rw [if_pos c3] at H
    have c3b0 : decide (a0 < 0) = true := decide_eq_true c3
    clear c3
    by_cases c4 : a1 = 0
    · rw [if_pos c4] at H
      exact absurd H (by simp)
    · rw [if_neg c4] at H
      have c4b0 : (a1 == 0) = false := beq_eq_false_iff_ne.mpr c4
      have c4b1 : (a1 != 0) = true := bne_iff_ne.mpr c4
      obtain rfl := Option.some.inj H
      go_enter Tryd.func15, Tryd.ntmps15
      go_wp2
      go_ret
      exact ⟨by first | rfl | (simp; done) | (simp [*]; done), by repeat (first | exact Drawn0.refl _ | apply Drawn0.step)⟩
  · rw [if_neg c3] at H
    have c3b0 : decide (a0 < 0) = false := decide_eq_false c3
    clear c3
    by_cases c5 : a1 = 0
    · rw [if_pos c5] at H
      exact absurd H (by simp)
    · rw [if_neg c5] at H
      have c5b0 : (a1 == 0) = false := beq_eq_false_iff_ne.mpr c5
      have c5b1 : (a1 != 0) = true := bne_iff_ne.mpr c5
      obtain rfl := Option.some.inj H
      go_enter Tryd.func15, Tryd.ntmps15
      go_wp2
      go_ret
      exact ⟨by first | rfl | (simp; done) | (simp [*]; done), by repeat (first | exact Drawn0.refl _ | apply Drawn0.step)⟩

end Go.Proofs.YteennleoieafiaaDoor.P
end
section
namespace Go.Proofs.YteennleoieafiaaDoor.P
open Go.RowKit Go.Proofs.YteennleoieafiaaDoorW.PrintWords Go.Proofs.YteennleoieafiaaDoorW.PrintLast Go.Proofs.YteennleoieafiaaDoorW.PrintMore Go.Proofs.YteennleoieafiaaDoor.G
attribute [local go_sem] max2_int min2_int max_two min_two max_three min_three max_four min_four   -- for this text's walks alone
set_option linter.unusedVariables false
set_option linter.unusedSimpArgs false

--IMPORT Derived.WalkSpells
/-! ### grown_take: function 50 -/
/-- What a 'grown' holds that changes. -/
structure GrSt where
  at_ : Int
  tempo : Int
  out : List S35
/-- A 'grown' in memory. -/
def GrownAt (w0 w : World) (g : Nat) (A : Option Addr) (n c : Nat) (vars props : Int) (st : GrSt) : Prop :=
  ∃ vo, w.heap[g]? = some (.cells #[.slice A n c, .int .i64 st.at_, .int .i64 vars, .int .i64 props, .int .i64 st.tempo, vo] 81 (0, 0)) ∧ Kd.R k35 35 w w0.heap.size (fun _ => True) vo st.out ∧ Below w0.heap.size w0 w
theorem GrownAt.drewN {w0 w : World} {g : Nat} {A : Option Addr} {n c : Nat} {vars props : Int} {st : GrSt} (h : GrownAt w0 w g A n c vars props st) (m : Nat) : GrownAt w0 (w.drewN m) g A n c vars props st := by
  obtain ⟨ve, h1, h2, h3⟩ := h
  exact ⟨ve, h1, Kd.R_drewN h2 m, pw_below_drewN h3 m⟩
theorem GrownAt.below {w0 w w' : World} {g : Nat} {A : Option Addr} {n c : Nat} {vars props : Int} {st : GrSt} (h : GrownAt w0 w g A n c vars props st) (hb : Below w.heap.size w w') : GrownAt w0 w' g A n c vars props st := by
  obtain ⟨ve, h1, h2, h3⟩ := h
  exact ⟨ve, blk_below h1 hb, Kd.R_below h2 hb, below_step h3 hb⟩
/-- The place where it reads goes on. -/
theorem GrownAt.put1 {w0 w w' : World} {g : Nat} {A : Option Addr} {n c : Nat} {at_ vars props tempo : Int} {vo : Value} {out : List S35} (hbk : w.heap[g]? = some (.cells #[.slice A n c, .int .i64 at_, .int .i64 vars, .int .i64 props, .int .i64 tempo, vo] 81 (0, 0))) (hro : Kd.R k35 35 w w0.heap.size (fun _ => True) vo out) (hb : Below w0.heap.size w0 w) (bg : w0.heap.size ≤ g) (h : Below w.heap.size w w') (u : Int) : GrownAt w0 (w'.setCell ⟨g, 1, none⟩ (.int .i64 u)) g A n c vars props ⟨u, tempo, out⟩ :=
  ⟨vo, blk_put (blk_below hbk h) 1 _ rfl, Kd.R_set (Kd.R_below hro h) (blk_below hbk h) (by decide) _ _, (below_step hb h).setCell bg _⟩
theorem GrownAt.box2 {w0 w : World} {g g2 : Nat} {A : Option Addr} {n c : Nat} {vars props : Int} {st : GrSt} {a b : Value} (h : GrownAt w0 w g A n c vars props st) (hk : w.heap[g2]? = some (.cells #[a, b] 97 (0, 0))) (hn : g ≠ g2) (hg : w0.heap.size ≤ g2) (u v : Value) : GrownAt w0 ((w.setCell ⟨g2, 0, none⟩ u).setCell ⟨g2, 1, none⟩ v) g A n c vars props st := by
  obtain ⟨vo, h1, h2, h3⟩ := h
  exact ⟨vo, blk_far (p := ⟨g2, 1, none⟩) (blk_far (p := ⟨g2, 0, none⟩) h1 hn _) hn _, Kd.R_set (Kd.R_set h2 hk (by decide) _ _) (blk_put hk 0 _ rfl) (by decide) _ _, (h3.setCell hg _).setCell hg _⟩
def grown_take.f (raw : List S97) (st : GrSt) : Option (S97 × GrSt) :=
  if st.at_ < (raw.length : Int) then (if 0 ≤ st.at_ then some (rd_T97 raw st.at_, { st with at_ := wrap64 (st.at_ + 1) }) else none) else some (⟨0, 0⟩, { st with at_ := wrap64 (st.at_ + 1) })
set_option maxHeartbeats 8000000 in
set_option maxRecDepth 100000 in
theorem grown_take.calls (w0 : World) (A : Option Addr) (c : Nat) (raw : List S97) (g : Nat) (vars props : Int) (hr : Kd.C k97 w0 A raw.length raw) (bg : w0.heap.size ≤ g) (st : GrSt) (r : S97) (st' : GrSt) (w : World) (hv : GrownAt w0 w g A raw.length c vars props st) (h : grown_take.f raw st = some (r, st')) :
    Calls Tryd.prog 50 #[.pointer (some ⟨g, 0, none⟩)] w fun e w' => e = .returned (.agg #[.int .i64 r.f0, .int .i64 r.f1]) ∧ GrownAt w0 w' g A raw.length c vars props st' := by
  have R0 := Aside0.mk hr
  have BG := Aside0.mk bg
  clear hr bg
  obtain ⟨at_, tempo, out⟩ := st
  obtain ⟨vo, hbk, hro, hb⟩ := hv
  have BK := Aside0.mk hbk
  have RO := Aside0.mk hro
  have HB := Aside0.mk hb
  clear hbk hro hb
  have RW := Aside0.mk (Kd.C_below R0.out HB.out)
  have hcz0 : w.cell? ⟨g, 0, none⟩ = some (.slice A raw.length c) := (blk_cell BK.out 0).trans rfl
  have hcz1 : w.cell? ⟨g, 1, none⟩ = some (.int .i64 at_) := (blk_cell BK.out 1).trans rfl
  have hfz1 := blk_frozen BK.out 1
  unfold grown_take.f at h
  by_cases c1 : at_ < (raw.length : Int)
  · rw [if_pos c1] at h
    have c1' : decide (at_ < (raw.length : Int)) = true := decide_eq_true c1
    by_cases c2 : 0 ≤ at_
    · rw [if_pos c2] at h
      obtain ⟨rfl, rfl⟩ := Prod.mk.inj (Option.some.inj h)
      obtain ⟨ad, eA, hx0, hx1⟩ := at_T97 RW.out at_ c2 c1
      have eA' := eA
      clear eA
      have c1b := eq_true c1
      have c2b := eq_true c2
      clear c1 c2 h
      generalize hop : rd_T97 raw at_ = r at *
      go_enter Tryd.func50, Tryd.ntmps50
      go_wp2_with (first | ((with_reducible refine gate_dst (N := 2) rfl ?_); go_must (refine box_event ?hg (N := 2) ?hd (cs := #[.int .i64 0, .int .i64 0]) (t := 97) ?hr ?_; (case hd => rfl); (case hg => rfl); (case hr => first | (go_simp; done) | (go_simp; rfl)); intro g2 hg w1 hbox hb; have K2 := Aside0.mk hbox; have Hw1 := Aside0.mk hb; have G2 := Aside0.mk (show w.heap.size ≤ g2 by rw [hg]; exact Nat.le_refl _); clear hb hbox hg)) | ((with_reducible refine gate_dst (N := 3) rfl ?_); go_must (refine box_event ?hg (N := 3) ?hd (cs := #[.int .i64 0, .int .i64 0]) (t := 97) ?hr ?_; (case hd => rfl); (case hg => rfl); (case hr => first | (go_simp; done) | (go_simp; rfl)); intro g3 hg w2 hbox hb; have K3 := Aside0.mk hbox; have K22 := Aside0.mk (blk_below K2.out hb); have Hw2 := Aside0.mk (below_step Hw1.out hb); have G3 := Aside0.mk (show w.heap.size ≤ g3 by rw [hg]; exact below_size Hw1.out); have N23 : g2 ≠ g3 := (by rw [hg]; exact Nat.ne_of_lt (blk_lt K2.out)); have h30 : w2.cell? ⟨g3, 0, none⟩ = some (.int .i64 0) := (blk_cell K3.out 0).trans rfl; have h31 : w2.cell? ⟨g3, 1, none⟩ = some (.int .i64 0) := (blk_cell K3.out 1).trans rfl; have f30 := blk_frozen K3.out 0; have f31 := blk_frozen K3.out 1; clear hb hbox hg)) | ((with_reducible refine gate_store (t := 97) (p := 3) (v := .tmp 4) rfl ?_); go_must (refine store_event (t := 97) (p := 3) (v := .tmp 4) (w1 := ((w2.setCell ⟨g3, 0, none⟩ (.int .i64 0)).setCell ⟨g3, 1, none⟩ (.int .i64 0))) ?hg ?ho ?hn ?hr ?_; (case ho => rfl); (case hg => rfl); (case hn => rfl); (case hr => first | (go_simp; done) | (go_simp; rfl)); intro w3 hw; have K33 := Aside0.mk (show w3.heap[g3]? = some (.cells #[.int .i64 0, .int .i64 0] 97 (0, 0)) by rw [hw]; exact blk_put (blk_put K3.out 0 _ rfl) 1 _ rfl); have K23 := Aside0.mk (show w3.heap[g2]? = some (.cells #[.int .i64 0, .int .i64 0] 97 (0, 0)) by rw [hw]; exact blk_far (p := ⟨g3, 1, none⟩) (blk_far (p := ⟨g3, 0, none⟩) K22.out N23 _) N23 _); have Hw3 := Aside0.mk (show Below w.heap.size w w3 by rw [hw]; exact (Hw2.out.setCell G3.out _).setCell G3.out _); have hzw30 : w3.cell? ⟨g, 0, none⟩ = some (.slice A raw.length c) := (blk_cell (blk_below BK.out Hw3.out) 0).trans rfl; have hzw31 : w3.cell? ⟨g, 1, none⟩ = some (.int .i64 at_) := (blk_cell (blk_below BK.out Hw3.out) 1).trans rfl; have hfw31 := blk_frozen (blk_below BK.out Hw3.out) 1; clear hw)))
      go_quiet (fail)
      generalize hq : World.drewN w3 _ = w4
      have K34 := Aside0.mk (blk_at hq K33.out)
      have K24 := Aside0.mk (blk_at hq K23.out)
      have Hw4 := Aside0.mk (below_at hq Hw3.out)
      clear hq
      have hzw40 : w4.cell? ⟨g, 0, none⟩ = some (.slice A raw.length c) := (blk_cell (blk_below BK.out Hw4.out) 0).trans rfl
      have hzw41 : w4.cell? ⟨g, 1, none⟩ = some (.int .i64 at_) := (blk_cell (blk_below BK.out Hw4.out) 1).trans rfl
      have hfw41 := blk_frozen (blk_below BK.out Hw4.out) 1
      have hx40 := (Hw4.out.cell (World.block_lt_of_cell? w _ hx0)).trans hx0
      have hx41 := (Hw4.out.cell (World.block_lt_of_cell? w _ hx1)).trans hx1
      have h40 : w4.cell? ⟨g3, 0, none⟩ = some (.int .i64 0) := (blk_cell K34.out 0).trans rfl
      have h41 : w4.cell? ⟨g3, 1, none⟩ = some (.int .i64 0) := (blk_cell K34.out 1).trans rfl
      have f40 := blk_frozen K34.out 0
      have f41 := blk_frozen K34.out 1
      go_wp2
      go_region
      generalize hq5 : ((w4.setCell ⟨g3, 0, none⟩ (.int .i64 r.f0)).setCell ⟨g3, 1, none⟩ (.int .i64 r.f1)).drew = w5
      have K44 : w4.heap[g3]? = some (.cells #[.int .i64 0, .int .i64 0] 97 (0, 0)) := K34.out
      have K45 : w4.heap[g2]? = some (.cells #[.int .i64 0, .int .i64 0] 97 (0, 0)) := K24.out
      have K35 := Aside0.mk (show w5.heap[g3]? = some (.cells #[.int .i64 r.f0, .int .i64 r.f1] 97 (0, 0)) by rw [← hq5]; exact blk_put (blk_put K44 0 _ rfl) 1 _ rfl)
      have K25 := Aside0.mk (show w5.heap[g2]? = some (.cells #[.int .i64 0, .int .i64 0] 97 (0, 0)) by rw [← hq5]; exact blk_far (p := ⟨g3, 1, none⟩) (blk_far (p := ⟨g3, 0, none⟩) K45 N23 _) N23 _)
      have Hw5 := Aside0.mk (show Below w.heap.size w w5 by rw [← hq5]; exact ((Hw4.out.setCell G3.out _).setCell G3.out _).drew)
      clear hq5 K44 K45
      have hzw50 : w5.cell? ⟨g, 0, none⟩ = some (.slice A raw.length c) := (blk_cell (blk_below BK.out Hw5.out) 0).trans rfl
      have hzw51 : w5.cell? ⟨g, 1, none⟩ = some (.int .i64 at_) := (blk_cell (blk_below BK.out Hw5.out) 1).trans rfl
      have hfw51 := blk_frozen (blk_below BK.out Hw5.out) 1
      have N2g : g2 ≠ g := Ne.symm (Nat.ne_of_lt (Nat.lt_of_lt_of_le (blk_lt BK.out) G2.out))
      have N3g : g3 ≠ g := Ne.symm (Nat.ne_of_lt (Nat.lt_of_lt_of_le (blk_lt BK.out) G3.out))
      have Gw2 := Aside0.mk (Nat.le_trans (below_size HB.out) G2.out)
      go_wp2_with (first | ((with_reducible refine gate_store (t := 3) (p := 31) (v := .tmp 29) rfl ?_); go_must (refine store_event (t := 3) (p := 31) (v := .tmp 29) (w1 := (w5.setCell ⟨g, 1, none⟩ (.int .i64 (wrap64 (at_ + 1))))) ?hg ?ho ?hn ?hr ?_; (case ho => rfl); (case hg => rfl); (case hn => rfl); (case hr => first | (go_simp; done) | (go_simp; rfl)); intro w6 hw; have K36 := Aside0.mk (show w6.heap[g3]? = some (.cells #[.int .i64 r.f0, .int .i64 r.f1] 97 (0, 0)) by rw [hw]; exact blk_far (p := ⟨g, 1, none⟩) K35.out N3g _); have K26 := Aside0.mk (show w6.heap[g2]? = some (.cells #[.int .i64 0, .int .i64 0] 97 (0, 0)) by rw [hw]; exact blk_far (p := ⟨g, 1, none⟩) K25.out N2g _); have HV6 := Aside0.mk (show GrownAt w0 w6 g A raw.length c vars props ⟨wrap64 (at_ + 1), tempo, out⟩ by rw [hw]; exact GrownAt.put1 BK.out RO.out HB.out BG.out Hw5.out _); clear hw; have h60 : w6.cell? ⟨g3, 0, none⟩ = some (.int .i64 r.f0) := (blk_cell K36.out 0).trans rfl; have h61 : w6.cell? ⟨g3, 1, none⟩ = some (.int .i64 r.f1) := (blk_cell K36.out 1).trans rfl; have h62 : w6.cell? ⟨g2, 0, none⟩ = some (.int .i64 0) := (blk_cell K26.out 0).trans rfl; have h63 : w6.cell? ⟨g2, 1, none⟩ = some (.int .i64 0) := (blk_cell K26.out 1).trans rfl; have f62 := blk_frozen K26.out 0; have f63 := blk_frozen K26.out 1)) | ((with_reducible refine gate_store (t := 97) (p := 2) (v := .tmp 32) rfl ?_); go_must (refine store_event (t := 97) (p := 2) (v := .tmp 32) (w1 := ((w6.setCell ⟨g2, 0, none⟩ (.int .i64 r.f0)).setCell ⟨g2, 1, none⟩ (.int .i64 r.f1))) ?hg ?ho ?hn ?hr ?_; (case ho => rfl); (case hg => rfl); (case hn => rfl); (case hr => first | (go_simp; done) | (go_simp; rfl)); intro w7 hw; have K27 := Aside0.mk (show w7.heap[g2]? = some (.cells #[.int .i64 r.f0, .int .i64 r.f1] 97 (0, 0)) by rw [hw]; exact blk_put (blk_put K26.out 0 _ rfl) 1 _ rfl); have HV7 := Aside0.mk (show GrownAt w0 w7 g A raw.length c vars props ⟨wrap64 (at_ + 1), tempo, out⟩ by rw [hw]; exact GrownAt.box2 HV6.out K26.out N2g.symm Gw2.out _ _); clear hw; have h72 : w7.cell? ⟨g2, 0, none⟩ = some (.int .i64 r.f0) := (blk_cell K27.out 0).trans rfl; have h73 : w7.cell? ⟨g2, 1, none⟩ = some (.int .i64 r.f1) := (blk_cell K27.out 1).trans rfl)))
      refine ⟨rfl, .agg #[.int .i64 r.f0, .int .i64 r.f1], ?_, rfl, HV7.out⟩
      simp [results, Tryd.results50, go_sem, h72, h73]
    · rw [if_neg c2] at h
      exact absurd h (by simp)
  · rw [if_neg c1] at h
    have c1' : decide (at_ < (raw.length : Int)) = false := decide_eq_false c1
    obtain ⟨rfl, rfl⟩ := Prod.mk.inj (Option.some.inj h)
    clear c1 h
    go_enter Tryd.func50, Tryd.ntmps50
    go_wp2_with (first | ((with_reducible refine gate_dst (N := 2) rfl ?_); go_must (refine box_event ?hg (N := 2) ?hd (cs := #[.int .i64 0, .int .i64 0]) (t := 97) ?hr ?_; (case hd => rfl); (case hg => rfl); (case hr => first | (go_simp; done) | (go_simp; rfl)); intro g2 hg w1 hbox hb; have K2 := Aside0.mk hbox; have Hw1 := Aside0.mk hb; have G2 := Aside0.mk (show w.heap.size ≤ g2 by rw [hg]; exact Nat.le_refl _); clear hb hbox hg)) | ((with_reducible refine gate_dst (N := 3) rfl ?_); go_must (refine box_event ?hg (N := 3) ?hd (cs := #[.int .i64 0, .int .i64 0]) (t := 97) ?hr ?_; (case hd => rfl); (case hg => rfl); (case hr => first | (go_simp; done) | (go_simp; rfl)); intro g3 hg w2 hbox hb; have K3 := Aside0.mk hbox; have K22 := Aside0.mk (blk_below K2.out hb); have Hw2 := Aside0.mk (below_step Hw1.out hb); have G3 := Aside0.mk (show w.heap.size ≤ g3 by rw [hg]; exact below_size Hw1.out); have N23 : g2 ≠ g3 := (by rw [hg]; exact Nat.ne_of_lt (blk_lt K2.out)); have h30 : w2.cell? ⟨g3, 0, none⟩ = some (.int .i64 0) := (blk_cell K3.out 0).trans rfl; have h31 : w2.cell? ⟨g3, 1, none⟩ = some (.int .i64 0) := (blk_cell K3.out 1).trans rfl; have f30 := blk_frozen K3.out 0; have f31 := blk_frozen K3.out 1; clear hb hbox hg)) | ((with_reducible refine gate_store (t := 97) (p := 3) (v := .tmp 4) rfl ?_); go_must (refine store_event (t := 97) (p := 3) (v := .tmp 4) (w1 := ((w2.setCell ⟨g3, 0, none⟩ (.int .i64 0)).setCell ⟨g3, 1, none⟩ (.int .i64 0))) ?hg ?ho ?hn ?hr ?_; (case ho => rfl); (case hg => rfl); (case hn => rfl); (case hr => first | (go_simp; done) | (go_simp; rfl)); intro w3 hw; have K33 := Aside0.mk (show w3.heap[g3]? = some (.cells #[.int .i64 0, .int .i64 0] 97 (0, 0)) by rw [hw]; exact blk_put (blk_put K3.out 0 _ rfl) 1 _ rfl); have K23 := Aside0.mk (show w3.heap[g2]? = some (.cells #[.int .i64 0, .int .i64 0] 97 (0, 0)) by rw [hw]; exact blk_far (p := ⟨g3, 1, none⟩) (blk_far (p := ⟨g3, 0, none⟩) K22.out N23 _) N23 _); have Hw3 := Aside0.mk (show Below w.heap.size w w3 by rw [hw]; exact (Hw2.out.setCell G3.out _).setCell G3.out _); have hzw30 : w3.cell? ⟨g, 0, none⟩ = some (.slice A raw.length c) := (blk_cell (blk_below BK.out Hw3.out) 0).trans rfl; have hzw31 : w3.cell? ⟨g, 1, none⟩ = some (.int .i64 at_) := (blk_cell (blk_below BK.out Hw3.out) 1).trans rfl; have hfw31 := blk_frozen (blk_below BK.out Hw3.out) 1; clear hw)))
    go_quiet (fail)
    generalize hq : World.drewN w3 _ = w4
    have K34 := Aside0.mk (blk_at hq K33.out)
    have K24 := Aside0.mk (blk_at hq K23.out)
    have Hw4 := Aside0.mk (below_at hq Hw3.out)
    clear hq
    have hzw40 : w4.cell? ⟨g, 0, none⟩ = some (.slice A raw.length c) := (blk_cell (blk_below BK.out Hw4.out) 0).trans rfl
    have hzw41 : w4.cell? ⟨g, 1, none⟩ = some (.int .i64 at_) := (blk_cell (blk_below BK.out Hw4.out) 1).trans rfl
    have hfw41 := blk_frozen (blk_below BK.out Hw4.out) 1
    have N2g : g2 ≠ g := Ne.symm (Nat.ne_of_lt (Nat.lt_of_lt_of_le (blk_lt BK.out) G2.out))
    have N3g : g3 ≠ g := Ne.symm (Nat.ne_of_lt (Nat.lt_of_lt_of_le (blk_lt BK.out) G3.out))
    have Gw2 := Aside0.mk (Nat.le_trans (below_size HB.out) G2.out)
    go_wp2_with (first | ((with_reducible refine gate_store (t := 3) (p := 31) (v := .tmp 29) rfl ?_); go_must (refine store_event (t := 3) (p := 31) (v := .tmp 29) (w1 := (w4.setCell ⟨g, 1, none⟩ (.int .i64 (wrap64 (at_ + 1))))) ?hg ?ho ?hn ?hr ?_; (case ho => rfl); (case hg => rfl); (case hn => rfl); (case hr => first | (go_simp; done) | (go_simp; rfl)); intro w6 hw; have K36 := Aside0.mk (show w6.heap[g3]? = some (.cells #[.int .i64 0, .int .i64 0] 97 (0, 0)) by rw [hw]; exact blk_far (p := ⟨g, 1, none⟩) K34.out N3g _); have K26 := Aside0.mk (show w6.heap[g2]? = some (.cells #[.int .i64 0, .int .i64 0] 97 (0, 0)) by rw [hw]; exact blk_far (p := ⟨g, 1, none⟩) K24.out N2g _); have HV6 := Aside0.mk (show GrownAt w0 w6 g A raw.length c vars props ⟨wrap64 (at_ + 1), tempo, out⟩ by rw [hw]; exact GrownAt.put1 BK.out RO.out HB.out BG.out Hw4.out _); clear hw; have h60 : w6.cell? ⟨g3, 0, none⟩ = some (.int .i64 0) := (blk_cell K36.out 0).trans rfl; have h61 : w6.cell? ⟨g3, 1, none⟩ = some (.int .i64 0) := (blk_cell K36.out 1).trans rfl; have h62 : w6.cell? ⟨g2, 0, none⟩ = some (.int .i64 0) := (blk_cell K26.out 0).trans rfl; have h63 : w6.cell? ⟨g2, 1, none⟩ = some (.int .i64 0) := (blk_cell K26.out 1).trans rfl; have f62 := blk_frozen K26.out 0; have f63 := blk_frozen K26.out 1)) | ((with_reducible refine gate_store (t := 97) (p := 2) (v := .tmp 32) rfl ?_); go_must (refine store_event (t := 97) (p := 2) (v := .tmp 32) (w1 := ((w6.setCell ⟨g2, 0, none⟩ (.int .i64 0)).setCell ⟨g2, 1, none⟩ (.int .i64 0))) ?hg ?ho ?hn ?hr ?_; (case ho => rfl); (case hg => rfl); (case hn => rfl); (case hr => first | (go_simp; done) | (go_simp; rfl)); intro w7 hw; have K27 := Aside0.mk (show w7.heap[g2]? = some (.cells #[.int .i64 0, .int .i64 0] 97 (0, 0)) by rw [hw]; exact blk_put (blk_put K26.out 0 _ rfl) 1 _ rfl); have HV7 := Aside0.mk (show GrownAt w0 w7 g A raw.length c vars props ⟨wrap64 (at_ + 1), tempo, out⟩ by rw [hw]; exact GrownAt.box2 HV6.out K26.out N2g.symm Gw2.out _ _); clear hw; have h72 : w7.cell? ⟨g2, 0, none⟩ = some (.int .i64 0) := (blk_cell K27.out 0).trans rfl; have h73 : w7.cell? ⟨g2, 1, none⟩ = some (.int .i64 0) := (blk_cell K27.out 1).trans rfl)))
    refine ⟨rfl, .agg #[.int .i64 0, .int .i64 0], ?_, rfl, HV7.out⟩
    simp [results, Tryd.results50, go_sem, h72, h73]

end Go.Proofs.YteennleoieafiaaDoor.P
end
section
namespace Go.Proofs.YteennleoieafiaaDoor.P
open Go.RowKit Go.Proofs.YteennleoieafiaaDoorW.PrintWords Go.Proofs.YteennleoieafiaaDoorW.PrintLast Go.Proofs.YteennleoieafiaaDoorW.PrintMore Go.Proofs.YteennleoieafiaaDoor.G
attribute [local go_sem] max2_int min2_int max_two min_two max_three min_three max_four min_four   -- for this text's walks alone
set_option linter.unusedVariables false
set_option linter.unusedSimpArgs false

--IMPORT FGrownTake
--IMPORT Derived.WalkSpells
/-! ### grown_put: function 51 -/
def grown_put.f (st : GrSt) (kind value : Int) : Option GrSt :=
  if st.out.length < 8796093022208 then some { st with out := st.out ++ [⟨kind, value⟩] } else none
set_option maxHeartbeats 8000000 in
set_option maxRecDepth 100000 in
theorem grown_put.calls (w0 : World) (A : Option Addr) (n c : Nat) (g : Nat) (vars props : Int) (bg : w0.heap.size ≤ g) (st : GrSt) (kind value : Int) (st' : GrSt) (w : World) (hv : GrownAt w0 w g A n c vars props st) (h : grown_put.f st kind value = some st') :
    Calls Tryd.prog 51 #[.pointer (some ⟨g, 0, none⟩), .int .i64 kind, .int .i64 value] w fun e w' => e = .returned (.tuple #[]) ∧ GrownAt w0 w' g A n c vars props st' := by
  have info := (by kernel_rfl : (Tryd.prog.info? 35).map (fun i => (i.zero, i.size, i.bytes)) = some (some (.agg #[(.int .i64 0), (.int .i64 0)]), 2, 16))
  have BG := Aside0.mk bg
  clear bg
  obtain ⟨at_, tempo, out⟩ := st
  obtain ⟨vo, hbk, hro, hb⟩ := hv
  have BK := Aside0.mk hbk
  have RO := Aside0.mk hro
  have HB := Aside0.mk hb
  clear hbk hro hb
  obtain ⟨Ao, co, rfl⟩ := Kd.R_slice RO.out
  unfold grown_put.f at h
  by_cases c1 : out.length < 8796093022208
  · rw [if_pos c1] at h
    obtain rfl := Option.some.inj h
    have LM := Aside0.mk c1
    clear c1 h
    have hcz5 : w.cell? ⟨g, 5, none⟩ = some (.slice Ao out.length co) := (blk_cell BK.out 5).trans rfl
    have hfz5 := blk_frozen BK.out 5
    go_enter Tryd.func51, Tryd.ntmps51
    go_wp2_with (first | ((with_reducible refine gate_builtin (b := .append) (xs := #[.tmp 10, .tmp 14]) rfl ?_); at_builtin; go_must (refine Kd.R_append k35 (w0 := w0) w0.heap.size rfl (.tmp 10) (.tmp 14) 36 35 (.agg #[(.int .i64 0), (.int .i64 0)]) 16 rfl Tryd.underlying36 info rfl (by decide) (by omega) (.slice Ao out.length co) out (⟨kind, value⟩ : S35) [.int .i64 kind, .int .i64 value] (fun _ => True) (fun _ => False) rfl rfl ?aP (fun _ hk => hk.elim) ?aF ?aO ?aB ?aS ?aL ?_; (case aP => exact k35_mkM _ _ _ (⟨kind, value⟩ : S35)); (case aB => exact HB.out); (case aF => exact (fun _ _ => trivial)); (case aO => exact RO.out); (case aS => exact below_size HB.out); (case aL => have := LM.out; omega); intro v1 w2 ho hb hg hat; obtain ⟨A1, c1, rfl⟩ := Kd.R_slice ho; replace ho : Kd.R k35 35 w2 w0.heap.size (fun _ => True) (.slice A1 (out.length + 1) c1) (out ++ [(⟨kind, value⟩ : S35)]) := (by rw [List.length_append] at ho; exact ho); have R1 := Aside0.mk ho; have HB2 := Aside0.mk hb; have K2 := Aside0.mk (blk_grown BK.out hg (Kd.R_ne RO.out BK.out (by decide))); clear ho hb hg hat; have hcz6 : w2.cell? ⟨g, 5, none⟩ = some (.slice Ao out.length co) := (blk_cell K2.out 5).trans rfl; have hfz6 := blk_frozen K2.out 5)))
    go_end0
    exact ⟨rfl, _, blk_put K2.out 5 _ rfl, Kd.R_set R1.out K2.out (by decide) _ _, HB2.out.setCell BG.out _⟩
  · rw [if_neg c1] at h
    exact absurd h (by simp)
theorem picked_same (a0 a1 r : Int) (w : World) (h : foretellkeep_picked.f a0 a1 = some r) : Calls Tryd.prog 15 #[.int .i64 a0, .int .i64 a1] w fun e w' => e = .returned (.int .i64 r) ∧ w' = w := by
  have H := h
  unfold foretellkeep_picked.f at H
  clear h
  by_cases c3 : a0 < 0
  · rw [if_pos c3] at H
    have c3b0 : decide (a0 < 0) = true := decide_eq_true c3
    clear c3
    by_cases c4 : a1 = 0
    · rw [if_pos c4] at H
      exact absurd H (by simp)
    · rw [if_neg c4] at H
      have c4b0 : (a1 == 0) = false := beq_eq_false_iff_ne.mpr c4
      have c4b1 : (a1 != 0) = true := bne_iff_ne.mpr c4
      obtain rfl := Option.some.inj H
      go_enter Tryd.func15, Tryd.ntmps15
      go_wp2
      go_ret
      exact ⟨by first | rfl | (simp; done) | (simp [*]; done), rfl⟩
  · rw [if_neg c3] at H
    have c3b0 : decide (a0 < 0) = false := decide_eq_false c3
    clear c3
    by_cases c5 : a1 = 0
    · rw [if_pos c5] at H
      exact absurd H (by simp)
    · rw [if_neg c5] at H
      have c5b0 : (a1 == 0) = false := beq_eq_false_iff_ne.mpr c5
      have c5b1 : (a1 != 0) = true := bne_iff_ne.mpr c5
      obtain rfl := Option.some.inj H
      go_enter Tryd.func15, Tryd.ntmps15
      go_wp2
      go_ret
      exact ⟨by first | rfl | (simp; done) | (simp [*]; done), rfl⟩
theorem GrownAt.size {w0 w : World} {g : Nat} {A : Option Addr} {n c : Nat} {vars props : Int} {st : GrSt} (h : GrownAt w0 w g A n c vars props st) : w0.heap.size ≤ w.heap.size := by
  obtain ⟨_, _, _, h⟩ := h
  exact below_size h
theorem GrownAt.lt {w0 w : World} {g : Nat} {A : Option Addr} {n c : Nat} {vars props : Int} {st : GrSt} (h : GrownAt w0 w g A n c vars props st) : g < w.heap.size := by
  obtain ⟨_, h, _, _⟩ := h
  exact blk_lt h
theorem GrownAt.c1 {w0 w : World} {g : Nat} {A : Option Addr} {n c : Nat} {vars props : Int} {st : GrSt} (h : GrownAt w0 w g A n c vars props st) : w.cell? ⟨g, 1, none⟩ = some (.int .i64 st.at_) := by
  obtain ⟨_, h, _, _⟩ := h
  exact (blk_cell h 1).trans rfl
theorem GrownAt.c2 {w0 w : World} {g : Nat} {A : Option Addr} {n c : Nat} {vars props : Int} {st : GrSt} (h : GrownAt w0 w g A n c vars props st) : w.cell? ⟨g, 2, none⟩ = some (.int .i64 vars) := by
  obtain ⟨_, h, _, _⟩ := h
  exact (blk_cell h 2).trans rfl
theorem GrownAt.c3 {w0 w : World} {g : Nat} {A : Option Addr} {n c : Nat} {vars props : Int} {st : GrSt} (h : GrownAt w0 w g A n c vars props st) : w.cell? ⟨g, 3, none⟩ = some (.int .i64 props) := by
  obtain ⟨_, h, _, _⟩ := h
  exact (blk_cell h 3).trans rfl
theorem GrownAt.c4 {w0 w : World} {g : Nat} {A : Option Addr} {n c : Nat} {vars props : Int} {st : GrSt} (h : GrownAt w0 w g A n c vars props st) : w.cell? ⟨g, 4, none⟩ = some (.int .i64 st.tempo) := by
  obtain ⟨_, h, _, _⟩ := h
  exact (blk_cell h 4).trans rfl
theorem GrownAt.f4 {w0 w : World} {g : Nat} {A : Option Addr} {n c : Nat} {vars props : Int} {st : GrSt} (h : GrownAt w0 w g A n c vars props st) : w.frozen? ⟨g, 4, none⟩ = false := by
  obtain ⟨_, h, _, _⟩ := h
  exact blk_frozen h 4
/-- Fewer ops that look ahead are left. -/
theorem GrownAt.put4 {w0 w : World} {g : Nat} {A : Option Addr} {n c : Nat} {vars props : Int} {st : GrSt} (h : GrownAt w0 w g A n c vars props st) (bg : w0.heap.size ≤ g) (t : Int) : GrownAt w0 (w.setCell ⟨g, 4, none⟩ (.int .i64 t)) g A n c vars props { st with tempo := t } := by
  obtain ⟨vo, h1, h2, h3⟩ := h
  exact ⟨vo, blk_put h1 4 _ rfl, Kd.R_set h2 h1 (by decide) _ _, h3.setCell bg _⟩

end Go.Proofs.YteennleoieafiaaDoor.P
end
section
namespace Go.Proofs.YteennleoieafiaaDoor.P
open Go.RowKit Go.Proofs.YteennleoieafiaaDoorW.PrintWords Go.Proofs.YteennleoieafiaaDoorW.PrintLast Go.Proofs.YteennleoieafiaaDoorW.PrintMore Go.Proofs.YteennleoieafiaaDoor.G
attribute [local go_sem] max2_int min2_int max_two min_two max_three min_three max_four min_four   -- for this text's walks alone
set_option linter.unusedVariables false
set_option linter.unusedSimpArgs false

--IMPORT FGrownTake
--IMPORT FGrownPut
--IMPORT Derived.WalkSpells
--IMPORT Derived.StillTailTactics
/-! ### grown_number: function 39 -/
def grown_number.f : Nat → List S97 → Int → GrSt → Int → Option GrSt
  | 0, _, _, _, _ => none
  | k + 1, raw, vars, st, deep => (grown_take.f raw st).bind fun r => (foretellkeep_picked.f r.1.f0 5).bind fun p5 => (if deep = 0 ∨ 14 < r.2.at_ then foretellkeep_picked.f r.1.f0 2 else some p5).bind fun op =>
      if op = 1 ∧ 0 < vars then (foretellkeep_picked.f r.1.f1 vars).bind fun v => grown_put.f r.2 2 v
      else if op < 2 then (foretellkeep_picked.f r.1.f1 9).bind fun v => grown_put.f r.2 1 (wrap64 (v - 4))
      else (grown_put.f r.2 (wrap64 (wrap64 (3 + op) - 2)) 0).bind fun s1 => (grown_number.f k raw vars s1 (wrap64 (deep - 1))).bind fun s2 => grown_number.f k raw vars s2 (wrap64 (deep - 1))
theorem grown_number.mono_f : ∀ k raw vars st deep, LeO (grown_number.f k raw vars st deep) (grown_number.f (k + 1) raw vars st deep)
  | 0, _, _, _, _ => fun r h => by simp [grown_number.f] at h
  | k + 1, raw, vars, st, deep => by
    unfold grown_number.f
    exact LeO.bind (LeO.refl _) fun _ => LeO.bind (LeO.refl _) fun _ => LeO.bind (LeO.refl _) fun _ => LeO.ite (LeO.refl _) (LeO.ite (LeO.refl _) (LeO.bind (LeO.refl _) fun _ => LeO.bind (grown_number.mono_f k _ _ _ _) fun _ => grown_number.mono_f k _ _ _ _))
set_option maxHeartbeats 8000000 in
set_option maxRecDepth 100000 in
theorem grown_number.calls (w0 : World) (A : Option Addr) (c : Nat) (raw : List S97) (g : Nat) (vars props : Int) (hr : Kd.C k97 w0 A raw.length raw) (bg : w0.heap.size ≤ g) (k : Nat) : ∀ (st : GrSt) (deep : Int) (st' : GrSt) (w : World) (hv : GrownAt w0 w g A raw.length c vars props st) (h : grown_number.f k raw vars st deep = some st'),
    Calls Tryd.prog 39 #[.pointer (some ⟨g, 0, none⟩), .int .i64 deep] w fun e w' => e = .returned (.tuple #[]) ∧ GrownAt w0 w' g A raw.length c vars props st' := by
  have R0 := Aside0.mk hr
  have BG := Aside0.mk bg
  clear hr bg
  induction k with
  | zero =>
    intro st deep st' w hv h
    exact absurd h (by simp [grown_number.f])
  | succ k ih =>
    intro st deep st' w hv h
    have HV := Aside0.mk hv
    clear hv
    simp only [grown_number.f] at h
    obtain ⟨⟨r, s1⟩, h1, h⟩ := Option.bind_eq_some_iff.mp h
    obtain ⟨p5, h2, h⟩ := Option.bind_eq_some_iff.mp h
    obtain ⟨op, h3, h⟩ := Option.bind_eq_some_iff.mp h
    have H1 := Aside0.mk h1
    have H2 := Aside0.mk h2
    clear h1 h2
    simp only [] at h h3
    have hop : (op = 1 ∧ 0 < vars ∧ ((foretellkeep_picked.f r.f1 vars).bind fun v => grown_put.f s1 2 v) = some st') ∨ (((op == 1) = false ∨ ((op == 1) = true ∧ decide (vars > 0) = false)) ∧ decide (op < 2) = true ∧ ((foretellkeep_picked.f r.f1 9).bind fun v => grown_put.f s1 1 (wrap64 (v - 4))) = some st') ∨ ((op == 1) = false ∧ decide (op < 2) = false ∧ ((grown_put.f s1 (wrap64 (wrap64 (3 + op) - 2)) 0).bind fun s1 => (grown_number.f k raw vars s1 (wrap64 (deep - 1))).bind fun s2 => grown_number.f k raw vars s2 (wrap64 (deep - 1))) = some st') := by
      by_cases d1 : op = 1 ∧ 0 < vars
      · rw [if_pos d1] at h
        exact .inl ⟨d1.1, d1.2, h⟩
      · rw [if_neg d1] at h
        by_cases d2 : op < 2
        · rw [if_pos d2] at h
          refine .inr (.inl ⟨?_, decide_eq_true d2, h⟩)
          by_cases d3 : op = 1
          · exact .inr ⟨beq_iff_eq.mpr d3, decide_eq_false (fun h0 => d1 ⟨d3, h0⟩)⟩
          · exact .inl (beq_eq_false_iff_ne.mpr d3)
        · rw [if_neg d2] at h
          exact .inr (.inr ⟨beq_eq_false_iff_ne.mpr (by omega), decide_eq_false d2, h⟩)
    have hdp : (((deep == 0) = true ∨ ((deep == 0) = false ∧ decide (s1.at_ > 14) = true)) ∧ foretellkeep_picked.f r.f0 2 = some op) ∨ ((deep == 0) = false ∧ decide (s1.at_ > 14) = false ∧ p5 = op) := by
      by_cases d0 : deep = 0
      · rw [if_pos (.inl d0)] at h3
        exact .inl ⟨.inl (beq_iff_eq.mpr d0), h3⟩
      · by_cases d4 : 14 < s1.at_
        · rw [if_pos (.inr d4)] at h3
          exact .inl ⟨.inr ⟨beq_eq_false_iff_ne.mpr d0, decide_eq_true d4⟩, h3⟩
        · rw [if_neg (by rintro (h0 | h0) <;> contradiction)] at h3
          exact .inr ⟨beq_eq_false_iff_ne.mpr d0, decide_eq_false d4, Option.some.inj h3⟩
    clear h h3
    rcases hop with ⟨rfl, o2, h⟩ | ⟨o1, o2, h⟩ | ⟨o1, o2, h⟩
    · obtain ⟨v, h4, h⟩ := Option.bind_eq_some_iff.mp h
      have H4 := Aside0.mk h4
      have H5 := Aside0.mk h
      clear h h4
      have o2' : decide (vars > 0) = true := decide_eq_true o2
      clear o2
      rcases hdp with ⟨(d0 | ⟨d0, d1⟩), h3⟩ | ⟨d0, d1, rfl⟩
      all_goals try (have H3 := Aside0.mk h3; clear h3)
      all_goals go_enter Tryd.func39, Tryd.ntmps39
      all_goals go_wp2_with (first | (go_at_call 50; go_must (refine (grown_take.calls w0 A c raw g vars props R0.out BG.out st r s1 _ HV.out H1.out).mono ?_; rintro e w1 ⟨rfl, hv⟩; have HV1 := Aside0.mk hv; clear hv)) | ((with_reducible refine gate_dst (N := 4) rfl ?_); go_must (refine box_event ?hg (N := 4) ?hd (cs := #[.int .i64 0, .int .i64 0]) (t := 97) ?hr ?_; (case hd => rfl); (case hg => rfl); (case hr => first | (go_simp; done) | (go_simp; rfl)); intro g4 hg w2 hbox hb; have K4 := Aside0.mk hbox; have HV2 := Aside0.mk (GrownAt.below HV1.out hb); have G4 := Aside0.mk (show w0.heap.size ≤ g4 by rw [hg]; exact HV1.out.size); have N4 : g ≠ g4 := (by rw [hg]; exact Nat.ne_of_lt HV1.out.lt); clear hb hbox hg; have h20 : w2.cell? ⟨g4, 0, none⟩ = some (.int .i64 0) := (blk_cell K4.out 0).trans rfl; have h21 : w2.cell? ⟨g4, 1, none⟩ = some (.int .i64 0) := (blk_cell K4.out 1).trans rfl; have f20 := blk_frozen K4.out 0; have f21 := blk_frozen K4.out 1)) | ((with_reducible refine gate_store (t := 97) (p := 4) (v := .tmp 7) rfl ?_); go_must (refine store_event (t := 97) (p := 4) (v := .tmp 7) (w1 := ((w2.setCell ⟨g4, 0, none⟩ (.int .i64 r.f0)).setCell ⟨g4, 1, none⟩ (.int .i64 r.f1))) ?hg ?ho ?hn ?hr ?_; (case ho => rfl); (case hg => rfl); (case hn => rfl); (case hr => first | (go_simp; done) | (go_simp; rfl)); intro w3 hw; have K43 := Aside0.mk (show w3.heap[g4]? = some (.cells #[.int .i64 r.f0, .int .i64 r.f1] 97 (0, 0)) by rw [hw]; exact blk_put (blk_put K4.out 0 _ rfl) 1 _ rfl); have HV3 := Aside0.mk (show GrownAt w0 w3 g A raw.length c vars props s1 by rw [hw]; exact GrownAt.box2 HV2.out K4.out N4 G4.out _ _); clear hw; have h30 : w3.cell? ⟨g4, 0, none⟩ = some (.int .i64 r.f0) := (blk_cell K43.out 0).trans rfl; have h31 : w3.cell? ⟨g4, 1, none⟩ = some (.int .i64 r.f1) := (blk_cell K43.out 1).trans rfl; have z31 := HV3.out.c1; have z32 := HV3.out.c2; have z33 := HV3.out.c3; have z34 := HV3.out.c4)) | (go_at_call 15; go_must (refine (picked_same _ _ _ _ (by first | exact H2.out | exact H3.out | exact H4.out)).mono ?_; rintro e w' ⟨rfl, hww⟩; obtain rfl := hww.symm)))
      all_goals go_still_tail 8, (by kernel_rfl)
      all_goals still_call (picked_same _ _ _ _ H4.out)
      all_goals refine wpStill_nil ?_
      all_goals change wpList _ _ _ _ _ w3.drew
      all_goals have HV3d := Aside0.mk (show GrownAt w0 w3.drew g A raw.length c vars props s1 from HV3.out.drewN 1)
      all_goals generalize w3.drew = w3d at *
      all_goals go_wp2_with (go_at_call 51; go_must (refine (grown_put.calls w0 A raw.length c g vars props BG.out s1 _ _ _ _ HV3d.out H5.out).mono ?_; rintro e w4 ⟨rfl, hv⟩; have HV4 := Aside0.mk hv; clear hv))
      all_goals go_end0
      all_goals exact ⟨rfl, HV4.out⟩
    · obtain ⟨v, h4, h⟩ := Option.bind_eq_some_iff.mp h
      have H4 := Aside0.mk h4
      have H5 := Aside0.mk h
      clear h h4
      rcases hdp with ⟨(d0 | ⟨d0, d1⟩), h3⟩ | ⟨d0, d1, rfl⟩ <;> rcases o1 with o1 | ⟨o1, o3⟩
      all_goals try (have H3 := Aside0.mk h3; clear h3)
      all_goals go_enter Tryd.func39, Tryd.ntmps39
      all_goals go_wp2_with (first | (go_at_call 50; go_must (refine (grown_take.calls w0 A c raw g vars props R0.out BG.out st r s1 _ HV.out H1.out).mono ?_; rintro e w1 ⟨rfl, hv⟩; have HV1 := Aside0.mk hv; clear hv)) | ((with_reducible refine gate_dst (N := 4) rfl ?_); go_must (refine box_event ?hg (N := 4) ?hd (cs := #[.int .i64 0, .int .i64 0]) (t := 97) ?hr ?_; (case hd => rfl); (case hg => rfl); (case hr => first | (go_simp; done) | (go_simp; rfl)); intro g4 hg w2 hbox hb; have K4 := Aside0.mk hbox; have HV2 := Aside0.mk (GrownAt.below HV1.out hb); have G4 := Aside0.mk (show w0.heap.size ≤ g4 by rw [hg]; exact HV1.out.size); have N4 : g ≠ g4 := (by rw [hg]; exact Nat.ne_of_lt HV1.out.lt); clear hb hbox hg; have h20 : w2.cell? ⟨g4, 0, none⟩ = some (.int .i64 0) := (blk_cell K4.out 0).trans rfl; have h21 : w2.cell? ⟨g4, 1, none⟩ = some (.int .i64 0) := (blk_cell K4.out 1).trans rfl; have f20 := blk_frozen K4.out 0; have f21 := blk_frozen K4.out 1)) | ((with_reducible refine gate_store (t := 97) (p := 4) (v := .tmp 7) rfl ?_); go_must (refine store_event (t := 97) (p := 4) (v := .tmp 7) (w1 := ((w2.setCell ⟨g4, 0, none⟩ (.int .i64 r.f0)).setCell ⟨g4, 1, none⟩ (.int .i64 r.f1))) ?hg ?ho ?hn ?hr ?_; (case ho => rfl); (case hg => rfl); (case hn => rfl); (case hr => first | (go_simp; done) | (go_simp; rfl)); intro w3 hw; have K43 := Aside0.mk (show w3.heap[g4]? = some (.cells #[.int .i64 r.f0, .int .i64 r.f1] 97 (0, 0)) by rw [hw]; exact blk_put (blk_put K4.out 0 _ rfl) 1 _ rfl); have HV3 := Aside0.mk (show GrownAt w0 w3 g A raw.length c vars props s1 by rw [hw]; exact GrownAt.box2 HV2.out K4.out N4 G4.out _ _); clear hw; have h30 : w3.cell? ⟨g4, 0, none⟩ = some (.int .i64 r.f0) := (blk_cell K43.out 0).trans rfl; have h31 : w3.cell? ⟨g4, 1, none⟩ = some (.int .i64 r.f1) := (blk_cell K43.out 1).trans rfl; have z31 := HV3.out.c1; have z32 := HV3.out.c2; have z33 := HV3.out.c3; have z34 := HV3.out.c4)) | (go_at_call 15; go_must (refine (picked_same _ _ _ _ (by first | exact H2.out | exact H3.out | exact H4.out)).mono ?_; rintro e w' ⟨rfl, hww⟩; obtain rfl := hww.symm)) | (go_at_call 51; go_must (refine (grown_put.calls w0 A raw.length c g vars props BG.out s1 _ _ _ _ HV3.out H5.out).mono ?_; rintro e w4 ⟨rfl, hv⟩; have HV4 := Aside0.mk hv; clear hv)))
      all_goals go_end0
      all_goals exact ⟨rfl, HV4.out⟩
    · obtain ⟨s2, h4, h⟩ := Option.bind_eq_some_iff.mp h
      obtain ⟨s3, h5, h⟩ := Option.bind_eq_some_iff.mp h
      have H5 := Aside0.mk h4
      have H6 := Aside0.mk h5
      have H7 := Aside0.mk h
      clear h h4 h5
      rcases hdp with ⟨(d0 | ⟨d0, d1⟩), h3⟩ | ⟨d0, d1, rfl⟩
      all_goals try (have H3 := Aside0.mk h3; clear h3)
      all_goals go_enter Tryd.func39, Tryd.ntmps39
      all_goals go_wp2_with (first | (go_at_call 50; go_must (refine (grown_take.calls w0 A c raw g vars props R0.out BG.out st r s1 _ HV.out H1.out).mono ?_; rintro e w1 ⟨rfl, hv⟩; have HV1 := Aside0.mk hv; clear hv)) | ((with_reducible refine gate_dst (N := 4) rfl ?_); go_must (refine box_event ?hg (N := 4) ?hd (cs := #[.int .i64 0, .int .i64 0]) (t := 97) ?hr ?_; (case hd => rfl); (case hg => rfl); (case hr => first | (go_simp; done) | (go_simp; rfl)); intro g4 hg w2 hbox hb; have K4 := Aside0.mk hbox; have HV2 := Aside0.mk (GrownAt.below HV1.out hb); have G4 := Aside0.mk (show w0.heap.size ≤ g4 by rw [hg]; exact HV1.out.size); have N4 : g ≠ g4 := (by rw [hg]; exact Nat.ne_of_lt HV1.out.lt); clear hb hbox hg; have h20 : w2.cell? ⟨g4, 0, none⟩ = some (.int .i64 0) := (blk_cell K4.out 0).trans rfl; have h21 : w2.cell? ⟨g4, 1, none⟩ = some (.int .i64 0) := (blk_cell K4.out 1).trans rfl; have f20 := blk_frozen K4.out 0; have f21 := blk_frozen K4.out 1)) | ((with_reducible refine gate_store (t := 97) (p := 4) (v := .tmp 7) rfl ?_); go_must (refine store_event (t := 97) (p := 4) (v := .tmp 7) (w1 := ((w2.setCell ⟨g4, 0, none⟩ (.int .i64 r.f0)).setCell ⟨g4, 1, none⟩ (.int .i64 r.f1))) ?hg ?ho ?hn ?hr ?_; (case ho => rfl); (case hg => rfl); (case hn => rfl); (case hr => first | (go_simp; done) | (go_simp; rfl)); intro w3 hw; have K43 := Aside0.mk (show w3.heap[g4]? = some (.cells #[.int .i64 r.f0, .int .i64 r.f1] 97 (0, 0)) by rw [hw]; exact blk_put (blk_put K4.out 0 _ rfl) 1 _ rfl); have HV3 := Aside0.mk (show GrownAt w0 w3 g A raw.length c vars props s1 by rw [hw]; exact GrownAt.box2 HV2.out K4.out N4 G4.out _ _); clear hw; have h30 : w3.cell? ⟨g4, 0, none⟩ = some (.int .i64 r.f0) := (blk_cell K43.out 0).trans rfl; have h31 : w3.cell? ⟨g4, 1, none⟩ = some (.int .i64 r.f1) := (blk_cell K43.out 1).trans rfl; have z31 := HV3.out.c1; have z32 := HV3.out.c2; have z33 := HV3.out.c3; have z34 := HV3.out.c4)) | (go_at_call 15; go_must (refine (picked_same _ _ _ _ (by first | exact H2.out | exact H3.out | exact H4.out)).mono ?_; rintro e w' ⟨rfl, hww⟩; obtain rfl := hww.symm)) | (go_at_call 51; go_must (refine (grown_put.calls w0 A raw.length c g vars props BG.out s1 _ _ _ _ HV3.out H5.out).mono ?_; rintro e w4 ⟨rfl, hv⟩; have HV4 := Aside0.mk hv; clear hv)) | (go_at_call 39; go_must (first | (refine (ih _ _ _ _ HV5.out H7.out).mono ?_; rintro e w6 ⟨rfl, hv⟩; have HVn := Aside0.mk hv; clear hv) | (refine (ih _ _ _ _ HV4.out H6.out).mono ?_; rintro e w5 ⟨rfl, hv⟩; have HV5 := Aside0.mk hv; clear hv))))
      all_goals go_end0
      all_goals exact ⟨rfl, HVn.out⟩

end Go.Proofs.YteennleoieafiaaDoor.P
end
section
namespace Go.Proofs.YteennleoieafiaaDoor.P
open Go.RowKit Go.Proofs.YteennleoieafiaaDoorW.PrintWords Go.Proofs.YteennleoieafiaaDoorW.PrintLast Go.Proofs.YteennleoieafiaaDoorW.PrintMore Go.Proofs.YteennleoieafiaaDoor.G
attribute [local go_sem] max2_int min2_int max_two min_two max_three min_three max_four min_four   -- for this text's walks alone
set_option linter.unusedVariables false
set_option linter.unusedSimpArgs false

/-! ### foretellkeep_Number: function 29 -/
--IMPORT FGrownTake
--IMPORT Derived.WalkSpells
def foretellkeep_Number.f (k : Nat) (l0 : List (S97)) (a1 : Int) : Option ((List (S35))) := (grown_number.f k l0 a1 ⟨0, 0, []⟩ 2).bind fun st => some st.out
theorem foretellkeep_Number.mono : ∀ a0 a1 k, LeO (foretellkeep_Number.f k a0 a1) (foretellkeep_Number.f (k + 1) a0 a1) := by
  intro a0 a1 k
  unfold foretellkeep_Number.f
  exact LeO.bind (grown_number.mono_f k _ _ _ _) (fun _ => LeO.refl _)
set_option maxHeartbeats 8000000 in
set_option maxRecDepth 100000 in
theorem foretellkeep_Number.calls (k : Nat) (A0 : Option Addr) (c0 : Nat) (l0 : List (S97)) (a1 : Int) (r : List (S35)) (w : World) (hr0 : Kd.C k97 w A0 l0.length l0) (hc0 : l0.length ≤ c0) (h : foretellkeep_Number.f k l0 a1 = some r) :
    Calls Tryd.prog 29 #[.slice A0 l0.length c0, .int .i64 a1] w fun e w' => ∃ v0_ : Value, e = .returned (v0_) ∧ Kd.R k35 35 w' w.heap.size (fun _ => True) v0_ r ∧ Below w.heap.size w w' := by
  have R0 := Aside0.mk hr0
  clear hr0 hc0
  unfold foretellkeep_Number.f at h
  obtain ⟨st, h1, h⟩ := Option.bind_eq_some_iff.mp h
  obtain rfl := Option.some.inj h
  have H1 := Aside0.mk h1
  clear h h1
  go_enter Tryd.func29, Tryd.ntmps29
  go_wp2_with (first | ((with_reducible refine gate_dst (N := 9) rfl ?_); go_must (refine box_event ?hg (N := 9) ?hd (cs := #[.slice A0 l0.length c0, .int .i64 0, .int .i64 a1, .int .i64 0, .int .i64 0, .slice none 0 0]) (t := 81) ?hr ?_; (case hd => rfl); (case hg => rfl); (case hr => first | (go_simp; done) | (go_simp; rfl)); intro g hg w1 hbox hb; have HV := Aside0.mk (show GrownAt w w1 g A0 l0.length c0 a1 0 ⟨0, 0, []⟩ from ⟨_, hbox, Kd.R_nil _ _ _ _ _, hb⟩); have BG := Aside0.mk (show w.heap.size ≤ g by rw [hg]; exact Nat.le_refl _); clear hb hbox hg)) | (go_at_call 39; go_must (refine (grown_number.calls w A0 c0 l0 g a1 0 R0.out BG.out k _ _ _ _ HV.out H1.out).mono ?_; rintro e w2 ⟨rfl, hv⟩; obtain ⟨vo, k2, ro, b2⟩ := hv; have K2 := Aside0.mk k2; have RO := Aside0.mk ro; have HB := Aside0.mk b2; clear k2 ro b2; have hcz5 : w2.cell? ⟨g, 5, none⟩ = some vo := (blk_cell K2.out 5).trans rfl)))
  go_ret
  exact ⟨_, rfl, RO.out, HB.out⟩

end Go.Proofs.YteennleoieafiaaDoor.P
end
section
namespace Go.Proofs.YteennleoieafiaaDoor.P
open Go.RowKit Go.Proofs.YteennleoieafiaaDoorW.PrintWords Go.Proofs.YteennleoieafiaaDoorW.PrintLast Go.Proofs.YteennleoieafiaaDoorW.PrintMore Go.Proofs.YteennleoieafiaaDoor.G
attribute [local go_sem] max2_int min2_int max_two min_two max_three min_three max_four min_four   -- for this text's walks alone
set_option linter.unusedVariables false
set_option linter.unusedSimpArgs false

/-! ### foretellkeep_num: function 16 -/
def foretellkeep_num.f (a0 : Int) : Option ((List (S35))) := some (([(⟨1, a0⟩ : S35)] : List (S35)))
set_option maxHeartbeats 8000000 in
set_option maxRecDepth 100000 in
theorem foretellkeep_num.calls (a0 : Int) (r : List (S35)) (w : World) (h : foretellkeep_num.f a0 = some r) :
    Calls Tryd.prog 16 #[.int .i64 a0] w fun e w' => ∃ v0_ : Value, e = .returned (v0_) ∧ Kd.R k35 35 w' w.heap.size (fun _ => True) v0_ r ∧ Below w.heap.size w w' := by
  have hu35 := Tryd.underlying35
  have HB := Aside0.mk (Below.refl w.heap.size w)
  have H : (some (([(⟨1, a0⟩ : S35)] : List (S35)))) = some r := h
  clear h
  obtain ⟨y104, hy104⟩ : ∃ y_ : List (S35), y_ = (([(⟨1, a0⟩ : S35)] : List (S35))) := ⟨_, rfl⟩
  replace H : (some y104) = some r := by first | (rw [hy104]; with_reducible exact H) | (have H2_ := (Option.bind_some _ _).symm.trans H; rw [hy104]; with_reducible exact H2_) | (have H2_ := (Option.bind_some _ _).symm.trans H; with_reducible exact H2_) | with_reducible exact H | (rw [hy104]; exact H) | exact H
  have Ny104 := Aside0.mk hy104
  clear hy104
  obtain rfl := Option.some.inj H
  go_enter Tryd.func16, Tryd.ntmps16
  go_wp2_with (first | ((with_reducible refine gate_dst (N := 5) rfl ?_); refine Kd.R_lit k35 _ 35 ?hg (N := 5) ?hd (xs := ([(⟨1, a0⟩ : S35)] : List (S35))) (inner := [.int .i64 1, .int .i64 a0]) (ok := fun _ => True) (okp := fun _ => True) ?hr ?hp (fun _ hk => hk) trivial (Below.refl _ _) (Nat.le_refl _) (by simp) ?_; (case hd => rfl); (case hg => rfl); (case hr => first | (go_simp; done) | (go_simp; rfl)); (case hp => exact (Reps.c2 (show Kd.M k35 _ _ _ (⟨1, a0⟩ : S35) [.int .i64 1, .int .i64 a0] from (k35_mkM _ _ _ (⟨1, a0⟩ : S35) )) (Reps.none _ _))); intro v105 w2 ho3 hb hg_ hnew_; clear hg_ hnew_; (first | rw [← Ny104.out] at ho3 | (simp only [Int.reduceToNat] at ho3; rw [← Ny104.out] at ho3)); have n0_ := Aside0.mk (Kd.R_lower ho3 (below_size (by repeat (first | (with_reducible first | exact HB.out | apply below_alloc | apply pw_below_drewN | apply below_drew1) | exact HB.out)))); have n1_ := Aside0.mk (below_step (by repeat (first | (with_reducible first | exact HB.out | apply below_alloc | apply pw_below_drewN | apply below_drew1) | exact HB.out)) hb); clear HB; have HO106 := n0_; have HB := n1_; clear n0_ n1_; clear hb ho3))
  go_ret
  exact ⟨_, by first | rfl | (simp [errW_none, errW_some] <;> rfl) | (simp [*, errW_none, errW_some] <;> rfl), by (with_reducible repeat (first | apply Kd.R_alloc | apply Kd.R_drewN | apply Kd.R_drew)); exact HO106.out, by repeat (first | (with_reducible first | exact HB.out | apply below_alloc | apply pw_below_drewN | apply below_drew1) | exact HB.out)⟩

end Go.Proofs.YteennleoieafiaaDoor.P
end
section
namespace Go.Proofs.YteennleoieafiaaDoor.P
open Go.RowKit Go.Proofs.YteennleoieafiaaDoorW.PrintWords Go.Proofs.YteennleoieafiaaDoorW.PrintLast Go.Proofs.YteennleoieafiaaDoorW.PrintMore Go.Proofs.YteennleoieafiaaDoor.G
attribute [local go_sem] max2_int min2_int max_two min_two max_three min_three max_four min_four   -- for this text's walks alone
set_option linter.unusedVariables false
set_option linter.unusedSimpArgs false

/-! ### model_name: function 40 -/
--IMPORT Derived.WalkSpells
--IMPORT Derived.WalkLawsBesides
--IMPORT Derived.Lib.ConvBytes
/-- May it be a letter of a name? -/
def model_name.chr (i n : Nat) : Bool := decide ((97 ≤ n ∧ n ≤ 122) ∨ (48 ≤ n ∧ n ≤ 57 ∧ i ≠ 0))
def model_name.all : Nat → List UInt8 → Bool
  | _, [] => true
  | i, c :: l => model_name.chr i c.toNat && model_name.all (i + 1) l
def model_name.ok (s : ByteArray) : Bool := if s.toList = [] ∨ 8 < s.size ∨ s.toList = [121, 101, 115] ∨ s.toList = [110, 111] then false else model_name.all 0 s.data.toList
def model_name.f (a0 : ByteArray) : Option (Bool) := some (model_name.ok a0)
theorem bytesWorld_below (w : World) (e : TypeId) (s : ByteArray) : Below w.heap.size w (Lib.bytesWorld w e s) :=
  ⟨rfl, rfl, rfl, by rw [Lib.bytesWorld_size]; omega, fun j hj => Lib.bytesWorld_at_old w e s j hj⟩
set_option maxHeartbeats 8000000 in
set_option maxRecDepth 100000 in
theorem model_name.calls (a0 : ByteArray) (r : Bool) (w : World) (h : model_name.f a0 = some r) :
    Calls Tryd.prog 40 #[.string a0] w fun e w' => e = .returned (.bool r) ∧ Below w.heap.size w w' := by
  unfold model_name.f model_name.ok at h
  have HF := Aside0.mk (Option.some.inj h)
  clear h
  have hcv := fun (w : World) => Lib.run_convert_string_bytes (P := Tryd.prog) w 9 100 5 a0 Tryd.underlying9 Tryd.underlying100 Tryd.underlying5
  by_cases b1 : a0.toList = []
  · have e1 : a0.toList.isEmpty = true := by simp [b1]
    have hf := HF.out
    rw [if_pos (.inl b1)] at hf
    cases hf
    clear HF
    go_enter Tryd.func40, Tryd.ntmps40
    go_wp2
    go_ret
    exact ⟨rfl, Below.refl _ _⟩
  have e1 : a0.toList.isEmpty = false := by simpa using b1
  by_cases b2 : 8 < a0.size
  · have e2 : decide ((8 : Int) < (a0.size : Int)) = true := decide_eq_true (by omega)
    have hf := HF.out
    rw [if_pos (.inr (.inl b2))] at hf
    cases hf
    clear HF
    go_enter Tryd.func40, Tryd.ntmps40
    go_wp2
    go_ret
    exact ⟨rfl, Below.refl _ _⟩
  have e2 : decide ((8 : Int) < (a0.size : Int)) = false := decide_eq_false (by omega)
  by_cases b3 : a0.toList = [121, 101, 115]
  · have e3 : (a0.toList == [121, 101, 115]) = true := by simpa using b3
    have B2 := Aside0.mk b2
    have hf := HF.out
    rw [if_pos (.inr (.inr (.inl b3)))] at hf
    cases hf
    clear HF
    go_enter Tryd.func40, Tryd.ntmps40
    go_wp2
    go_ret
    exact ⟨rfl, Below.refl _ _⟩
  have e3 : (a0.toList == [121, 101, 115]) = false := by simpa using b3
  by_cases b4 : a0.toList = [110, 111]
  · have e4 : (a0.toList == [110, 111]) = true := by simpa using b4
    have hf := HF.out
    rw [if_pos (.inr (.inr (.inr b4)))] at hf
    cases hf
    clear HF
    go_enter Tryd.func40, Tryd.ntmps40
    go_wp2
    go_ret
    exact ⟨rfl, Below.refl _ _⟩
  have e4 : (a0.toList == [110, 111]) = false := by simpa using b4
  have hf := HF.out
  rw [if_neg (by rintro (hh | hh | hh | hh) <;> contradiction)] at hf
  have HF2 := Aside0.mk hf
  have B2 := Aside0.mk b2
  clear hf HF b1 b2 b3 b4
  go_enter Tryd.func40, Tryd.ntmps40
  go_wp2
  clear e1 e2 e3 e4
  have hmx : (a0.size : Int) ≤ 100 := by have := B2.out; omega
  go_loop [23] (fun v23 => ∃ q : Nat, q ≤ a0.size ∧ v23 = .int .i64 q ∧ Aside0 (model_name.all q (a0.data.toList.drop q) = r)) (fun v23 => a0.size - (intOf v23).toNat)
  case atStart => exact ⟨0, by omega, rfl, HF2⟩
  case round =>
    obtain ⟨q, hq, rfl, HQ⟩ := hrel
    have hlen : a0.data.toList.length = a0.size := Array.length_toList
    by_cases c1 : q < a0.size
    · have hcell := Lib.bytesWorld_cell w 5 a0 q c1
      have hdr : a0.data.toList.drop q = a0.data.toList.getD q 0 :: a0.data.toList.drop (q + 1) := by
        have hl : q < a0.data.toList.length := by omega
        rw [List.drop_eq_getElem_cons hl, List.getD_eq_getElem?_getD, List.getElem?_eq_getElem hl]
        rfl
      have hq2 := HQ.out
      rw [hdr] at hq2
      simp only [model_name.all] at hq2
      have hn : (a0.data.toList.getD q 0).toNat < 256 := UInt8.toNat_lt _
      generalize (a0.data.toList.getD q 0).toNat = n at hcell hq2 hn
      have HN := Aside0.mk hn
      clear hdr hlen hn HQ HF2
      have hcs : ((n : Int) < 48) ∨ ((48 ≤ (n : Int) ∧ (n : Int) ≤ 57) ∧ q = 0) ∨ ((48 ≤ (n : Int) ∧ (n : Int) ≤ 57) ∧ q ≠ 0) ∨ (58 ≤ (n : Int) ∧ (n : Int) ≤ 96) ∨ (97 ≤ (n : Int) ∧ (n : Int) ≤ 122) ∨ (122 < (n : Int)) := by omega
      rcases hcs with d | ⟨⟨d, d2⟩, rfl⟩ | ⟨⟨d, d2⟩, d3⟩ | ⟨d, d2⟩ | ⟨d, d2⟩ | d
      · have e : model_name.chr q n = false := by unfold model_name.chr; exact decide_eq_false (by omega)
        rw [e, Bool.false_and] at hq2
        cases hq2
        clear e
        go_wp2
        go_ret
        exact ⟨rfl, bytesWorld_below w _ a0⟩
      · have e : model_name.chr 0 n = false := by unfold model_name.chr; exact decide_eq_false (by omega)
        rw [e, Bool.false_and] at hq2
        cases hq2
        have d4 : (((0 : Nat) : Int) == 0) = true := rfl
        clear e
        go_wp2
        go_ret
        exact ⟨rfl, bytesWorld_below w _ a0⟩
      · have e : model_name.chr q n = true := by unfold model_name.chr; exact decide_eq_true (by omega)
        rw [e, Bool.true_and] at hq2
        have HQ2 := Aside0.mk hq2
        clear hq2 e
        have d4 : ((q : Int) == 0) = false := beq_eq_false_iff_ne.mpr (by omega)
        have D3 := Aside0.mk d3
        clear d3
        go_wp2
        go_round
        case rel => exact ⟨q + 1, by omega, by go_num, HQ2⟩
        case measure => simp [intOf]; omega
      · have e : model_name.chr q n = false := by unfold model_name.chr; exact decide_eq_false (by omega)
        rw [e, Bool.false_and] at hq2
        cases hq2
        clear e
        go_wp2
        go_ret
        exact ⟨rfl, bytesWorld_below w _ a0⟩
      · have e : model_name.chr q n = true := by unfold model_name.chr; exact decide_eq_true (by omega)
        rw [e, Bool.true_and] at hq2
        have HQ2 := Aside0.mk hq2
        clear hq2 e
        go_wp2
        go_round
        case rel => exact ⟨q + 1, by omega, by go_num, HQ2⟩
        case measure => simp [intOf]; omega
      · have e : model_name.chr q n = false := by unfold model_name.chr; exact decide_eq_false (by omega)
        rw [e, Bool.false_and] at hq2
        cases hq2
        clear e
        go_wp2
        go_ret
        exact ⟨rfl, bytesWorld_below w _ a0⟩
    · obtain rfl : q = a0.size := by omega
      have hq2 := HQ.out
      rw [List.drop_of_length_le (by omega)] at hq2
      have HQ2 := Aside0.mk (show true = r from hq2)
      clear hq2 c1 hlen HQ HF2
      go_wp2
      go_ret
      have hh := HQ2.out
      cases hh
      exact ⟨rfl, bytesWorld_below w _ a0⟩

end Go.Proofs.YteennleoieafiaaDoor.P
end
section
namespace Go.Proofs.YteennleoieafiaaDoor.P
open Go.RowKit Go.Proofs.YteennleoieafiaaDoorW.PrintWords Go.Proofs.YteennleoieafiaaDoorW.PrintLast Go.Proofs.YteennleoieafiaaDoorW.PrintMore Go.Proofs.YteennleoieafiaaDoor.G
attribute [local go_sem] max2_int min2_int max_two min_two max_three min_three max_four min_four   -- for this text's walks alone
set_option linter.unusedVariables false
set_option linter.unusedSimpArgs false

/-! ### model_variables: function 30 -/
--IMPORT FModelName
--IMPORT Derived.WalkSpells
--IMPORT Derived.WalkLawsBesides
--IMPORT Derived.Maps.OwnSet
--IMPORT Derived.Maps.Views
--IMPORT Derived.Maps.Keyed
--IMPORT Derived.StringKeys
open Go.Maps Go.WideMaps
abbrev model_variables.Vr := S32
def model_variables.rng (v : model_variables.Vr) : Prop := -1000 ≤ v.f1 ∧ v.f2 ≤ 1000 ∧ v.f1 ≤ v.f2 ∧ v.f1 ≤ v.f3 ∧ v.f3 ≤ v.f2
instance (v : model_variables.Vr) : Decidable (model_variables.rng v) := by unfold model_variables.rng; exact inferInstance
def model_variables.go : List model_variables.Vr → List (List UInt8) → Int → Int
  | [], _, _ => 0
  | v :: l, seen, st =>
    if model_name.ok v.f0 = false then 6
    else if v.f0.data.toList ∈ seen then 7
    else if ¬ model_variables.rng v then 2
    else if v.f2 - v.f1 ≥ 64 then 1
    else if st * (v.f2 - v.f1 + 1) > 4096 then 1
    else model_variables.go l (seen ++ [v.f0.data.toList]) (st * (v.f2 - v.f1 + 1))
def model_variables.f (k : Nat) (l0 : List (S32)) : Option (Int) := if (l0.length : Int) > 6 then some 1 else some (model_variables.go l0 [] 1)
theorem model_variables.mono : ∀ a0 k, LeO (model_variables.f k a0) (model_variables.f (k + 1) a0) := by
  intros
  exact LeO.refl _
def model_variables.keys (l : List model_variables.Vr) : List Lit := l.map fun v => .string v.f0.data.toList
def model_variables.set (l : List model_variables.Vr) : DataW Unit := setOf (.agg []) (model_variables.keys l)
theorem model_variables.set_snoc (l : List model_variables.Vr) (v : model_variables.Vr) : model_variables.set (l ++ [v]) = (model_variables.set l).put (.string v.f0.data.toList) (.agg []) := by
  unfold model_variables.set model_variables.keys
  rw [List.map_append, List.map_singleton, setOf_snoc]
theorem same_str (a b : List UInt8) : (Lit.string a).sameKey (Lit.string b) = decide (a = b) := by
  by_cases c : a = b
  · subst c
    simp [Lit.sameKey]
  · rw [sameKey_ne (fun h => c (by injection h)), decide_eq_false c]
theorem model_variables.has_set (l : List model_variables.Vr) (k : List UInt8) : Maps.has (model_variables.set l) (.string k) = decide (k ∈ l.map fun v => v.f0.data.toList) := by
  unfold model_variables.set
  rw [has_setOf _ _ _ (fun x hx => by
    obtain ⟨v, _, rfl⟩ := List.mem_map.1 hx
    trivial)]
  unfold model_variables.keys
  rw [List.any_map, Bool.eq_iff_iff, List.any_eq_true, decide_eq_true_iff, List.mem_map]
  constructor
  · rintro ⟨v, hv, h⟩
    rw [Function.comp_apply, same_str, decide_eq_true_iff] at h
    exact ⟨v, hv, h⟩
  · rintro ⟨v, hv, h⟩
    exact ⟨v, hv, by rw [Function.comp_apply, same_str, decide_eq_true_iff]; exact h⟩
def model_variables.At (w0 w : World) (gm q : Nat) (l : List model_variables.Vr) : Prop := w.ownsMap Tryd.prog 9 unitElem gm q (model_variables.set l) ∧ Below w0.heap.size w0 w ∧ w0.heap.size ≤ gm ∧ gm < w.heap.size
theorem own_of {P : Program} {k b n : Nat} {R : Value → Option (DataW Unit × List MemPlace)} {D : DataW Unit} {w w' : World} (h : w.ownsMap P k R b n D) (e : w'.heap[b]? = w.heap[b]?) : w'.ownsMap P k R b n D := by
  obtain ⟨es, cl, h1, h2⟩ := h
  exact ⟨es, cl, e.trans h1, h2⟩
theorem name_small {s : ByteArray} (h : model_name.ok s = true) : s.size ≤ 8 := by
  unfold model_name.ok at h
  split at h
  · exact absurd h (by simp)
  · rename_i hh
    omega
theorem model_variables.law : Keyed Tryd.prog 9 := string_keyed Tryd.underlying9
set_option maxHeartbeats 8000000 in
set_option maxRecDepth 100000 in
theorem model_variables.calls (k : Nat) (A0 : Option Addr) (c0 : Nat) (l0 : List (S32)) (r : Int) (w : World) (hr0 : Kd.C k32 w A0 l0.length l0) (hc0 : l0.length ≤ c0) (h : model_variables.f k l0 = some r) :
    Calls Tryd.prog 30 #[.slice A0 l0.length c0] w fun e w' => e = .returned (.int .i64 r) ∧ Below w.heap.size w w' := by
  have R0 := Aside0.mk hr0
  have L0 := Aside0.mk hc0
  clear hr0 hc0
  unfold model_variables.f at h
  by_cases c0 : (l0.length : Int) > 6
  · rw [if_pos c0] at h
    cases h
    have c0' : decide ((l0.length : Int) > 6) = true := decide_eq_true c0
    go_enter Tryd.func30, Tryd.ntmps30
    go_wp2
    go_ret
    exact ⟨rfl, Below.refl _ _⟩
  · rw [if_neg c0] at h
    have HR := Aside0.mk (Option.some.inj h)
    have hn : (l0.length : Int) ≤ 6 := by omega
    clear c0 h
    have hmm := @run_makeMap Tryd.prog
    have hz75 : ∀ w : World, (zeroValue 75).run Tryd.prog w = .ok (.agg #[]) w := fun w => by kernel_rfl
    go_enter Tryd.func30, Tryd.ntmps30
    go_wp2
    go_loopw [4, 15] (fun v4 v15 wr => ∃ (q : Nat) (st : Int), q ≤ l0.length ∧ v15 = .int .i64 q ∧ v4 = .int .i64 st ∧ 0 ≤ st ∧ st ≤ 4096 ∧ Aside0 (model_variables.go (l0.drop q) ((l0.take q).map fun v => v.f0.data.toList) st = r) ∧ Aside0 (model_variables.At w wr w.heap.size q (l0.take q))) (fun _ v15 _ => l0.length - (intOf v15).toNat)
    case atStart => exact ⟨0, 1, by omega, rfl, rfl, by omega, by omega, HR, ⟨World.ownsMap_made _ _ _ _, below_alloc (Below.refl _ _) _, Nat.le_refl _, by rw [World.size_alloc]; omega⟩⟩
    case round =>
      obtain ⟨q, st, hq, rfl, rfl, hst0, hst1, HG, HA⟩ := hrel
      clear HR
      by_cases c1 : q < l0.length
      · have hdr : l0.drop q = l0[q] :: l0.drop (q + 1) := List.drop_eq_getElem_cons c1
        have htk : l0.take (q + 1) = l0.take q ++ [l0[q]] := List.take_succ_eq_append_getElem c1
        obtain ⟨ad, e0, hx0, hx1, hx2, hx3⟩ := at_T32 (Kd.C_below R0.out HA.out.2.1) (q : Int) (by omega) (by omega)
        subst e0
        have hrd : rd_T32 l0 (q : Int) = l0[q] := by
          unfold rd_T32
          rw [Int.toNat_natCast, List.getD_eq_getElem?_getD, List.getElem?_eq_getElem c1]
          rfl
        rw [hrd, Int.toNat_natCast] at hx0 hx1 hx2 hx3
        have hg := HG.out
        rw [hdr] at hg
        clear hrd hdr
        generalize l0[q] = v at *
        have HTK := Aside0.mk htk
        clear htk
        simp only [model_variables.go] at hg
        by_cases c2 : model_name.ok v.f0 = false
        · rw [if_pos c2] at hg
          cases hg
          go_wp2_with (first | ((with_reducible refine gate_dst (N := 6) rfl ?_); go_must (refine box_event ?hg (N := 6) ?hd (cs := #[(.string ⟨#[]⟩), (.int .i64 0), (.int .i64 0), (.int .i64 0)]) (t := 32) ?hr ?_; (case hd => rfl); (case hg => rfl); (case hr => first | (go_simp; done) | (go_simp; rfl)); intro g6 hg w3 hbox hb; have K6 := Aside0.mk hbox; have G6 := Aside0.mk (show wr.heap.size ≤ g6 by rw [hg]; exact Nat.le_refl _); have B3 := Aside0.mk hb; clear hb hbox hg; have ha0 : w3.cell? ⟨g6, 0, none⟩ = some (.string ⟨#[]⟩) := (blk_cell K6.out 0).trans rfl; have fha0 := blk_frozen K6.out 0; have ha1 : w3.cell? ⟨g6, 1, none⟩ = some (.int .i64 0) := (blk_cell K6.out 1).trans rfl; have fha1 := blk_frozen K6.out 1; have ha2 : w3.cell? ⟨g6, 2, none⟩ = some (.int .i64 0) := (blk_cell K6.out 2).trans rfl; have fha2 := blk_frozen K6.out 2; have ha3 : w3.cell? ⟨g6, 3, none⟩ = some (.int .i64 0) := (blk_cell K6.out 3).trans rfl; have fha3 := blk_frozen K6.out 3; )) | ((with_reducible refine gate_store (t := 32) (p := 6) rfl ?_); go_must (refine store_event (t := 32) (p := 6) (v := .tmp 18) (w1 := ((((w3.setCell ⟨g6, 0, none⟩ (.string v.f0)).setCell ⟨g6, 1, none⟩ (.int .i64 v.f1)).setCell ⟨g6, 2, none⟩ (.int .i64 v.f2)).setCell ⟨g6, 3, none⟩ (.int .i64 v.f3))) ?hg ?ho ?hn ?hr ?_; (case ho => rfl); (case hg => rfl); (case hn => rfl); (case hr => first | (go_simp; done) | (go_simp; rfl)); intro w4 hw; have K7 := Aside0.mk (show w4.heap[g6]? = some (.cells #[(.string v.f0), (.int .i64 v.f1), (.int .i64 v.f2), (.int .i64 v.f3)] 32 (0, 0)) by rw [hw]; exact blk_put (blk_put (blk_put (blk_put K6.out 0 _ rfl) 1 _ rfl) 2 _ rfl) 3 _ rfl); have B4 := Aside0.mk (show Below wr.heap.size wr w4 by rw [hw]; exact (((B3.out.setCell G6.out _).setCell G6.out _).setCell G6.out _).setCell G6.out _); clear hw ha0 ha1 ha2 ha3 fha0 fha1 fha2 fha3; have hb0 : w4.cell? ⟨g6, 0, none⟩ = some (.string v.f0) := (blk_cell K7.out 0).trans rfl; have hb1 : w4.cell? ⟨g6, 1, none⟩ = some (.int .i64 v.f1) := (blk_cell K7.out 1).trans rfl; have hb2 : w4.cell? ⟨g6, 2, none⟩ = some (.int .i64 v.f2) := (blk_cell K7.out 2).trans rfl; have hb3 : w4.cell? ⟨g6, 3, none⟩ = some (.int .i64 v.f3) := (blk_cell K7.out 3).trans rfl; )) | (go_at_call 40; go_must (refine (model_name.calls v.f0 _ _ rfl).mono ?_; rintro e w5 ⟨rfl, hb⟩; have K8 := Aside0.mk (blk_below K7.out hb); have B5 := Aside0.mk (below_step B4.out hb); clear hb; have hc0 : w5.cell? ⟨g6, 0, none⟩ = some (.string v.f0) := (blk_cell K8.out 0).trans rfl; have hc1 : w5.cell? ⟨g6, 1, none⟩ = some (.int .i64 v.f1) := (blk_cell K8.out 1).trans rfl; have hc2 : w5.cell? ⟨g6, 2, none⟩ = some (.int .i64 v.f2) := (blk_cell K8.out 2).trans rfl; have hc3 : w5.cell? ⟨g6, 3, none⟩ = some (.int .i64 v.f3) := (blk_cell K8.out 3).trans rfl; )))
          go_ret
          exact ⟨rfl, HA.out.2.1.trans (B5.out.mono HA.out.2.1.size)⟩
        · rw [if_neg c2] at hg
          have c2' : model_name.ok v.f0 = true := by simpa using c2
          have hs8 : v.f0.size ≤ 8 := name_small c2'
          have hkey := keyOf_string_mk (P := Tryd.prog) (k := 9) Tryd.underlying9 (s := v.f0) (by unfold maxLen; omega)
          clear c2
          have C2 := Aside0.mk c2'
          have HG2 := Aside0.mk hg
          clear hg
          go_upto_region 10 with (first | ((with_reducible refine gate_dst (N := 6) rfl ?_); go_must (refine box_event ?hg (N := 6) ?hd (cs := #[(.string ⟨#[]⟩), (.int .i64 0), (.int .i64 0), (.int .i64 0)]) (t := 32) ?hr ?_; (case hd => rfl); (case hg => rfl); (case hr => first | (go_simp; done) | (go_simp; rfl)); intro g6 hg w3 hbox hb; have K6 := Aside0.mk hbox; have G6 := Aside0.mk (show wr.heap.size ≤ g6 by rw [hg]; exact Nat.le_refl _); have B3 := Aside0.mk hb; clear hb hbox hg; have ha0 : w3.cell? ⟨g6, 0, none⟩ = some (.string ⟨#[]⟩) := (blk_cell K6.out 0).trans rfl; have fha0 := blk_frozen K6.out 0; have ha1 : w3.cell? ⟨g6, 1, none⟩ = some (.int .i64 0) := (blk_cell K6.out 1).trans rfl; have fha1 := blk_frozen K6.out 1; have ha2 : w3.cell? ⟨g6, 2, none⟩ = some (.int .i64 0) := (blk_cell K6.out 2).trans rfl; have fha2 := blk_frozen K6.out 2; have ha3 : w3.cell? ⟨g6, 3, none⟩ = some (.int .i64 0) := (blk_cell K6.out 3).trans rfl; have fha3 := blk_frozen K6.out 3; )) | ((with_reducible refine gate_store (t := 32) (p := 6) rfl ?_); go_must (refine store_event (t := 32) (p := 6) (v := .tmp 18) (w1 := ((((w3.setCell ⟨g6, 0, none⟩ (.string v.f0)).setCell ⟨g6, 1, none⟩ (.int .i64 v.f1)).setCell ⟨g6, 2, none⟩ (.int .i64 v.f2)).setCell ⟨g6, 3, none⟩ (.int .i64 v.f3))) ?hg ?ho ?hn ?hr ?_; (case ho => rfl); (case hg => rfl); (case hn => rfl); (case hr => first | (go_simp; done) | (go_simp; rfl)); intro w4 hw; have K7 := Aside0.mk (show w4.heap[g6]? = some (.cells #[(.string v.f0), (.int .i64 v.f1), (.int .i64 v.f2), (.int .i64 v.f3)] 32 (0, 0)) by rw [hw]; exact blk_put (blk_put (blk_put (blk_put K6.out 0 _ rfl) 1 _ rfl) 2 _ rfl) 3 _ rfl); have B4 := Aside0.mk (show Below wr.heap.size wr w4 by rw [hw]; exact (((B3.out.setCell G6.out _).setCell G6.out _).setCell G6.out _).setCell G6.out _); clear hw ha0 ha1 ha2 ha3 fha0 fha1 fha2 fha3; have hb0 : w4.cell? ⟨g6, 0, none⟩ = some (.string v.f0) := (blk_cell K7.out 0).trans rfl; have hb1 : w4.cell? ⟨g6, 1, none⟩ = some (.int .i64 v.f1) := (blk_cell K7.out 1).trans rfl; have hb2 : w4.cell? ⟨g6, 2, none⟩ = some (.int .i64 v.f2) := (blk_cell K7.out 2).trans rfl; have hb3 : w4.cell? ⟨g6, 3, none⟩ = some (.int .i64 v.f3) := (blk_cell K7.out 3).trans rfl; )) | (go_at_call 40; go_must (refine (model_name.calls v.f0 _ _ rfl).mono ?_; rintro e w5 ⟨rfl, hb⟩; have K8 := Aside0.mk (blk_below K7.out hb); have B5 := Aside0.mk (below_step B4.out hb); clear hb; have hc0 : w5.cell? ⟨g6, 0, none⟩ = some (.string v.f0) := (blk_cell K8.out 0).trans rfl; have hc1 : w5.cell? ⟨g6, 1, none⟩ = some (.int .i64 v.f1) := (blk_cell K8.out 1).trans rfl; have hc2 : w5.cell? ⟨g6, 2, none⟩ = some (.int .i64 v.f2) := (blk_cell K8.out 2).trans rfl; have hc3 : w5.cell? ⟨g6, 3, none⟩ = some (.int .i64 v.f3) := (blk_cell K8.out 3).trans rfl; )))
          clear C2
          have hown := Aside0.mk (own_of (w' := w5) HA.out.1 (B5.out.block _ HA.out.2.2.2))
          have hhas := model_variables.has_set (l0.take q) v.f0.data.toList
          have S8 := Aside0.mk hs8
          have HK := Aside0.mk hkey
          clear c2' hs8 hkey hx0 hx1 hx2 hx3
          have hg := HG2.out
          by_cases c3 : v.f0.data.toList ∈ (l0.take q).map fun v => v.f0.data.toList
          · rw [if_pos c3] at hg
            cases hg
            rw [decide_eq_true c3] at hhas
            go_wp2_with (first | (at_lookup; go_must (refine wpList_lookup_own_unit _ rfl (.tmp 24) (.tmp 26) 83 rfl 9 75 model_variables.law Tryd.underlying83 (hz75 _) w.heap.size q (model_variables.set (l0.take q)) rfl hown.out (.string v.f0) (.string v.f0.data.toList) rfl HK.out ?_)))
            go_ret
            exact ⟨rfl, HA.out.2.1.trans ((below_alloc B5.out _).mono HA.out.2.1.size)⟩
          · rw [if_neg c3] at hg
            rw [decide_eq_false c3] at hhas
            have HG3 := Aside0.mk hg
            clear hg c3 HG2
            have GNE := Aside0.mk (show g6 ≠ w.heap.size by have := G6.out; have := HA.out.2.2.2; omega)
            go_upto_region 14 with (first | (at_lookup; go_must (refine wpList_lookup_own_unit _ rfl (.tmp 24) (.tmp 26) 83 rfl 9 75 model_variables.law Tryd.underlying83 (hz75 _) w.heap.size q (model_variables.set (l0.take q)) rfl hown.out (.string v.f0) (.string v.f0.data.toList) rfl HK.out ?_)) | ((with_reducible refine gate_dst (N := 7) rfl ?_); go_must (refine box_event ?hg (N := 7) ?hd (cs := #[]) (t := 75) ?hr ?_; (case hd => rfl); (case hg => rfl); (case hr => first | (go_simp; done) | (go_simp; rfl)); intro g7 hg w6 hbox hb; have K9 := Aside0.mk (blk_below K8.out hb); have B6 := Aside0.mk (below_step B5.out hb); have hown6 := Aside0.mk (own_of (w' := w6) HA.out.1 (B6.out.block _ HA.out.2.2.2)); clear hb hbox hg; have hd0 : w6.cell? ⟨g6, 0, none⟩ = some (.string v.f0) := (blk_cell K9.out 0).trans rfl; have hd1 : w6.cell? ⟨g6, 1, none⟩ = some (.int .i64 v.f1) := (blk_cell K9.out 1).trans rfl; have hd2 : w6.cell? ⟨g6, 2, none⟩ = some (.int .i64 v.f2) := (blk_cell K9.out 2).trans rfl; have hd3 : w6.cell? ⟨g6, 3, none⟩ = some (.int .i64 v.f3) := (blk_cell K9.out 3).trans rfl)) | (at_mapUpdate; go_must (refine wpList_mapUpdate_own _ rfl (.tmp 31) (.tmp 33) (.tmp 34) 83 rfl 9 75 model_variables.law Tryd.underlying83 unitElem w.heap.size q (model_variables.set (l0.take q)) rfl hown6.out (by unfold maxLen; omega) (.string v.f0) (.agg #[]) (.string v.f0.data.toList) rfl rfl HK.out (.agg []) [] unitElem_mk ?_; intro w7 hown7 hgrow7; have O7 := Aside0.mk hown7; have GR7 := Aside0.mk hgrow7; have K10 := Aside0.mk (blk_grown K9.out hgrow7 (fun e => GNE.out (by injection e))); clear hown7 hgrow7; have he0 : w7.cell? ⟨g6, 0, none⟩ = some (.string v.f0) := (blk_cell K10.out 0).trans rfl; have he1 : w7.cell? ⟨g6, 1, none⟩ = some (.int .i64 v.f1) := (blk_cell K10.out 1).trans rfl; have he2 : w7.cell? ⟨g6, 2, none⟩ = some (.int .i64 v.f2) := (blk_cell K10.out 2).trans rfl; have he3 : w7.cell? ⟨g6, 3, none⟩ = some (.int .i64 v.f3) := (blk_cell K10.out 3).trans rfl)))
            have BW := Aside0.mk (show Below w.heap.size w w7 from (HA.out.2.1.trans (B6.out.mono HA.out.2.1.size)).grown GR7.out (Nat.le_of_lt (Nat.lt_of_lt_of_le HA.out.2.2.2 B6.out.size)) (fun k hk => by cases hk; exact Nat.le_refl _))
            clear hhas
            have hg := HG3.out
            by_cases c4 : model_variables.rng v
            · rw [if_neg (not_not_intro c4)] at hg
              obtain ⟨r1, r2, r3, r4, r5⟩ := c4
              by_cases c5 : v.f2 - v.f1 ≥ 64
              · rw [if_pos c5] at hg
                cases hg
                go_wp2
                go_ret
                exact ⟨rfl, BW.out⟩
              · rw [if_neg c5] at hg
                have hm0 : 0 ≤ v.f2 - v.f1 := by omega
                have hm1 : v.f2 - v.f1 < 64 := by omega
                have hml : st * (v.f2 - v.f1 + 1) ≤ 4096 * 64 := Int.mul_le_mul hst1 (by omega) (by omega) (by omega)
                have hmg : 0 ≤ st * (v.f2 - v.f1 + 1) := Int.mul_nonneg hst0 (by omega)
                have e64 : wrap64 (st * (v.f2 - v.f1 + 1)) = st * (v.f2 - v.f1 + 1) := by unfold wrap64; omega
                by_cases c6 : st * (v.f2 - v.f1 + 1) > 4096
                · rw [if_pos c6] at hg
                  cases hg
                  go_wp2
                  go_ret
                  exact ⟨rfl, BW.out⟩
                · rw [if_neg c6] at hg
                  have HG4 := Aside0.mk hg
                  clear hg
                  go_wp2
                  go_roundw
                  case rel => exact ⟨q + 1, _, by omega, by go_num, rfl, hmg, by omega, ⟨by rw [HTK.out, List.map_append]; exact HG4.out⟩, ⟨by rw [HTK.out, model_variables.set_snoc]; exact O7.out, BW.out, Nat.le_refl _, Nat.lt_of_lt_of_le HA.out.2.2.2 (Nat.le_trans B6.out.size GR7.out.size)⟩⟩
                  case measure => simp [intOf]; omega
            · rw [if_pos c4] at hg
              cases hg
              have C4 := Aside0.mk c4
              clear c4
              have hcs : v.f1 < -1000 ∨ (-1000 ≤ v.f1 ∧ 1000 < v.f2) ∨ (-1000 ≤ v.f1 ∧ v.f2 ≤ 1000 ∧ v.f2 < v.f1) ∨ (-1000 ≤ v.f1 ∧ v.f2 ≤ 1000 ∧ v.f1 ≤ v.f2 ∧ v.f3 < v.f1) ∨ (-1000 ≤ v.f1 ∧ v.f2 ≤ 1000 ∧ v.f1 ≤ v.f2 ∧ v.f1 ≤ v.f3 ∧ v.f2 < v.f3) := by
                have hc := C4.out
                unfold model_variables.rng at hc
                omega
              rcases hcs with d1 | ⟨d1, d2⟩ | ⟨d1, d2, d3⟩ | ⟨d1, d2, d3, d4⟩ | ⟨d1, d2, d3, d4, d5⟩
              all_goals go_wp2
              all_goals go_ret
              all_goals exact ⟨rfl, BW.out⟩
      · obtain rfl : q = l0.length := by omega
        have hg := HG.out
        rw [List.drop_length] at hg
        simp only [model_variables.go] at hg
        cases hg
        clear c1
        go_wp2
        go_ret
        exact ⟨rfl, HA.out.2.1⟩

end Go.Proofs.YteennleoieafiaaDoor.P
end
section
namespace Go.Proofs.YteennleoieafiaaDoor.P
open Go.RowKit Go.Proofs.YteennleoieafiaaDoorW.PrintWords Go.Proofs.YteennleoieafiaaDoorW.PrintLast Go.Proofs.YteennleoieafiaaDoorW.PrintMore Go.Proofs.YteennleoieafiaaDoor.G
attribute [local go_sem] max2_int min2_int max_two min_two max_three min_three max_four min_four   -- for this text's walks alone
set_option linter.unusedVariables false
set_option linter.unusedSimpArgs false

/-! ### polish_Parts: function 82 -/
/-- How many parts each kind has. -/
def polish_Parts.tab : List Int := [-1, 0, 0, 2, 2, 2, 2, 2, 2, 2, 1, 0, 0, 0, 1, 2, 2, 1, 1]
def polish_Parts.f (a0 : Int) : Option (Int × Int) := if a0 < 1 then some (0, 13) else if 18 < a0 then some (0, 13) else some (polish_Parts.tab.getD a0.toNat 0, 0)
set_option maxHeartbeats 8000000 in
set_option maxRecDepth 100000 in
theorem polish_Parts.calls (a0 : Int) (r1 : Int) (r2 : Int) (w : World) (hG_ : Glob w) (h : polish_Parts.f a0 = some (r1, r2)) :
    Calls Tryd.prog 82 #[.int .i64 a0] w fun e w' => e = .returned (.tuple #[.int .i64 r1, .int .i64 r2]) ∧ Drawn0 w w' := by
  unfold polish_Parts.f at h
  by_cases c1 : a0 < 1
  · rw [if_pos c1] at h
    have c1' : decide (a0 < 1) = true := decide_eq_true c1
    obtain ⟨rfl, rfl⟩ := Prod.mk.inj (Option.some.inj h)
    go_enter Tryd.func82, Tryd.ntmps82
    go_wp2
    go_ret2
    exact ⟨rfl, 0, rfl⟩
  · rw [if_neg c1] at h
    have c1' : decide (a0 < 1) = false := decide_eq_false c1
    by_cases c2 : 18 < a0
    · rw [if_pos c2] at h
      have c2' : decide (18 < a0) = true := decide_eq_true c2
      obtain ⟨rfl, rfl⟩ := Prod.mk.inj (Option.some.inj h)
      go_enter Tryd.func82, Tryd.ntmps82
      go_wp2
      go_ret2
      exact ⟨rfl, 0, rfl⟩
    · rw [if_neg c2] at h
      have c2' : decide (18 < a0) = false := decide_eq_false c2
      obtain ⟨rfl, rfl⟩ := Prod.mk.inj (Option.some.inj h)
      have hcell : w.cell? ⟨0, a0.toNat, none⟩ = some (.int .i64 (polish_Parts.tab.getD a0.toNat 0)) := hG_.at_ a0.toNat (by show a0.toNat < 19; omega)
      generalize polish_Parts.tab.getD a0.toNat 0 = t at hcell ⊢
      have b0 : (0 ≤ a0) = True := eq_true (by omega)
      have b1 : (a0 < 19) = True := eq_true (by omega)
      clear c1 c2
      go_enter Tryd.func82, Tryd.ntmps82
      go_wp2
      go_ret2
      exact ⟨rfl, 0, rfl⟩

end Go.Proofs.YteennleoieafiaaDoor.P
end
section
namespace Go.Proofs.YteennleoieafiaaDoor.P
open Go.RowKit Go.Proofs.YteennleoieafiaaDoorW.PrintWords Go.Proofs.YteennleoieafiaaDoorW.PrintLast Go.Proofs.YteennleoieafiaaDoorW.PrintMore Go.Proofs.YteennleoieafiaaDoor.G
attribute [local go_sem] max2_int min2_int max_two min_two max_three min_three max_four min_four   -- for this text's walks alone
set_option linter.unusedVariables false
set_option linter.unusedSimpArgs false

--IMPORT FPolishParts
--IMPORT Derived.WalkSpells
--IMPORT Derived.WalkLawsBesides
/-! ### polish_skip: function 75 -/
mutual
/-- What 'skip' answers (what it panics with, 0: nothing), and the ends behind it. -/
def polish_skip.f : Nat → List S35 → Int → List Int → Option (Int × Int × List Int)
  | 0, _, _, _ => none
  | k + 1, l, a, es => if 0 ≤ a then (if a < (l.length : Int) then (if (rd_T35 l a).f0 < 1 then some (13, 0, es) else (if 18 < (rd_T35 l a).f0 then some (13, 0, es) else polish_skip.l k l a (polish_Parts.tab.getD ((rd_T35 l a).f0).toNat 0) 0 (wrap64 (a + 1)) es)) else some (4, 0, es)) else none
def polish_skip.l : Nat → List S35 → Int → Int → Int → Int → List Int → Option (Int × Int × List Int)
  | 0, _, _, _, _, _, _ => none
  | k + 1, l, a, n, i, e, es => if i < n then ((polish_skip.f k l e es).bind fun r => if r.1 = 0 then polish_skip.l k l a n (wrap64 (i + 1)) r.2.1 r.2.2 else some (r.1, 0, r.2.2)) else (if a < (es.length : Int) then some (0, e, es.set a.toNat e) else none)
end
theorem polish_skip.mono_l : ∀ k, (∀ l a es, LeO (polish_skip.f k l a es) (polish_skip.f (k + 1) l a es)) ∧ (∀ l a n i e es, LeO (polish_skip.l k l a n i e es) (polish_skip.l (k + 1) l a n i e es))
  | 0 => ⟨fun _ _ _ r h => by simp [polish_skip.f] at h, fun _ _ _ _ _ _ r h => by simp [polish_skip.l] at h⟩
  | k + 1 => by
    obtain ⟨ih0, ih1⟩ := polish_skip.mono_l k
    refine ⟨fun l a es => ?_, fun l a n i e es => ?_⟩
    · unfold polish_skip.f
      exact LeO.ite (LeO.ite (LeO.ite (LeO.refl _) (LeO.ite (LeO.refl _) (ih1 _ _ _ _ _ _))) (LeO.refl _)) (LeO.none _)
    · unfold polish_skip.l
      exact LeO.ite (LeO.bind (ih0 _ _ _) (fun _ => LeO.ite (ih1 _ _ _ _ _ _) (LeO.refl _))) (LeO.refl _)
/-- What stands in memory while the reader goes on. -/
def polish_skip.St (w0 w : World) (gr : Nat) (A : Option Addr) (n c : Nat) (es : List Int) : Prop :=
  ∃ ve, w.heap[gr]? = some (.cells #[.slice A n c, ve] 122 (0, 0)) ∧ Kd.R (Kd.int .i64) 3 w w0.heap.size (fun _ => True) ve es ∧ Below w0.heap.size w0 w
theorem polish_skip.St.drewN {w0 w : World} {gr : Nat} {A : Option Addr} {n c : Nat} {es : List Int} (h : polish_skip.St w0 w gr A n c es) (m : Nat) : polish_skip.St w0 (w.drewN m) gr A n c es := by
  obtain ⟨ve, h1, h2, h3⟩ := h
  exact ⟨ve, h1, Kd.R_drewN h2 m, pw_below_drewN h3 m⟩
def polish_skip.pan (n : Int) : List PanicEntry := [{ v := .iface 43 (.int .i64 n), recovered := false }]
set_option maxHeartbeats 8000000 in
set_option maxRecDepth 100000 in
theorem polish_skip.calls (w0 : World) (A : Option Addr) (c : Nat) (l : List S35) (gr : Nat) (hr : Kd.C k35 w0 A l.length l) (hc : l.length ≤ c) (hG_ : Glob w0) (bg : w0.heap.size ≤ gr) (k : Nat) :
    ∀ (a : Int) (es : List Int) (r : Int × Int × List Int) (w : World) (hv : polish_skip.St w0 w gr A l.length c es) (h : polish_skip.f k l a es = some r),
      Calls Tryd.prog 75 #[.pointer (some ⟨gr, 0, none⟩), .int .i64 a] w fun e w' => (if r.1 = 0 then e = .returned (.int .i64 r.2.1) else e = .panicked (polish_skip.pan r.1)) ∧ polish_skip.St w0 w' gr A l.length c r.2.2 := by
  induction k using Nat.strongRecOn with
  | _ k ih =>
  intro a es r w hv h
  have R0 := Aside0.mk hr
  have L0 := Aside0.mk hc
  have BG := Aside0.mk bg
  have GL := Aside0.mk hG_
  clear hr hc hG_ bg
  cases k with
  | zero => exact absurd h (by simp [polish_skip.f])
  | succ k =>
  simp only [polish_skip.f] at h
  have HS := hv
  obtain ⟨ve, hbk, hre, hb⟩ := hv
  have BK := Aside0.mk hbk
  have RE := Aside0.mk hre
  have HB := Aside0.mk hb
  clear hbk hre hb
  obtain ⟨Ae, ce, rfl⟩ := Kd.R_slice RE.out
  have RW := Aside0.mk (Kd.C_below R0.out HB.out)
  have hcz0 : w.cell? ⟨gr, 0, none⟩ = some (.slice A l.length c) := (blk_cell BK.out 0).trans rfl
  have hcz1 : w.cell? ⟨gr, 1, none⟩ = some (.slice Ae es.length ce) := (blk_cell BK.out 1).trans rfl
  by_cases c1 : 0 ≤ a
  · rw [if_pos c1] at h
    by_cases c2 : a < (l.length : Int)
    · rw [if_pos c2] at h
      have c2' : decide (a ≥ (l.length : Int)) = false := decide_eq_false (by omega)
      obtain ⟨ad, eA, hx0, hx1⟩ := at_T35 RW.out a c1 c2
      subst eA
      have HX0 := Aside0.mk hx0
      have c1' := eq_true c1
      have c2b := eq_true c2
      clear c1 c2
      generalize hop : rd_T35 l a = op at *
      by_cases c3 : op.f0 < 1
      · rw [if_pos c3] at h
        obtain rfl := Option.some.inj h
        go_enter Tryd.func75, Tryd.ntmps75
        go_wp2_with (go_at_call 82; go_must (refine (polish_Parts.calls op.f0 0 13 _ (Glob.below GL.out HB.out) (by unfold polish_Parts.f; rw [if_pos c3])).mono ?_; rintro e w' ⟨rfl, ⟨nd, rfl⟩⟩))
        exact ⟨rfl, rfl, HS.drewN nd⟩
      · rw [if_neg c3] at h
        by_cases c4 : 18 < op.f0
        · rw [if_pos c4] at h
          obtain rfl := Option.some.inj h
          go_enter Tryd.func75, Tryd.ntmps75
          go_wp2_with (go_at_call 82; go_must (refine (polish_Parts.calls op.f0 0 13 _ (Glob.below GL.out HB.out) (by unfold polish_Parts.f; rw [if_neg c3, if_pos c4])).mono ?_; rintro e w' ⟨rfl, ⟨nd, rfl⟩⟩))
          exact ⟨rfl, rfl, HS.drewN nd⟩
        · rw [if_neg c4] at h
          have HP := Aside0.mk (show polish_Parts.f op.f0 = some (polish_Parts.tab.getD op.f0.toNat 0, 0) by unfold polish_Parts.f; rw [if_neg c3, if_neg c4])
          clear c3 c4
          generalize polish_Parts.tab.getD op.f0.toNat 0 = n at *
          have H' := Aside0.mk h
          clear h
          go_enter Tryd.func75, Tryd.ntmps75
          go_wp2_with (go_at_call 82; go_must (refine (polish_Parts.calls op.f0 n 0 _ (Glob.below GL.out HB.out) HP.out).mono ?_; rintro e w' ⟨rfl, ⟨nd, rfl⟩⟩))
          go_loopg [7, 35] k (fun kq v7 v35 w' => ∃ (e i : Int) (es1 : List Int), v7 = .int .i64 e ∧ v35 = .int .i64 i ∧ Aside0 (polish_skip.l kq l a n i e es1 = some r) ∧ Aside0 (kq ≤ k) ∧ Aside0 (polish_skip.St w0 w' gr (some ad) l.length c es1))
          case atStart => exact ⟨_, 0, es, rfl, rfl, H', ⟨Nat.le_refl _⟩, ⟨HS.drewN nd⟩⟩
          case round =>
            clear H' HS HP hx0 hx1 HX0 hop hcz0 hcz1 RW RE BK HB
            obtain ⟨e, i, es1, rfl, rfl, HA, HK, HV⟩ := hrel
            cases gk with
            | zero => exact absurd HA.out (by simp [polish_skip.l])
            | succ k1 =>
              have H := HA.out
              clear HA
              simp only [polish_skip.l] at H
              by_cases d1 : i < n
              · rw [if_pos d1] at H
                have d1' : decide (i < n) = true := decide_eq_true d1
                clear d1
                obtain ⟨r1, A1, H⟩ := Option.bind_eq_some_iff.mp H
                have HA1 := Aside0.mk A1
                clear A1
                by_cases d2 : r1.1 = 0
                · rw [if_pos d2] at H
                  have D2 := Aside0.mk d2
                  clear d2
                  have H' := Aside0.mk H
                  clear H
                  go_wp2_with (go_at_call 75; go_must (refine (ih k1 (by have := HK.out; omega) e es1 r1 _ HV.out HA1.out).mono ?_; rintro e' w2 ⟨he, hv⟩; rw [if_pos D2.out] at he; subst he; have HV2 := Aside0.mk hv; clear hv))
                  go_roundg k1
                  case measure => have := HK.out; omega
                  case rel => exact ⟨_, wrap64 (i + 1), r1.2.2, rfl, rfl, H', ⟨by have := HK.out; omega⟩, HV2⟩
                · rw [if_neg d2] at H
                  have D2 := Aside0.mk d2
                  clear d2
                  obtain rfl := Option.some.inj H
                  clear H
                  go_wp2_with (go_at_call 75; go_must (refine (ih k1 (by have := HK.out; omega) e es1 r1 _ HV.out HA1.out).mono ?_; rintro e' w2 ⟨he, hv⟩; rw [if_neg D2.out] at he; subst he; have HV2 := Aside0.mk hv; clear hv))
                  all_goals first | exact absurd (by assumption) D2.out | exact ⟨rfl, rfl, HV2.out⟩
              · rw [if_neg d1] at H
                have d1' : decide (i < n) = false := decide_eq_false d1
                clear d1
                by_cases d2 : a < (es1.length : Int)
                · rw [if_pos d2] at H
                  obtain rfl := Option.some.inj H
                  clear H
                  obtain ⟨ve, hbk, hre, hb⟩ := HV.out
                  have BK := Aside0.mk hbk
                  have RE := Aside0.mk hre
                  have HB := Aside0.mk hb
                  clear hbk hre hb HV
                  obtain ⟨Ae2, ce2, rfl⟩ := Kd.R_slice RE.out
                  obtain ⟨gs, cp, he5, _, _, cgs, hgs⟩ := Kd.R_form RE.out (by have := of_eq_true c1'; omega)
                  cases he5
                  have HGS := Aside0.mk hgs
                  have N5s : gr ≠ gs := blk_ne BK.out hgs (by decide)
                  obtain ⟨hcs, hfs⟩ := Kd.R_celln (0 : Int) RE.out a (of_eq_true c1') d2
                  have d2' := eq_true d2
                  clear hgs d2
                  have hcz1 : wr.cell? ⟨gr, 1, none⟩ = some (.slice (some ⟨gs, 0, none⟩) es1.length ce2) := (blk_cell BK.out 1).trans rfl
                  go_wp2_with ((with_reducible refine gate_store (t := 3) (p := 47) (v := .tmp 46) rfl ?_); go_must (refine store_event (t := 3) (p := 47) (v := .tmp 46) (w1 := (wr.setCell ⟨gs, a.toNat, none⟩ (.int .i64 e))) ?hg ?ho ?hn ?hr ?_; (case ho => rfl); (case hg => rfl); (case hn => rfl); (case hr => first | (go_simp; done) | (go_simp; rfl)); intro w1 hw1; have HV2 := Aside0.mk (show polish_skip.St w0 w1 gr (some ad) l.length c (es1.set a.toNat e) by rw [hw1]; exact ⟨_, blk_far (p := ⟨gs, a.toNat, none⟩) BK.out N5s _, by exact Kd.R_putn RE.out a e, HB.out.setCell (Kd.R_base RE.out gs rfl) _⟩); clear hw1))
                  go_ret
                  exact ⟨rfl, HV2.out⟩
                · rw [if_neg d2] at H
                  exact absurd H (by simp)
    · rw [if_neg c2] at h
      have c2' : decide (a ≥ (l.length : Int)) = true := decide_eq_true (by omega)
      obtain rfl := Option.some.inj h
      clear c1 c2
      go_enter Tryd.func75, Tryd.ntmps75
      go_wp2
      exact ⟨rfl, rfl, HS⟩
  · rw [if_neg c1] at h
    exact absurd h (by simp)

end Go.Proofs.YteennleoieafiaaDoor.P
end
section
namespace Go.Proofs.YteennleoieafiaaDoor.P
open Go.RowKit Go.Proofs.YteennleoieafiaaDoorW.PrintWords Go.Proofs.YteennleoieafiaaDoorW.PrintLast Go.Proofs.YteennleoieafiaaDoorW.PrintMore Go.Proofs.YteennleoieafiaaDoor.G
attribute [local go_sem] max2_int min2_int max_two min_two max_three min_three max_four min_four   -- for this text's walks alone
set_option linter.unusedVariables false
set_option linter.unusedSimpArgs false

--IMPORT Derived.WalkSpells
--IMPORT Derived.WalkLawsBesides
--IMPORT Derived.Recover
/-! ### polish_catch: function 74 -/
set_option maxRecDepth 100000 in
theorem polish_catch.panicking (g2 g3 : Nat) (v2 v3 : Value) (n : Int) (w : World) (h2 : w.heap[g2]? = some (.cells #[v2] 48 (0, 0))) (h3 : w.heap[g3]? = some (.cells #[v3] 43 (0, 0))) (hne : g2 ≠ g3) :
    CallsD Tryd.prog 74 #[.pointer (some ⟨g2, 0, none⟩), .pointer (some ⟨g3, 0, none⟩)] (.panicking [{ v := .iface 43 (.int .i64 n), recovered := false }]) w fun e u' w' =>
      e = .returned (.tuple #[]) ∧ u' = .panicking [{ v := .iface 43 (.int .i64 n), recovered := true }] ∧ w'.heap[g2]? = some (.cells #[.slice none 0 0] 48 (0, 0)) ∧ w'.heap[g3]? = some (.cells #[.int .i64 n] 43 (0, 0)) ∧ ∀ b, b ≤ g2 → b ≤ g3 → Below b w w' := by
  have hc2 : w.cell? ⟨g2, 0, none⟩ = some v2 := (blk_cell h2 0).trans rfl
  have hc3 : w.cell? ⟨g3, 0, none⟩ = some v3 := (blk_cell h3 0).trans rfl
  have hz2 := blk_frozen h2 0
  have hz3 := blk_frozen h3 0
  have hn3 : g3 ≠ g2 := hne.symm
  have B2 := Aside0.mk h2
  have B3 := Aside0.mk h3
  clear h2 h3
  refine callsD_of_wpS Tryd.func74 rfl fun c₀ cs hu => ?_
  apply wpS_seq
  apply wpS_region
  simp [wpOpsS, go_sem, recoverD, hu, Tryd.ntmps74, Exit.thenS]
  apply wpS_seq
  apply wpS_region
  simp [wpOpsS, go_sem, recoverD, hu, Tryd.ntmps74, Exit.thenS]
  refine wpS_cond (t := true) (by simp [Act.eval, Array.replicate]) ?_
  simp only [if_true]
  have hta : ∀ W : World, (Instr.typeAssert (.iface 43 (.int .i64 n)) 20 43 false).run Tryd.prog W = .ok (.int .i64 n) W := fun W => by rfl
  refine wpS_of_wp ?_
  go_region
  all_goals
    have b2 : w.drew.heap[g2]? = some (.cells #[v2] 48 (0, 0)) := B2.out
    have b3 : w.drew.heap[g3]? = some (.cells #[v3] 43 (0, 0)) := B3.out
    refine ⟨rfl, _, rfl, .tuple #[], by simp [results, Tryd.results74], rfl, rfl, ?_, ?_, fun b h2 h3 => ?_⟩
    · first
      | exact blk_far (p := ⟨g3, 0, none⟩) (blk_put b2 0 _ rfl) hne _
      | exact blk_put (blk_far (p := ⟨g3, 0, none⟩) b2 hne _) 0 _ rfl
    · first
      | exact blk_far (p := ⟨g2, 0, none⟩) (blk_put b3 0 _ rfl) hn3 _
      | exact blk_put (blk_far (p := ⟨g2, 0, none⟩) b3 hn3 _) 0 _ rfl
    · have b0 : Below b w w.drew := (Below.refl b w).drew
      first
      | exact (b0.setCell (p := ⟨g2, 0, none⟩) h2 _).setCell (p := ⟨g3, 0, none⟩) h3 _
      | exact (b0.setCell (p := ⟨g3, 0, none⟩) h3 _).setCell (p := ⟨g2, 0, none⟩) h2 _
theorem polish_catch.idle (p q : Addr) (w : World) :
    CallsD Tryd.prog 74 #[.pointer (some p), .pointer (some q)] .returning w fun e u' w' => e = .returned (.tuple #[]) ∧ u' = .returning ∧ w' = w := by
  refine callsD_of_wpS Tryd.func74 rfl fun c₀ cs hu => ?_
  apply wpS_seq
  apply wpS_region
  simp [wpOpsS, go_sem, recoverD, hu, Tryd.ntmps74, Exit.thenS]
  apply wpS_seq
  apply wpS_region
  simp [wpOpsS, go_sem, recoverD, hu, Tryd.ntmps74, Exit.thenS]
  refine wpS_cond (t := false) (by simp [Act.eval, Array.replicate]) ?_
  simp only [Bool.false_eq_true, if_false]
  refine wpS_of_wp (wp_skip ?_)
  cases c₀
  simp_all [bodyPostS, results, Tryd.results74]

end Go.Proofs.YteennleoieafiaaDoor.P
end
section
namespace Go.Proofs.YteennleoieafiaaDoor.P
open Go.RowKit Go.Proofs.YteennleoieafiaaDoorW.PrintWords Go.Proofs.YteennleoieafiaaDoorW.PrintLast Go.Proofs.YteennleoieafiaaDoorW.PrintMore Go.Proofs.YteennleoieafiaaDoor.G
attribute [local go_sem] max2_int min2_int max_two min_two max_three min_three max_four min_four   -- for this text's walks alone
set_option linter.unusedVariables false
set_option linter.unusedSimpArgs false

/-! ### polish_Ends: function 52 -/
--IMPORT Derived.WalkSpells
--IMPORT Derived.WalkLawsBesides
--IMPORT Derived.Recover
def polish_Ends.f (k : Nat) (l0 : List (S35)) : Option (List Int × Int) := if 60 < (l0.length : Int) then some ([], 1) else ((polish_skip.f k l0 0 (List.replicate l0.length 0)).bind fun r => if r.1 = 0 then (if r.2.1 = (l0.length : Int) then some (r.2.2, 0) else some ([], 3)) else some ([], r.1))
theorem polish_Ends.mono : ∀ a0 k, LeO (polish_Ends.f k a0) (polish_Ends.f (k + 1) a0) := by
  intro a0 k
  unfold polish_Ends.f
  exact LeO.ite (LeO.refl _) (LeO.bind ((polish_skip.mono_l k).1 _ _ _) (fun _ => LeO.refl _))
set_option maxHeartbeats 8000000 in
set_option maxRecDepth 100000 in
theorem polish_Ends.calls (k : Nat) (A0 : Option Addr) (c0 : Nat) (l0 : List (S35)) (r1 : List Int) (r2 : Int) (w : World) (hr0 : Kd.C k35 w A0 l0.length l0) (hc0 : l0.length ≤ c0) (hG_ : Glob w) (h : polish_Ends.f k l0 = some (r1, r2)) :
    Calls Tryd.prog 52 #[.slice A0 l0.length c0] w fun e w' => ∃ v0_ : Value, e = .returned (.tuple #[v0_, .int .i64 r2]) ∧ Kd.R (Kd.int .i64) 3 w' w.heap.size (fun _ => True) v0_ r1 ∧ Below w.heap.size w w' := by
  have hmf : ∀ (fn : Fn) (first cap : Array Value) (w : World), (Instr.makeFunc fn first cap).run Tryd.prog w = .ok (.func fn first cap) w := fun _ _ _ _ => rfl
  have info3 := (by kernel_rfl : (Tryd.prog.info? 3).map (fun i => (i.zero, i.size, i.bytes)) = some (some (.int .i64 0), 1, 8))
  have R0 := Aside0.mk hr0
  have L0 := Aside0.mk hc0
  have GL := Aside0.mk hG_
  clear hr0 hc0 hG_
  unfold polish_Ends.f at h
  by_cases c1 : 60 < (l0.length : Int)
  · rw [if_pos c1] at h
    have c1' : decide ((l0.length : Int) > 60) = true := decide_eq_true c1
    clear c1
    obtain ⟨rfl, rfl⟩ := Prod.mk.inj (Option.some.inj h)
    clear h
    go_enter_defers Tryd.func52, Tryd.ntmps52
    go_wp2_with (first | ((with_reducible refine gate_dst (N := 2) rfl ?_); go_must (refine box_event ?hg (N := 2) ?hd (cs := #[.slice none 0 0]) (t := 48) ?hr ?_; (case hd => rfl); (case hg => rfl); (case hr => first | (go_simp; done) | (go_simp; rfl)); intro g2 hg w1 hbox hb; have BK2 := Aside0.mk hbox; have HB1 := Aside0.mk hb; have B2 := Aside0.mk (show w.heap.size ≤ g2 by rw [hg]; exact Nat.le_refl _); clear hb hbox hg)) | ((with_reducible refine gate_dst (N := 3) rfl ?_); go_must (refine box_event ?hg (N := 3) ?hd (cs := #[.int .i64 0]) (t := 43) ?hr ?_; (case hd => rfl); (case hg => rfl); (case hr => first | (go_simp; done) | (go_simp; rfl)); intro g3 hg w2 hbox hb; have BK3 := Aside0.mk hbox; have K2 := Aside0.mk (blk_below BK2.out hb); have HB2 := Aside0.mk (below_step HB1.out hb); have B3 := Aside0.mk (show w.heap.size ≤ g3 by rw [hg]; exact below_size HB1.out); clear hb hbox hg; have N23 : g2 ≠ g3 := blk_ne K2.out BK3.out (by decide); have hcz2 : w2.cell? ⟨g2, 0, none⟩ = some (.slice none 0 0) := (blk_cell K2.out 0).trans rfl; have hfz2 := blk_frozen K2.out 0; have hcz3 : w2.cell? ⟨g3, 0, none⟩ = some (.int .i64 0) := (blk_cell BK3.out 0).trans rfl; have hfz3 := blk_frozen BK3.out 0)))
    have k2 := blk_far (p := ⟨g3, 0, none⟩) (blk_put K2.out 0 (.slice none 0 0) rfl) N23 (.int .i64 1)
    have k3 := blk_put (blk_far (p := ⟨g2, 0, none⟩) BK3.out N23.symm (.slice none 0 0)) 0 (.int .i64 1) rfl
    have kb := (HB2.out.setCell (p := ⟨g2, 0, none⟩) B2.out (.slice none 0 0)).setCell (p := ⟨g3, 0, none⟩) B3.out (.int .i64 1)
    generalize (w2.setCell ⟨g2, 0, none⟩ (.slice none 0 0)).setCell ⟨g3, 0, none⟩ (.int .i64 1) = W at *
    have q2 : W.cell? ⟨g2, 0, none⟩ = some (.slice none 0 0) := (blk_cell k2 0).trans rfl
    have q3 : W.cell? ⟨g3, 0, none⟩ = some (.int .i64 1) := (blk_cell k3 0).trans rfl
    refine ⟨.tuple #[.slice none 0 0, .int .i64 1], ?_, _, rfl, Kd.R_nil _ _ _ _ _, kb⟩
    simp [results, Tryd.results52, go_sem, q2, q3]
  · rw [if_neg c1] at h
    have c1' : decide ((l0.length : Int) > 60) = false := decide_eq_false c1
    have LM := Aside0.mk c1
    clear c1
    obtain ⟨r, hA, h⟩ := Option.bind_eq_some_iff.mp h
    have HA := Aside0.mk hA
    clear hA
    by_cases c2 : r.1 = 0
    · rw [if_pos c2] at h
      have C2 := Aside0.mk c2
      clear c2
      by_cases c3 : r.2.1 = (l0.length : Int)
      · rw [if_pos c3] at h
        have C3 := Aside0.mk c3
        obtain ⟨rfl, rfl⟩ := Prod.mk.inj (Option.some.inj h)
        clear h
        have c3' : decide (r.2.1 ≠ (l0.length : Int)) = false := decide_eq_false (by omega)
        go_enter_defers Tryd.func52, Tryd.ntmps52
        go_wp2_with (first | ((with_reducible refine gate_dst (N := 2) rfl ?_); go_must (refine box_event ?hg (N := 2) ?hd (cs := #[.slice none 0 0]) (t := 48) ?hr ?_; (case hd => rfl); (case hg => rfl); (case hr => first | (go_simp; done) | (go_simp; rfl)); intro g2 hg w1 hbox hb; have BK2 := Aside0.mk hbox; have HB1 := Aside0.mk hb; have B2 := Aside0.mk (show w.heap.size ≤ g2 by rw [hg]; exact Nat.le_refl _); clear hb hbox hg)) | ((with_reducible refine gate_dst (N := 3) rfl ?_); go_must (refine box_event ?hg (N := 3) ?hd (cs := #[.int .i64 0]) (t := 43) ?hr ?_; (case hd => rfl); (case hg => rfl); (case hr => first | (go_simp; done) | (go_simp; rfl)); intro g3 hg w2 hbox hb; have BK3 := Aside0.mk hbox; have K2 := Aside0.mk (blk_below BK2.out hb); have HB2 := Aside0.mk (below_step HB1.out hb); have B3 := Aside0.mk (show w.heap.size ≤ g3 by rw [hg]; exact below_size HB1.out); clear hb hbox hg; have N23 : g2 ≠ g3 := blk_ne K2.out BK3.out (by decide); have hcz2 : w2.cell? ⟨g2, 0, none⟩ = some (.slice none 0 0) := (blk_cell K2.out 0).trans rfl; have hfz2 := blk_frozen K2.out 0; have hcz3 : w2.cell? ⟨g3, 0, none⟩ = some (.int .i64 0) := (blk_cell BK3.out 0).trans rfl; have hfz3 := blk_frozen BK3.out 0)) | ((with_reducible refine gate_dst (N := 12) rfl ?_); go_must (refine Kd.R_make (Kd.int .i64) (w0 := w2) w2.heap.size 3 rfl (N := 12) rfl 48 _ _ rfl (l0.length : Int) rfl rfl Tryd.underlying48 (.int .i64 0) 8 info3 rfl (by decide) (by omega) 0 (ok := fun _ => True) (okp := fun _ => True) rfl (fun _ hk => hk) trivial (by omega) (by have := LM.out; omega) (Below.refl _ _) (Nat.le_refl _) ?_; intro ve w3 ho hb hg hnew; obtain ⟨As, cs5, rfl⟩ := Kd.R_slice ho; rw [List.length_replicate, Int.toNat_natCast] at ho; have RE3 := Aside0.mk ho; have HB3 := Aside0.mk hb; clear ho hb hg hnew)) | ((with_reducible refine gate_dst (N := 14) rfl ?_); go_must (refine box_event ?hg (N := 14) ?hd (cs := #[.slice A0 l0.length c0, .slice As l0.length cs5]) (t := 122) ?hr ?_; (case hd => rfl); (case hg => rfl); (case hr => first | (go_simp; done) | (go_simp; rfl)); intro gr hg w4 hbox hb; have HS := Aside0.mk (show polish_skip.St w2 w4 gr A0 l0.length c0 (List.replicate l0.length 0) from ⟨_, hbox, Kd.R_below RE3.out hb, below_step HB3.out hb⟩); have BG := Aside0.mk (show w2.heap.size ≤ gr by rw [hg]; exact below_size HB3.out); clear hb hbox hg)) | (go_at_call 75; go_must (refine (polish_skip.calls w2 A0 c0 l0 gr (Kd.C_below R0.out HB2.out) L0.out (Glob.below GL.out HB2.out) BG.out k 0 (List.replicate l0.length 0) r w4 HS.out HA.out).mono ?_; rintro e w5 ⟨he, hv⟩; rw [if_pos C2.out] at he; subst he; have HS5 := Aside0.mk hv; clear hv; obtain ⟨ve, k5, re5, b5⟩ := HS5.out; have K5 := Aside0.mk k5; have RE5 := Aside0.mk re5; have HB5 := Aside0.mk b5; clear k5 re5 b5; obtain ⟨Ae, ce, rfl⟩ := Kd.R_slice RE5.out; have K52 := Aside0.mk (blk_below K2.out HB5.out); have K53 := Aside0.mk (blk_below BK3.out HB5.out); have hdz2 : w5.cell? ⟨g2, 0, none⟩ = some (.slice none 0 0) := (blk_cell K52.out 0).trans rfl; have hdf2 := blk_frozen K52.out 0; have hdz3 : w5.cell? ⟨g3, 0, none⟩ = some (.int .i64 0) := (blk_cell K53.out 0).trans rfl; have hdf3 := blk_frozen K53.out 0; have hdz4 : w5.cell? ⟨gr, 1, none⟩ = some (.slice Ae r.2.2.length ce) := (blk_cell K5.out 1).trans rfl)))
        have k2 := blk_far (p := ⟨g3, 0, none⟩) (blk_put K52.out 0 (.slice Ae r.2.2.length ce) rfl) N23 (.int .i64 0)
        have k3 := blk_put (blk_far (p := ⟨g2, 0, none⟩) K53.out N23.symm (.slice Ae r.2.2.length ce)) 0 (.int .i64 0) rfl
        have kb := ((below_step HB2.out HB5.out).setCell (p := ⟨g2, 0, none⟩) B2.out (.slice Ae r.2.2.length ce)).setCell (p := ⟨g3, 0, none⟩) B3.out (.int .i64 0)
        have kr := Kd.R_set (Kd.R_set RE5.out K52.out (by decide) 0 (.slice Ae r.2.2.length ce)) (blk_far (p := ⟨g2, 0, none⟩) K53.out N23.symm (.slice Ae r.2.2.length ce)) (by decide) 0 (.int .i64 0)
        generalize (w5.setCell ⟨g2, 0, none⟩ (.slice Ae r.2.2.length ce)).setCell ⟨g3, 0, none⟩ (.int .i64 0) = W at *
        have q2 : W.cell? ⟨g2, 0, none⟩ = some (.slice Ae r.2.2.length ce) := (blk_cell k2 0).trans rfl
        have q3 : W.cell? ⟨g3, 0, none⟩ = some (.int .i64 0) := (blk_cell k3 0).trans rfl
        refine leaves_cons (f := 74) (args := #[.pointer (some ⟨g2, 0, none⟩), .pointer (some ⟨g3, 0, none⟩)]) (by simp) (by simp [go_sem]) ?_
        refine (polish_catch.idle _ _ _).mono ?_
        rintro e u' w' ⟨rfl, rfl, rfl⟩
        refine ⟨.tuple #[.slice Ae r.2.2.length ce, .int .i64 0], ?_, _, rfl, Kd.R_lower kr (below_size HB2.out), kb⟩
        simp [results, Tryd.results52, go_sem, q2, q3]
      · rw [if_neg c3] at h
        obtain ⟨rfl, rfl⟩ := Prod.mk.inj (Option.some.inj h)
        clear h
        go_enter_defers Tryd.func52, Tryd.ntmps52
        go_wp2_with (first | ((with_reducible refine gate_dst (N := 2) rfl ?_); go_must (refine box_event ?hg (N := 2) ?hd (cs := #[.slice none 0 0]) (t := 48) ?hr ?_; (case hd => rfl); (case hg => rfl); (case hr => first | (go_simp; done) | (go_simp; rfl)); intro g2 hg w1 hbox hb; have BK2 := Aside0.mk hbox; have HB1 := Aside0.mk hb; have B2 := Aside0.mk (show w.heap.size ≤ g2 by rw [hg]; exact Nat.le_refl _); clear hb hbox hg)) | ((with_reducible refine gate_dst (N := 3) rfl ?_); go_must (refine box_event ?hg (N := 3) ?hd (cs := #[.int .i64 0]) (t := 43) ?hr ?_; (case hd => rfl); (case hg => rfl); (case hr => first | (go_simp; done) | (go_simp; rfl)); intro g3 hg w2 hbox hb; have BK3 := Aside0.mk hbox; have K2 := Aside0.mk (blk_below BK2.out hb); have HB2 := Aside0.mk (below_step HB1.out hb); have B3 := Aside0.mk (show w.heap.size ≤ g3 by rw [hg]; exact below_size HB1.out); clear hb hbox hg; have N23 : g2 ≠ g3 := blk_ne K2.out BK3.out (by decide); have hcz2 : w2.cell? ⟨g2, 0, none⟩ = some (.slice none 0 0) := (blk_cell K2.out 0).trans rfl; have hfz2 := blk_frozen K2.out 0; have hcz3 : w2.cell? ⟨g3, 0, none⟩ = some (.int .i64 0) := (blk_cell BK3.out 0).trans rfl; have hfz3 := blk_frozen BK3.out 0)) | ((with_reducible refine gate_dst (N := 12) rfl ?_); go_must (refine Kd.R_make (Kd.int .i64) (w0 := w2) w2.heap.size 3 rfl (N := 12) rfl 48 _ _ rfl (l0.length : Int) rfl rfl Tryd.underlying48 (.int .i64 0) 8 info3 rfl (by decide) (by omega) 0 (ok := fun _ => True) (okp := fun _ => True) rfl (fun _ hk => hk) trivial (by omega) (by have := LM.out; omega) (Below.refl _ _) (Nat.le_refl _) ?_; intro ve w3 ho hb hg hnew; obtain ⟨As, cs5, rfl⟩ := Kd.R_slice ho; rw [List.length_replicate, Int.toNat_natCast] at ho; have RE3 := Aside0.mk ho; have HB3 := Aside0.mk hb; clear ho hb hg hnew)) | ((with_reducible refine gate_dst (N := 14) rfl ?_); go_must (refine box_event ?hg (N := 14) ?hd (cs := #[.slice A0 l0.length c0, .slice As l0.length cs5]) (t := 122) ?hr ?_; (case hd => rfl); (case hg => rfl); (case hr => first | (go_simp; done) | (go_simp; rfl)); intro gr hg w4 hbox hb; have HS := Aside0.mk (show polish_skip.St w2 w4 gr A0 l0.length c0 (List.replicate l0.length 0) from ⟨_, hbox, Kd.R_below RE3.out hb, below_step HB3.out hb⟩); have BG := Aside0.mk (show w2.heap.size ≤ gr by rw [hg]; exact below_size HB3.out); clear hb hbox hg)) | (go_at_call 75; go_must (refine (polish_skip.calls w2 A0 c0 l0 gr (Kd.C_below R0.out HB2.out) L0.out (Glob.below GL.out HB2.out) BG.out k 0 (List.replicate l0.length 0) r w4 HS.out HA.out).mono ?_; rintro e w5 ⟨he, hv⟩; rw [if_pos C2.out] at he; subst he; have HS5 := Aside0.mk hv; clear hv; obtain ⟨ve, k5, re5, b5⟩ := HS5.out; have K5 := Aside0.mk k5; have RE5 := Aside0.mk re5; have HB5 := Aside0.mk b5; clear k5 re5 b5; obtain ⟨Ae, ce, rfl⟩ := Kd.R_slice RE5.out; have K52 := Aside0.mk (blk_below K2.out HB5.out); have K53 := Aside0.mk (blk_below BK3.out HB5.out); have hdz2 : w5.cell? ⟨g2, 0, none⟩ = some (.slice none 0 0) := (blk_cell K52.out 0).trans rfl; have hdf2 := blk_frozen K52.out 0; have hdz3 : w5.cell? ⟨g3, 0, none⟩ = some (.int .i64 0) := (blk_cell K53.out 0).trans rfl; have hdf3 := blk_frozen K53.out 0; have hdz4 : w5.cell? ⟨gr, 1, none⟩ = some (.slice Ae r.2.2.length ce) := (blk_cell K5.out 1).trans rfl)))
        refine leaves_cons (f := 74) (args := #[.pointer (some ⟨g2, 0, none⟩), .pointer (some ⟨g3, 0, none⟩)]) (by simp) (by simp [go_sem]) ?_
        refine (polish_catch.panicking g2 g3 _ _ 3 _ K52.out K53.out N23).mono ?_
        rintro e u' w' ⟨rfl, rfl, k2, k3, kb⟩
        have q2 : w'.cell? ⟨g2, 0, none⟩ = some (.slice none 0 0) := (blk_cell k2 0).trans rfl
        have q3 : w'.cell? ⟨g3, 0, none⟩ = some (.int .i64 3) := (blk_cell k3 0).trans rfl
        refine ⟨.tuple #[.slice none 0 0, .int .i64 3], ?_, _, rfl, Kd.R_nil _ _ _ _ _, (below_step HB2.out HB5.out).trans (kb _ B2.out B3.out)⟩
        simp [results, Tryd.results52, go_sem, q2, q3]
    · rw [if_neg c2] at h
      have C2 := Aside0.mk c2
      clear c2
      obtain ⟨rfl, rfl⟩ := Prod.mk.inj (Option.some.inj h)
      clear h
      go_enter_defers Tryd.func52, Tryd.ntmps52
      go_wp2_with (first | ((with_reducible refine gate_dst (N := 2) rfl ?_); go_must (refine box_event ?hg (N := 2) ?hd (cs := #[.slice none 0 0]) (t := 48) ?hr ?_; (case hd => rfl); (case hg => rfl); (case hr => first | (go_simp; done) | (go_simp; rfl)); intro g2 hg w1 hbox hb; have BK2 := Aside0.mk hbox; have HB1 := Aside0.mk hb; have B2 := Aside0.mk (show w.heap.size ≤ g2 by rw [hg]; exact Nat.le_refl _); clear hb hbox hg)) | ((with_reducible refine gate_dst (N := 3) rfl ?_); go_must (refine box_event ?hg (N := 3) ?hd (cs := #[.int .i64 0]) (t := 43) ?hr ?_; (case hd => rfl); (case hg => rfl); (case hr => first | (go_simp; done) | (go_simp; rfl)); intro g3 hg w2 hbox hb; have BK3 := Aside0.mk hbox; have K2 := Aside0.mk (blk_below BK2.out hb); have HB2 := Aside0.mk (below_step HB1.out hb); have B3 := Aside0.mk (show w.heap.size ≤ g3 by rw [hg]; exact below_size HB1.out); clear hb hbox hg; have N23 : g2 ≠ g3 := blk_ne K2.out BK3.out (by decide); have hcz2 : w2.cell? ⟨g2, 0, none⟩ = some (.slice none 0 0) := (blk_cell K2.out 0).trans rfl; have hfz2 := blk_frozen K2.out 0; have hcz3 : w2.cell? ⟨g3, 0, none⟩ = some (.int .i64 0) := (blk_cell BK3.out 0).trans rfl; have hfz3 := blk_frozen BK3.out 0)) | ((with_reducible refine gate_dst (N := 12) rfl ?_); go_must (refine Kd.R_make (Kd.int .i64) (w0 := w2) w2.heap.size 3 rfl (N := 12) rfl 48 _ _ rfl (l0.length : Int) rfl rfl Tryd.underlying48 (.int .i64 0) 8 info3 rfl (by decide) (by omega) 0 (ok := fun _ => True) (okp := fun _ => True) rfl (fun _ hk => hk) trivial (by omega) (by have := LM.out; omega) (Below.refl _ _) (Nat.le_refl _) ?_; intro ve w3 ho hb hg hnew; obtain ⟨As, cs5, rfl⟩ := Kd.R_slice ho; rw [List.length_replicate, Int.toNat_natCast] at ho; have RE3 := Aside0.mk ho; have HB3 := Aside0.mk hb; clear ho hb hg hnew)) | ((with_reducible refine gate_dst (N := 14) rfl ?_); go_must (refine box_event ?hg (N := 14) ?hd (cs := #[.slice A0 l0.length c0, .slice As l0.length cs5]) (t := 122) ?hr ?_; (case hd => rfl); (case hg => rfl); (case hr => first | (go_simp; done) | (go_simp; rfl)); intro gr hg w4 hbox hb; have HS := Aside0.mk (show polish_skip.St w2 w4 gr A0 l0.length c0 (List.replicate l0.length 0) from ⟨_, hbox, Kd.R_below RE3.out hb, below_step HB3.out hb⟩); have BG := Aside0.mk (show w2.heap.size ≤ gr by rw [hg]; exact below_size HB3.out); clear hb hbox hg)) | (go_at_call 75; go_must (refine (polish_skip.calls w2 A0 c0 l0 gr (Kd.C_below R0.out HB2.out) L0.out (Glob.below GL.out HB2.out) BG.out k 0 (List.replicate l0.length 0) r w4 HS.out HA.out).mono ?_; rintro e w5 ⟨he, hv⟩; rw [if_neg C2.out] at he; subst he; have HS5 := Aside0.mk hv; clear hv; obtain ⟨ve, k5, re5, b5⟩ := HS5.out; have K5 := Aside0.mk k5; have RE5 := Aside0.mk re5; have HB5 := Aside0.mk b5; clear k5 re5 b5; obtain ⟨Ae, ce, rfl⟩ := Kd.R_slice RE5.out; have K52 := Aside0.mk (blk_below K2.out HB5.out); have K53 := Aside0.mk (blk_below BK3.out HB5.out); have hdz2 : w5.cell? ⟨g2, 0, none⟩ = some (.slice none 0 0) := (blk_cell K52.out 0).trans rfl; have hdf2 := blk_frozen K52.out 0; have hdz3 : w5.cell? ⟨g3, 0, none⟩ = some (.int .i64 0) := (blk_cell K53.out 0).trans rfl; have hdf3 := blk_frozen K53.out 0; have hdz4 : w5.cell? ⟨gr, 1, none⟩ = some (.slice Ae r.2.2.length ce) := (blk_cell K5.out 1).trans rfl)))
      refine leaves_cons (f := 74) (args := #[.pointer (some ⟨g2, 0, none⟩), .pointer (some ⟨g3, 0, none⟩)]) (by simp) (by simp [go_sem]) ?_
      refine (polish_catch.panicking g2 g3 _ _ r.1 _ K52.out K53.out N23).mono ?_
      rintro e u' w' ⟨rfl, rfl, k2, k3, kb⟩
      have q2 : w'.cell? ⟨g2, 0, none⟩ = some (.slice none 0 0) := (blk_cell k2 0).trans rfl
      have q3 : w'.cell? ⟨g3, 0, none⟩ = some (.int .i64 r.1) := (blk_cell k3 0).trans rfl
      refine ⟨.tuple #[.slice none 0 0, .int .i64 r.1], ?_, _, rfl, Kd.R_nil _ _ _ _ _, (below_step HB2.out HB5.out).trans (kb _ B2.out B3.out)⟩
      simp [results, Tryd.results52, go_sem, q2, q3]

end Go.Proofs.YteennleoieafiaaDoor.P
end
section
namespace Go.Proofs.YteennleoieafiaaDoor.P
open Go.RowKit Go.Proofs.YteennleoieafiaaDoorW.PrintWords Go.Proofs.YteennleoieafiaaDoorW.PrintLast Go.Proofs.YteennleoieafiaaDoorW.PrintMore Go.Proofs.YteennleoieafiaaDoor.G
attribute [local go_sem] max2_int min2_int max_two min_two max_three min_three max_four min_four   -- for this text's walks alone
set_option linter.unusedVariables false
set_option linter.unusedSimpArgs false

/-! ### expr_truth: function 54 -/
mutual
def expr_truth.j0 : Nat → Int → Bool → Option (Bool × Bool × Bool)
  | 0, _, _ => none
  | k + 1, x5, x6 => if x6 = true then (some (false, false, true)) else (if x5 = 6 then (expr_truth.j1 k x5 (x5 == 6)) else (expr_truth.j1 k x5 (x5 == 7)))
def expr_truth.j1 : Nat → Int → Bool → Option (Bool × Bool × Bool)
  | 0, _, _ => none
  | k + 1, x5, x12 => if x12 = true then (some (true, false, true)) else (if x5 = 8 then (some (true, true, true)) else (if x5 = 9 then (some (true, true, true)) else (if x5 = 10 then (some (true, true, true)) else (if x5 = 11 then (some (true, true, true)) else (if x5 = 12 then (some (true, true, true)) else (some (false, false, false)))))))
end
def expr_truth.f (k : Nat) (a0 : Int) : Option (Bool × Bool × Bool) := if a0 = 1 then (expr_truth.j0 k a0 (a0 == 1)) else (if a0 = 2 then (expr_truth.j0 k a0 (a0 == 2)) else (if a0 = 3 then (expr_truth.j0 k a0 (a0 == 3)) else (if a0 = 4 then (expr_truth.j0 k a0 (a0 == 4)) else (expr_truth.j0 k a0 (a0 == 5)))))
theorem expr_truth.mono_l : ∀ k, (∀ y0 y1, LeO (expr_truth.j0 k y0 y1) (expr_truth.j0 (k + 1) y0 y1)) ∧ (∀ y0 y1, LeO (expr_truth.j1 k y0 y1) (expr_truth.j1 (k + 1) y0 y1))
  | 0 => ⟨fun _ _ r h => by simp [expr_truth.j0] at h, fun _ _ r h => by simp [expr_truth.j1] at h⟩
  | k + 1 => by
    obtain ⟨ih0, ih1⟩ := expr_truth.mono_l k
    refine ⟨?_, ?_⟩
    · intro y0 y1
      unfold expr_truth.j0
      repeat' first
      | (with_reducible exact ih0 _ _)
      | (with_reducible exact ih1 _ _)
      | (with_reducible exact LeO.refl _)
      | (with_reducible exact LeO.none _)
      | (with_reducible refine LeO.ite ?_ ?_)
      | (with_reducible refine LeO.bind ?_ (fun _ => ?_))
      | exact ih0 _ _
      | exact ih1 _ _
      | exact LeO.none _
      | refine LeO.ite ?_ ?_
      | refine LeO.bind ?_ (fun _ => ?_)
    · intro y0 y1
      unfold expr_truth.j1
      repeat' first
      | (with_reducible exact ih0 _ _)
      | (with_reducible exact ih1 _ _)
      | (with_reducible exact LeO.refl _)
      | (with_reducible exact LeO.none _)
      | (with_reducible refine LeO.ite ?_ ?_)
      | (with_reducible refine LeO.bind ?_ (fun _ => ?_))
      | exact ih0 _ _
      | exact ih1 _ _
      | exact LeO.none _
      | refine LeO.ite ?_ ?_
      | refine LeO.bind ?_ (fun _ => ?_)
theorem expr_truth.mono : ∀ a0 k, LeO (expr_truth.f k a0) (expr_truth.f (k + 1) a0) := by
  intro a0 k
  obtain ⟨ih0, ih1⟩ := expr_truth.mono_l k
  unfold expr_truth.f
  repeat' first
      | (with_reducible exact ih0 _ _)
      | (with_reducible exact ih1 _ _)
      | (with_reducible exact LeO.refl _)
      | (with_reducible exact LeO.none _)
      | (with_reducible refine LeO.ite ?_ ?_)
      | (with_reducible refine LeO.bind ?_ (fun _ => ?_))
      | exact ih0 _ _
      | exact ih1 _ _
      | exact LeO.none _
      | refine LeO.ite ?_ ?_
      | refine LeO.bind ?_ (fun _ => ?_)
set_option maxHeartbeats 8000000 in
set_option maxRecDepth 100000 in
theorem expr_truth.calls (k : Nat) (a0 : Int) (r1 : Bool) (r2 : Bool) (r3 : Bool) (w : World) (h : expr_truth.f k a0 = some (r1, r2, r3)) :
    Calls Tryd.prog 54 #[.int .i64 a0] w fun e w' => e = .returned (.tuple #[.bool r1, .bool r2, .bool r3]) ∧ Drawn0 w w' := by
  have H : (if a0 = 1 then (expr_truth.j0 k a0 (a0 == 1)) else (if a0 = 2 then (expr_truth.j0 k a0 (a0 == 2)) else (if a0 = 3 then (expr_truth.j0 k a0 (a0 == 3)) else (if a0 = 4 then (expr_truth.j0 k a0 (a0 == 4)) else (expr_truth.j0 k a0 (a0 == 5)))))) = some (r1, r2, r3) := h
  clear h
  have HC2 := Aside0.mk H
  clear H
  go_enter Tryd.func54, Tryd.ntmps54
  go_upto_if 6 with (fail)
  go_cut [6] (fun v6 wc => ∃ (kq : Nat) (x6_1 : Bool), v6 = .bool x6_1 ∧ Aside0 (expr_truth.j0 kq a0 x6_1 = some (r1, r2, r3)) ∧ Aside0 (kq ≤ k) ∧ Drawn0 w wc)
  case first =>
    have H := HC2.out
    clear HC2
    by_cases c3 : a0 = 1
    · rw [if_pos c3] at H
      have c3b0 : (a0 == 1) = true := beq_iff_eq.mpr c3
      have c3b1 : (a0 != 1) = false := bne_eq_false_iff_eq.mpr c3
      clear c3
      (first | rw [c3b0] | (simp only [i64_w, i32_w]; rw [c3b0]) | skip)
      have H' := Aside0.mk H
      clear H
      go_wp2
      go_meet
      case rel => exact ⟨_, ((a0 == 1)), (by first | rfl | (simp; done) | (simp [*]; done)), H', ⟨by first | omega | exact Nat.le_refl _⟩, by repeat (first | exact Drawn0.refl _ | apply Drawn0.step)⟩
    · rw [if_neg c3] at H
      have c3b0 : (a0 == 1) = false := beq_eq_false_iff_ne.mpr c3
      have c3b1 : (a0 != 1) = true := bne_iff_ne.mpr c3
      (first | rw [c3b0] | (simp only [i64_w, i32_w]; rw [c3b0]) | skip)
      by_cases c4 : a0 = 2
      · rw [if_pos c4] at H
        have c4b0 : (a0 == 2) = true := beq_iff_eq.mpr c4
        have c4b1 : (a0 != 2) = false := bne_eq_false_iff_eq.mpr c4
        clear c4
        have H' := Aside0.mk H
        clear H
        go_wp2
        go_meet
        case rel => exact ⟨_, ((a0 == 2)), (by first | rfl | (simp; done) | (simp [*]; done)), H', ⟨by first | omega | exact Nat.le_refl _⟩, by repeat (first | exact Drawn0.refl _ | apply Drawn0.step)⟩
      · rw [if_neg c4] at H
        have c4b0 : (a0 == 2) = false := beq_eq_false_iff_ne.mpr c4
        have c4b1 : (a0 != 2) = true := bne_iff_ne.mpr c4
        by_cases c5 : a0 = 3
        · rw [if_pos c5] at H
          have c5b0 : (a0 == 3) = true := beq_iff_eq.mpr c5
          have c5b1 : (a0 != 3) = false := bne_eq_false_iff_eq.mpr c5
          clear c5
          have H' := Aside0.mk H
          clear H
          go_wp2
          go_meet
          case rel => exact ⟨_, ((a0 == 3)), (by first | rfl | (simp; done) | (simp [*]; done)), H', ⟨by first | omega | exact Nat.le_refl _⟩, by repeat (first | exact Drawn0.refl _ | apply Drawn0.step)⟩
        · rw [if_neg c5] at H
          have c5b0 : (a0 == 3) = false := beq_eq_false_iff_ne.mpr c5
          have c5b1 : (a0 != 3) = true := bne_iff_ne.mpr c5
          by_cases c6 : a0 = 4
          · rw [if_pos c6] at H
            have c6b0 : (a0 == 4) = true := beq_iff_eq.mpr c6
            have c6b1 : (a0 != 4) = false := bne_eq_false_iff_eq.mpr c6
            clear c6
            have H' := Aside0.mk H
            clear H
            go_wp2
            go_meet
            case rel => exact ⟨_, ((a0 == 4)), (by first | rfl | (simp; done) | (simp [*]; done)), H', ⟨by first | omega | exact Nat.le_refl _⟩, by repeat (first | exact Drawn0.refl _ | apply Drawn0.step)⟩
          · rw [if_neg c6] at H
            have c6b0 : (a0 == 4) = false := beq_eq_false_iff_ne.mpr c6
            have c6b1 : (a0 != 4) = true := bne_iff_ne.mpr c6
            have H' := Aside0.mk H
            clear H
            go_wp2
            go_meet
            case rel => exact ⟨_, ((a0 == 5)), (by first | rfl | (simp; done) | (simp [*]; done)), H', ⟨by first | omega | exact Nat.le_refl _⟩, by repeat (first | exact Drawn0.refl _ | apply Drawn0.step)⟩
  case rest =>
    clear HC2
    try clear p2
    try clear c3
    try clear c3b0
    try clear c3b1
    try clear c4
    try clear c4b0
    try clear c4b1
    try clear c5
    try clear c5b0
    try clear c5b1
    try clear c6
    try clear c6b0
    try clear c6b1
    obtain ⟨kq, x6_1, rfl, HA, HJ1, ⟨mc1, rfl⟩⟩ := hcut
    cases kq with
    | zero => exact absurd HA.out (by simp [expr_truth.j0])
    | succ kj1 =>
      have H := HA.out
      clear HA
      simp only [expr_truth.j0] at H
      by_cases c7 : x6_1 = true
      · subst c7
        have H1 : (some (false, false, true)) = some (r1, r2, r3) := by rw [if_pos rfl] at H; exact H
        clear H
        have H := H1
        clear H1
        simp only [Option.some.injEq, Prod.mk.injEq] at H
        obtain ⟨rfl, rfl, rfl⟩ := H
        go_wp2
        go_ret3
        exact ⟨by first | rfl | (simp; done) | (simp [*]; done), by repeat (first | exact Drawn0.refl _ | apply Drawn0.step)⟩
      · replace c7 := Bool.eq_false_iff.mpr c7
        subst c7
        have H1 : (if a0 = 6 then (expr_truth.j1 kj1 a0 (a0 == 6)) else (expr_truth.j1 kj1 a0 (a0 == 7))) = some (r1, r2, r3) := by rw [if_neg (show ¬ (false = true) by decide)] at H; exact H
        clear H
        have H := H1
        clear H1
        have HC8 := Aside0.mk H
        clear H
        go_upto_if 12 with (fail)
        go_cut [12] (fun v12 wc => ∃ (kq : Nat) (x12_7 : Bool), v12 = .bool x12_7 ∧ Aside0 (expr_truth.j1 kq a0 x12_7 = some (r1, r2, r3)) ∧ Aside0 (kq ≤ kj1) ∧ Drawn0 w wc)
        case first =>
          have H := HC8.out
          clear HC8
          by_cases c9 : a0 = 6
          · rw [if_pos c9] at H
            have c9b0 : (a0 == 6) = true := beq_iff_eq.mpr c9
            have c9b1 : (a0 != 6) = false := bne_eq_false_iff_eq.mpr c9
            clear c9
            (first | rw [c9b0] | (simp only [i64_w, i32_w]; rw [c9b0]) | skip)
            have H' := Aside0.mk H
            clear H
            go_wp2
            go_meet
            case rel => exact ⟨_, ((a0 == 6)), (by first | rfl | (simp; done) | (simp [*]; done)), H', ⟨by have := HJ1.out; first | omega | exact Nat.le_refl _⟩, by repeat (first | exact Drawn0.refl _ | apply Drawn0.step)⟩
          · rw [if_neg c9] at H
            have c9b0 : (a0 == 6) = false := beq_eq_false_iff_ne.mpr c9
            have c9b1 : (a0 != 6) = true := bne_iff_ne.mpr c9
            (first | rw [c9b0] | (simp only [i64_w, i32_w]; rw [c9b0]) | skip)
            have H' := Aside0.mk H
            clear H
            go_wp2
            go_meet
            case rel => exact ⟨_, ((a0 == 7)), (by first | rfl | (simp; done) | (simp [*]; done)), H', ⟨by have := HJ1.out; first | omega | exact Nat.le_refl _⟩, by repeat (first | exact Drawn0.refl _ | apply Drawn0.step)⟩
        case rest =>
          clear HC8
          try clear c1
          try clear p2
          try clear c3
          try clear c3b0
          try clear c3b1
          try clear c4
          try clear c4b0
          try clear c4b1
          try clear c5
          try clear c5b0
          try clear c5b1
          try clear c6
          try clear c6b0
          try clear c6b1
          try clear c7
          try clear c9
          try clear c9b0
          try clear c9b1
          try clear p2
          obtain ⟨kq, x12_7, rfl, HA, HJ7, ⟨mc7, rfl⟩⟩ := hcut
          cases kq with
          | zero => exact absurd HA.out (by simp [expr_truth.j1])
          | succ kj7 =>
            have H := HA.out
            clear HA
            simp only [expr_truth.j1] at H
            by_cases c10 : x12_7 = true
            · subst c10
              have H1 : (some (true, false, true)) = some (r1, r2, r3) := by rw [if_pos rfl] at H; exact H
              clear H
              have H := H1
              clear H1
              simp only [Option.some.injEq, Prod.mk.injEq] at H
              obtain ⟨rfl, rfl, rfl⟩ := H
              go_wp2
              go_ret3
              exact ⟨by first | rfl | (simp; done) | (simp [*]; done), by repeat (first | exact Drawn0.refl _ | apply Drawn0.step)⟩
            · replace c10 := Bool.eq_false_iff.mpr c10
              subst c10
              have H1 : (if a0 = 8 then (some (true, true, true)) else (if a0 = 9 then (some (true, true, true)) else (if a0 = 10 then (some (true, true, true)) else (if a0 = 11 then (some (true, true, true)) else (if a0 = 12 then (some (true, true, true)) else (some (false, false, false))))))) = some (r1, r2, r3) := by rw [if_neg (show ¬ (false = true) by decide)] at H; exact H
              clear H
              have H := H1
              clear H1
              by_cases c11 : a0 = 8
              · rw [if_pos c11] at H
                have c11b0 : (a0 == 8) = true := beq_iff_eq.mpr c11
                have c11b1 : (a0 != 8) = false := bne_eq_false_iff_eq.mpr c11
                clear c11
                simp only [Option.some.injEq, Prod.mk.injEq] at H
                obtain ⟨rfl, rfl, rfl⟩ := H
                go_wp2
                go_ret3
                exact ⟨by first | rfl | (simp; done) | (simp [*]; done), by repeat (first | exact Drawn0.refl _ | apply Drawn0.step)⟩
              · rw [if_neg c11] at H
                have c11b0 : (a0 == 8) = false := beq_eq_false_iff_ne.mpr c11
                have c11b1 : (a0 != 8) = true := bne_iff_ne.mpr c11
                by_cases c12 : a0 = 9
                · rw [if_pos c12] at H
                  have c12b0 : (a0 == 9) = true := beq_iff_eq.mpr c12
                  have c12b1 : (a0 != 9) = false := bne_eq_false_iff_eq.mpr c12
                  clear c12
                  simp only [Option.some.injEq, Prod.mk.injEq] at H
                  obtain ⟨rfl, rfl, rfl⟩ := H
                  go_wp2
                  go_ret3
                  exact ⟨by first | rfl | (simp; done) | (simp [*]; done), by repeat (first | exact Drawn0.refl _ | apply Drawn0.step)⟩
                · rw [if_neg c12] at H
                  have c12b0 : (a0 == 9) = false := beq_eq_false_iff_ne.mpr c12
                  have c12b1 : (a0 != 9) = true := bne_iff_ne.mpr c12
                  by_cases c13 : a0 = 10
                  · rw [if_pos c13] at H
                    have c13b0 : (a0 == 10) = true := beq_iff_eq.mpr c13
                    have c13b1 : (a0 != 10) = false := bne_eq_false_iff_eq.mpr c13
                    clear c13
                    simp only [Option.some.injEq, Prod.mk.injEq] at H
                    obtain ⟨rfl, rfl, rfl⟩ := H
                    go_wp2
                    go_ret3
                    exact ⟨by first | rfl | (simp; done) | (simp [*]; done), by repeat (first | exact Drawn0.refl _ | apply Drawn0.step)⟩
                  · rw [if_neg c13] at H
                    have c13b0 : (a0 == 10) = false := beq_eq_false_iff_ne.mpr c13
                    have c13b1 : (a0 != 10) = true := bne_iff_ne.mpr c13
                    by_cases c14 : a0 = 11
                    · rw [if_pos c14] at H
                      have c14b0 : (a0 == 11) = true := beq_iff_eq.mpr c14
                      have c14b1 : (a0 != 11) = false := bne_eq_false_iff_eq.mpr c14
                      clear c14
                      simp only [Option.some.injEq, Prod.mk.injEq] at H
                      obtain ⟨rfl, rfl, rfl⟩ := H
                      go_wp2
                      go_ret3
                      exact ⟨by first | rfl | (simp; done) | (simp [*]; done), by repeat (first | exact Drawn0.refl _ | apply Drawn0.step)⟩
                    · rw [if_neg c14] at H
                      have c14b0 : (a0 == 11) = false := beq_eq_false_iff_ne.mpr c14
                      have c14b1 : (a0 != 11) = true := bne_iff_ne.mpr c14
                      by_cases c15 : a0 = 12
                      · rw [if_pos c15] at H
                        have c15b0 : (a0 == 12) = true := beq_iff_eq.mpr c15
                        have c15b1 : (a0 != 12) = false := bne_eq_false_iff_eq.mpr c15
                        clear c15
                        simp only [Option.some.injEq, Prod.mk.injEq] at H
                        obtain ⟨rfl, rfl, rfl⟩ := H
                        go_wp2
                        go_ret3
                        exact ⟨by first | rfl | (simp; done) | (simp [*]; done), by repeat (first | exact Drawn0.refl _ | apply Drawn0.step)⟩
                      · rw [if_neg c15] at H
                        have c15b0 : (a0 == 12) = false := beq_eq_false_iff_ne.mpr c15
                        have c15b1 : (a0 != 12) = true := bne_iff_ne.mpr c15
                        simp only [Option.some.injEq, Prod.mk.injEq] at H
                        obtain ⟨rfl, rfl, rfl⟩ := H
                        go_wp2
                        go_ret3
                        exact ⟨by first | rfl | (simp; done) | (simp [*]; done), by repeat (first | exact Drawn0.refl _ | apply Drawn0.step)⟩

end Go.Proofs.YteennleoieafiaaDoor.P
end
section
namespace Go.Proofs.YteennleoieafiaaDoor.Q
open Go.RowKit Go.Proofs.YteennleoieafiaaDoorW.PrintWords Go.Proofs.YteennleoieafiaaDoorW.PrintMore Go.Proofs.YteennleoieafiaaDoor.P
set_option linter.unusedVariables false
theorem w64 {n : Int} (h0 : -9223372036854775808 ≤ n) (h1 : n ≤ 9223372036854775807) : wrap64 n = n := by unfold wrap64; omega
theorem wf64 {n : Int} (h : (Lit.int .i64 n).wf = true) : -9223372036854775808 ≤ n ∧ n ≤ 9223372036854775807 := bounds_i64 h
def pk (n m : Int) : Int := (if n < 0 then -(n + 1) else n) % m
theorem pk_lo (n : Int) {m : Int} (h : 0 < m) : 0 ≤ pk n m := Int.emod_nonneg _ (by omega)
theorem pk_hi (n : Int) {m : Int} (h : 0 < m) : pk n m < m := Int.emod_lt_of_pos _ h
theorem picked_is {n m : Int} (hn : (Lit.int .i64 n).wf = true) (hm : 0 < m) : foretellkeep_picked.f n m = some (pk n m) := by
  obtain ⟨h0, h1⟩ := wf64 hn
  unfold foretellkeep_picked.f pk
  by_cases c : n < 0
  · rw [if_pos c, if_neg (by omega), if_pos c, w64 (n := n + 1) (by omega) (by omega), w64 (n := -(n + 1)) (by omega) (by omega), Int.tmod_eq_emod_of_nonneg (by omega)]
  · rw [if_neg c, if_neg (by omega), if_neg c, Int.tmod_eq_emod_of_nonneg (by omega)]
theorem ev_le {α : Type} {g f : Nat → Option α} {r : α} (K : Nat) (h : ∀ k, K ≤ k → g k = f k) (hf : Ev f r) : Ev g r := by
  obtain ⟨K', hK⟩ := hf
  exact ⟨max K K', fun k hk => by rw [h k (by omega)]; exact hK k (by omega)⟩
end Go.Proofs.YteennleoieafiaaDoor.Q
end
section
namespace Go.Proofs.YteennleoieafiaaDoor.Q
open Go.RowKit Go.Proofs.YteennleoieafiaaDoorW.PrintWords Go.Proofs.YteennleoieafiaaDoorW.PrintMore Go.Proofs.YteennleoieafiaaDoor.P
set_option linter.unusedVariables false
abbrev Vr := S32
def spn (v : Vr) : Int := v.f2 - v.f1 + 1
def cnt : List Vr → Int
  | [] => 1
  | v :: l => cnt l * spn v
theorem cnt_pos : ∀ {l : List Vr}, (∀ v ∈ l, v.f1 ≤ v.f2) → 0 < cnt l
  | [], _ => by decide
  | v :: l, h => by
    have h1 := cnt_pos (l := l) (fun u hu => h u (List.mem_cons_of_mem _ hu))
    have h2 := h v List.mem_cons_self
    exact Int.mul_pos h1 (by unfold spn; omega)
end Go.Proofs.YteennleoieafiaaDoor.Q
end
section
namespace Go.Proofs.YteennleoieafiaaDoor.Q
open Go.RowKit Go.Proofs.YteennleoieafiaaDoorW.PrintWords Go.Proofs.YteennleoieafiaaDoorW.PrintMore Go.Proofs.YteennleoieafiaaDoor.P
set_option linter.unusedVariables false
structure VarsOk (l : List Vr) : Prop where
  len : l.length ≤ 6
  nm : ∀ v ∈ l, model_name.ok v.f0 = true
  nd : (l.map fun v => v.f0.data.toList).Nodup
  rng : ∀ v ∈ l, model_variables.rng v
  sp : ∀ v ∈ l, v.f2 - v.f1 < 64
  st : cnt l ≤ 4096
theorem VarsOk.le {l : List Vr} (h : VarsOk l) : ∀ v ∈ l, v.f1 ≤ v.f2 := fun v hv => (h.rng v hv).2.2.1
theorem spn_pos {v : Vr} (h : v.f1 ≤ v.f2) : 0 < spn v := by unfold spn; omega
theorem go_iff : ∀ (l : List Vr) (seen : List (List UInt8)) (st : Int), 1 ≤ st → (model_variables.go l seen st = 0 ↔ ((∀ v ∈ l, model_name.ok v.f0 = true) ∧ (l.map fun v => v.f0.data.toList).Nodup ∧ (∀ v ∈ l, v.f0.data.toList ∉ seen) ∧ (∀ v ∈ l, model_variables.rng v) ∧ (∀ v ∈ l, v.f2 - v.f1 < 64) ∧ (l = [] ∨ st * cnt l ≤ 4096))) := by
  intro l
  induction l with
  | nil => intro seen st h; simp [model_variables.go]
  | cons v l ih =>
    intro seen st hst
    unfold model_variables.go
    by_cases c1 : model_name.ok v.f0 = false
    · rw [if_pos c1]
      refine ⟨fun h => absurd h (by decide), fun h => ?_⟩
      have := h.1 v List.mem_cons_self
      rw [c1] at this
      cases this
    rw [if_neg c1]
    have c1' : model_name.ok v.f0 = true := by simpa using c1
    by_cases c2 : v.f0.data.toList ∈ seen
    · rw [if_pos c2]
      exact ⟨fun h => absurd h (by decide), fun h => absurd c2 (h.2.2.1 v List.mem_cons_self)⟩
    rw [if_neg c2]
    by_cases c3n : ¬ model_variables.rng v
    · rw [if_pos c3n]
      exact ⟨fun h => absurd h (by decide), fun h => absurd (h.2.2.2.1 v List.mem_cons_self) c3n⟩
    have c3 : model_variables.rng v := Decidable.not_not.mp c3n
    rw [if_neg c3n]
    by_cases c4 : v.f2 - v.f1 ≥ 64
    · rw [if_pos c4]
      exact ⟨fun h => absurd h (by decide), fun h => absurd (h.2.2.2.2.1 v List.mem_cons_self) (by omega)⟩
    rw [if_neg c4]
    have hle : v.f1 ≤ v.f2 := c3.2.2.1
    have hs := spn_pos hle
    have hsp : v.f2 - v.f1 + 1 = spn v := rfl
    rw [hsp]
    have hst1 : 1 ≤ st * spn v := by
      have : st * 1 ≤ st * spn v := Int.mul_le_mul_of_nonneg_left hs (by omega)
      omega
    by_cases c5 : st * spn v > 4096
    · rw [if_pos c5]
      refine ⟨fun h => absurd h (by decide), fun h => ?_⟩
      have hpos := cnt_pos (l := l) (fun u hu => (h.2.2.2.1 u (List.mem_cons_of_mem _ hu)).2.2.1)
      have h6 := h.2.2.2.2.2
      rcases h6 with h6 | h6
      · cases h6
      · rw [cnt, Int.mul_comm (cnt l), ← Int.mul_assoc] at h6
        have : st * spn v * 1 ≤ st * spn v * cnt l := Int.mul_le_mul_of_nonneg_left hpos (by omega)
        omega
    rw [if_neg c5, ih _ _ hst1]
    have hmul : st * cnt (v :: l) = st * spn v * cnt l := by rw [cnt, Int.mul_comm (cnt l), ← Int.mul_assoc]
    constructor
    · rintro ⟨h1, h2, h3, h4, h5, h6⟩
      refine ⟨?_, ?_, ?_, ?_, ?_, .inr ?_⟩
      · intro u hu
        rcases List.mem_cons.mp hu with rfl | hu
        · exact c1'
        · exact h1 u hu
      · rw [List.map_cons, List.nodup_cons]
        refine ⟨fun hm => ?_, h2⟩
        obtain ⟨u, hu, e⟩ := List.mem_map.mp hm
        exact h3 u hu (by rw [e]; simp)
      · intro u hu
        rcases List.mem_cons.mp hu with rfl | hu
        · exact c2
        · exact fun hm => h3 u hu (List.mem_append_left _ hm)
      · intro u hu
        rcases List.mem_cons.mp hu with rfl | hu
        · exact c3
        · exact h4 u hu
      · intro u hu
        rcases List.mem_cons.mp hu with rfl | hu
        · omega
        · exact h5 u hu
      · rw [hmul]
        rcases h6 with rfl | h6
        · rw [cnt]; omega
        · exact h6
    · rintro ⟨h1, h2, h3, h4, h5, h6⟩
      rw [List.map_cons, List.nodup_cons] at h2
      refine ⟨fun u hu => h1 u (List.mem_cons_of_mem _ hu), h2.2, fun u hu hm => ?_, fun u hu => h4 u (List.mem_cons_of_mem _ hu), fun u hu => h5 u (List.mem_cons_of_mem _ hu), .inr ?_⟩
      · rcases List.mem_append.mp hm with hm | hm
        · exact h3 u (List.mem_cons_of_mem _ hu) hm
        · exact h2.1 (List.mem_map.mpr ⟨u, hu, by simpa using hm⟩)
      · rcases h6 with h6 | h6
        · cases h6
        · rwa [hmul] at h6
theorem vars_iff (k : Nat) (l : List Vr) : model_variables.f k l = some 0 ↔ VarsOk l := by
  unfold model_variables.f
  by_cases c : (l.length : Int) > 6
  · rw [if_pos c]
    exact ⟨fun h => absurd (Option.some.inj h) (by decide), fun h => absurd h.len (by omega)⟩
  rw [if_neg c]
  constructor
  · intro h
    obtain ⟨h1, h2, _, h4, h5, h6⟩ := (go_iff l [] 1 (by decide)).mp (Option.some.inj h)
    refine ⟨by omega, h1, h2, h4, h5, ?_⟩
    rcases h6 with rfl | h6
    · decide
    · omega
  · intro h
    congr 1
    exact (go_iff l [] 1 (by decide)).mpr ⟨h.nm, h.nd, fun _ _ => by simp, h.rng, h.sp, .inr (by have := h.st; omega)⟩
structure OwnVar (nm : ByteArray) (v : Vr) : Prop where
  name : v.f0 = nm
  lo : -1 ≤ v.f1 ∧ v.f1 ≤ 1
  hi : v.f1 ≤ v.f2 ∧ v.f2 ≤ v.f1 + 3
  ini : v.f1 ≤ v.f3 ∧ v.f3 ≤ v.f2
theorem OwnVar.rng {nm : ByteArray} {v : Vr} (h : OwnVar nm v) : model_variables.rng v := by
  obtain ⟨_, h1, h2, h3⟩ := h
  unfold model_variables.rng
  omega
theorem OwnVar.spn {nm : ByteArray} {v : Vr} (h : OwnVar nm v) : 1 ≤ spn v ∧ spn v ≤ 4 := by
  obtain ⟨_, h1, h2, h3⟩ := h
  unfold Q.spn
  omega
end Go.Proofs.YteennleoieafiaaDoor.Q
end
section
namespace Go.Proofs.YteennleoieafiaaDoor.Q
open Go.RowKit Go.Proofs.YteennleoieafiaaDoorW.PrintWords Go.Proofs.YteennleoieafiaaDoorW.PrintMore Go.Proofs.YteennleoieafiaaDoor.P
set_option linter.unusedVariables false
abbrev Op := S35
abbrev Raw := S97
inductive Tm
  | leaf (o : Op)
  | un (o : Op) (a : Tm)
  | bin (o : Op) (a b : Tm)
def Tm.flat : Tm → List Op
  | .leaf o => [o]
  | .un o a => o :: a.flat
  | .bin o a b => o :: (a.flat ++ b.flat)
def Tm.size : Tm → Nat
  | .leaf _ => 1
  | .un _ a => a.size + 1
  | .bin _ a b => a.size + b.size + 1
theorem Tm.flat_len : ∀ t : Tm, t.flat.length = t.size
  | .leaf _ => rfl
  | .un _ a => by simp [Tm.flat, Tm.size, Tm.flat_len a]
  | .bin _ a b => by simp [Tm.flat, Tm.size, Tm.flat_len a, Tm.flat_len b]
theorem Tm.size_pos (t : Tm) : 0 < t.size := by cases t <;> simp [Tm.size]
def Tm.ok : Tm → Prop
  | .leaf o => 1 ≤ o.f0 ∧ o.f0 ≤ 18 ∧ polish_Parts.tab.getD o.f0.toNat 0 = 0
  | .un o a => 1 ≤ o.f0 ∧ o.f0 ≤ 18 ∧ polish_Parts.tab.getD o.f0.toNat 0 = 1 ∧ a.ok
  | .bin o a b => 1 ≤ o.f0 ∧ o.f0 ≤ 18 ∧ polish_Parts.tab.getD o.f0.toNat 0 = 2 ∧ a.ok ∧ b.ok
def Tm.ends : Int → Tm → List Int
  | p, .leaf _ => [p + 1]
  | p, .un _ a => (p + 1 + a.size) :: a.ends (p + 1)
  | p, .bin _ a b => (p + 1 + a.size + b.size) :: (a.ends (p + 1) ++ b.ends (p + 1 + a.size))
theorem Tm.ends_len : ∀ (t : Tm) (p : Int), (t.ends p).length = t.size
  | .leaf _, _ => rfl
  | .un _ a, p => by simp [Tm.ends, Tm.size, Tm.ends_len a]
  | .bin _ a b, p => by simp [Tm.ends, Tm.size, Tm.ends_len a, Tm.ends_len b]
theorem rdT_at {l pre post : List Op} {o : Op} (h : l = pre ++ o :: post) {p : Int} (hp : p = (pre.length : Int)) : rd_T35 l p = o := by
  subst h; subst hp
  unfold rd_T35
  rw [Int.toNat_natCast, List.getD_eq_getElem?_getD, List.getElem?_append_right (Nat.le_refl _)]
  simp
theorem skip_ok : ∀ (t : Tm), t.ok → ∀ (l pre post : List Op) (A M B : List Int) (p : Int), l = pre ++ (t.flat ++ post) → p = (pre.length : Int) → A.length = pre.length → M.length = t.size → l.length ≤ 1000000 →
    Ev (fun k => polish_skip.f k l p (A ++ (M ++ B))) (0, p + t.size, A ++ (t.ends p ++ B)) := by
  intro t
  induction t with
  | leaf o =>
    intro hok l pre post A M B p hl hp hA hM hlen
    obtain ⟨h1, h2, h3⟩ := hok
    have hrd : rd_T35 l p = o := rdT_at (post := post) hl hp
    have hll : l.length = pre.length + (1 + post.length) := by rw [hl]; simp [Tm.flat]; omega
    obtain ⟨m, rfl⟩ : ∃ m, M = [m] := by
      cases M with
      | nil => simp [Tm.size] at hM
      | cons m M => cases M with
        | nil => exact ⟨m, rfl⟩
        | cons _ _ => simp [Tm.size] at hM
    refine Ev.step (f := fun k => polish_skip.l k l p 0 0 (p + 1) (A ++ ([m] ++ B))) (fun k => ?_) (Ev.step (f := fun _ => some (0, p + 1, A ++ ([p + 1] ++ B))) (fun k => ?_) (Ev.now _))
    · simp only [polish_skip.f, hrd, h3]
      rw [if_pos (by omega), if_pos (by omega), if_neg (by omega), if_neg (by omega), w64 (n := p + 1) (by omega) (by omega)]
    · simp only [polish_skip.l]
      rw [if_neg (by omega), if_pos (by simp; omega)]
      congr 3
      rw [hp, Int.toNat_natCast, ← hA]
      simp
  | un o a iha =>
    intro hok l pre post A M B p hl hp hA hM hlen
    obtain ⟨h1, h2, h3, h4⟩ := hok
    have hrd : rd_T35 l p = o := rdT_at (post := a.flat ++ post) (by rw [hl]; rfl) hp
    have hll : l.length = pre.length + (1 + a.size + post.length) := by rw [hl]; simp [Tm.flat, Tm.flat_len]; omega
    obtain ⟨m, M', rfl⟩ : ∃ m M', M = m :: M' := by
      cases M with
      | nil => simp [Tm.size] at hM
      | cons m M => exact ⟨m, M, rfl⟩
    have hM' : M'.length = a.size := by simp [Tm.size] at hM; omega
    have ha := iha h4 l (pre ++ [o]) post (A ++ [m]) M' B (p + 1) (by rw [hl]; simp [Tm.flat]) (by rw [List.length_append]; simp; omega) (by simp [hA]) hM' hlen
    have hfin : Ev (fun k => polish_skip.l k l p 1 1 (p + 1 + a.size) ((A ++ [m]) ++ (a.ends (p + 1) ++ B))) (0, p + (Tm.un o a).size, A ++ ((Tm.un o a).ends p ++ B)) := by
      refine Ev.step (f := fun _ => some (0, p + (Tm.un o a).size, A ++ ((Tm.un o a).ends p ++ B))) (fun k => ?_) (Ev.now _)
      simp only [polish_skip.l]
      rw [if_neg (by omega), if_pos (by simp; omega)]
      have e : (A ++ [m] ++ (a.ends (p + 1) ++ B)).set p.toNat (p + 1 + a.size) = A ++ ((p + 1 + a.size) :: a.ends (p + 1) ++ B) := by
        rw [hp, Int.toNat_natCast, ← hA]
        simp
      rw [e]
      refine congrArg some (Prod.ext rfl (Prod.ext ?_ rfl))
      show p + 1 + (a.size : Int) = p + ((a.size + 1 : Nat) : Int)
      omega
    refine Ev.step (f := fun k => polish_skip.l k l p 1 0 (p + 1) (A ++ (m :: M' ++ B))) (fun k => ?_) ?_
    · simp only [polish_skip.f, hrd, h3]
      rw [if_pos (by omega), if_pos (by omega), if_neg (by omega), if_neg (by omega), w64 (n := p + 1) (by omega) (by omega)]
    refine Ev.step (f := fun k => (polish_skip.f k l (p + 1) ((A ++ [m]) ++ (M' ++ B))).bind fun r => if r.1 = 0 then polish_skip.l k l p 1 1 r.2.1 r.2.2 else some (r.1, 0, r.2.2)) (fun k => ?_) (Ev.bind ha ?_)
    · simp only [polish_skip.l]
      rw [if_pos (by omega), w64 (n := (0 : Int) + 1) (by omega) (by omega)]
      simp
    · simp only [if_true]
      exact hfin
  | bin o a b iha ihb =>
    intro hok l pre post A M B p hl hp hA hM hlen
    obtain ⟨h1, h2, h3, h4, h5⟩ := hok
    have hrd : rd_T35 l p = o := rdT_at (post := a.flat ++ b.flat ++ post) (by rw [hl]; rfl) hp
    have hll : l.length = pre.length + (1 + a.size + b.size + post.length) := by rw [hl]; simp [Tm.flat, Tm.flat_len]; omega
    obtain ⟨m, M', rfl⟩ : ∃ m M', M = m :: M' := by
      cases M with
      | nil => simp [Tm.size] at hM
      | cons m M => exact ⟨m, M, rfl⟩
    obtain ⟨Ma, Mb, rfl, hMa, hMb⟩ : ∃ Ma Mb, M' = Ma ++ Mb ∧ Ma.length = a.size ∧ Mb.length = b.size := by
      refine ⟨M'.take a.size, M'.drop a.size, (List.take_append_drop _ _).symm, ?_, ?_⟩
      · simp [Tm.size] at hM; rw [List.length_take]; omega
      · simp [Tm.size] at hM; rw [List.length_drop]; omega
    have ha := iha h4 l (pre ++ [o]) (b.flat ++ post) (A ++ [m]) Ma (Mb ++ B) (p + 1) (by rw [hl]; simp [Tm.flat]) (by rw [List.length_append]; simp; omega) (by simp [hA]) hMa hlen
    have hb := ihb h5 l (pre ++ [o] ++ a.flat) post (A ++ [m] ++ a.ends (p + 1)) Mb B (p + 1 + a.size) (by rw [hl]; simp [Tm.flat]) (by simp [Tm.flat_len]; omega) (by simp [hA, Tm.flat_len, Tm.ends_len]) hMb hlen
    have hfin : Ev (fun k => polish_skip.l k l p 2 2 (p + 1 + a.size + b.size) ((A ++ [m] ++ a.ends (p + 1)) ++ (b.ends (p + 1 + a.size) ++ B))) (0, p + (Tm.bin o a b).size, A ++ ((Tm.bin o a b).ends p ++ B)) := by
      refine Ev.step (f := fun _ => some (0, p + (Tm.bin o a b).size, A ++ ((Tm.bin o a b).ends p ++ B))) (fun k => ?_) (Ev.now _)
      simp only [polish_skip.l]
      rw [if_neg (by omega), if_pos (by simp; omega)]
      have e : (A ++ [m] ++ a.ends (p + 1) ++ (b.ends (p + 1 + a.size) ++ B)).set p.toNat (p + 1 + a.size + b.size) = A ++ ((p + 1 + a.size + b.size) :: (a.ends (p + 1) ++ b.ends (p + 1 + a.size)) ++ B) := by
        rw [hp, Int.toNat_natCast, ← hA]
        simp
      rw [e]
      refine congrArg some (Prod.ext rfl (Prod.ext ?_ rfl))
      show p + 1 + (a.size : Int) + b.size = p + ((a.size + b.size + 1 : Nat) : Int)
      omega
    refine Ev.step (f := fun k => polish_skip.l k l p 2 0 (p + 1) (A ++ (m :: (Ma ++ Mb) ++ B))) (fun k => ?_) ?_
    · simp only [polish_skip.f, hrd, h3]
      rw [if_pos (by omega), if_pos (by omega), if_neg (by omega), if_neg (by omega), w64 (n := p + 1) (by omega) (by omega)]
    refine Ev.step (f := fun k => (polish_skip.f k l (p + 1) ((A ++ [m]) ++ (Ma ++ (Mb ++ B)))).bind fun r => if r.1 = 0 then polish_skip.l k l p 2 1 r.2.1 r.2.2 else some (r.1, 0, r.2.2)) (fun k => ?_) (Ev.bind ha ?_)
    · simp only [polish_skip.l]
      rw [if_pos (by omega), w64 (n := (0 : Int) + 1) (by omega) (by omega)]
      simp
    simp only [if_true]
    refine Ev.step (f := fun k => (polish_skip.f k l (p + 1 + a.size) ((A ++ [m] ++ a.ends (p + 1)) ++ (Mb ++ B))).bind fun r => if r.1 = 0 then polish_skip.l k l p 2 2 r.2.1 r.2.2 else some (r.1, 0, r.2.2)) (fun k => ?_) (Ev.bind hb ?_)
    · simp only [polish_skip.l]
      rw [if_pos (by omega), w64 (n := (1 : Int) + 1) (by omega) (by omega)]
      simp
    · simp only [if_true]
      exact hfin
theorem ends_ok (t : Tm) (h : t.ok) (hs : t.size ≤ 60) : Ev (fun k => polish_Ends.f k t.flat) (t.ends 0, 0) := by
  have hl := t.flat_len
  unfold polish_Ends.f
  simp only [if_neg (show ¬ (60 < (t.flat.length : Int)) by omega)]
  refine Ev.bind (a := ((0 : Int), (t.size : Int), t.ends 0)) ?_ ?_
  · have := skip_ok t h t.flat [] [] [] (List.replicate t.flat.length 0) [] 0 (by simp) rfl rfl (by simp [hl]) (by omega)
    simpa using this
  · simp only [if_true, hl]
    exact Ev.now _
end Go.Proofs.YteennleoieafiaaDoor.Q
end
section
namespace Go.Proofs.YteennleoieafiaaDoor.Q
open Go.RowKit Go.Proofs.YteennleoieafiaaDoorW.PrintWords Go.Proofs.YteennleoieafiaaDoorW.PrintMore Go.Proofs.YteennleoieafiaaDoor.P
set_option linter.unusedVariables false
def rawWf (raw : List Raw) : Prop := ∀ y ∈ raw, ((Lit.int .i64 y.f0).wf = true ∧ (Lit.int .i64 y.f1).wf = true)
theorem take_is {raw : List Raw} (hw : rawWf raw) (a tp : Int) (out : List Op) (h0 : 0 ≤ a) (h1 : a ≤ 1000000) : ∃ r : Raw, grown_take.f raw ⟨a, tp, out⟩ = some (r, ⟨a + 1, tp, out⟩) ∧ (Lit.int .i64 r.f0).wf = true ∧ (Lit.int .i64 r.f1).wf = true := by
  unfold grown_take.f
  simp only [w64 (n := a + 1) (by omega) (by omega)]
  by_cases c : a < (raw.length : Int)
  · rw [if_pos c, if_pos h0]
    have hm : rd_T97 raw a ∈ raw := by
      unfold rd_T97
      rw [List.getD_eq_getElem?_getD, List.getElem?_eq_getElem (show a.toNat < raw.length by omega)]
      exact List.getElem_mem _
    exact ⟨_, rfl, (hw _ hm).1, (hw _ hm).2⟩
  · rw [if_neg c]
    exact ⟨⟨0, 0⟩, rfl, by decide, by decide⟩
theorem put_ok (a tp : Int) (out : List Op) (kind value : Int) (h : out.length ≤ 1000000) : grown_put.f ⟨a, tp, out⟩ kind value = some ⟨a, tp, out ++ [⟨kind, value⟩]⟩ := by
  unfold grown_put.f
  rw [if_pos (show out.length < 8796093022208 by omega)]
end Go.Proofs.YteennleoieafiaaDoor.Q
end
section
namespace Go.Proofs.YteennleoieafiaaDoor.Q
open Go.RowKit Go.Proofs.YteennleoieafiaaDoorW.PrintWords Go.Proofs.YteennleoieafiaaDoorW.PrintMore Go.Proofs.YteennleoieafiaaDoor.P
set_option linter.unusedVariables false
def Tm.rt : Tm → Op
  | .leaf o => o
  | .un o _ => o
  | .bin o _ _ => o
theorem Tm.flat_rt (t : Tm) : ∃ rest, t.flat = t.rt :: rest := by cases t <;> exact ⟨_, rfl⟩
theorem Tm.ends_rt (t : Tm) (p : Int) : ∃ rest, t.ends p = (p + t.size) :: rest := by
  cases t with
  | leaf o => exact ⟨_, rfl⟩
  | un o a => exact ⟨a.ends (p + 1), by simp only [Tm.ends, Tm.size]; congr 1; omega⟩
  | bin o a b => exact ⟨a.ends (p + 1) ++ b.ends (p + 1 + a.size), by simp only [Tm.ends, Tm.size]; congr 1; omega⟩
theorem rd_at {es A B : List Int} {e : Int} (h : es = A ++ e :: B) {p : Int} (hp : p = (A.length : Int)) : rd es p = e := by
  subst h; subst hp
  unfold rd
  rw [Int.toNat_natCast, List.getD_eq_getElem?_getD, List.getElem?_append_right (Nat.le_refl _)]
  simp
structure Lies (t : Tm) (p : Int) (l : List Op) (es : List Int) : Prop where
  ops : ∃ pre post, l = pre ++ (t.flat ++ post) ∧ p = (pre.length : Int)
  ends : ∃ A B, es = A ++ (t.ends p ++ B) ∧ p = (A.length : Int)
theorem Lies.p0 {t : Tm} {p : Int} {l : List Op} {es : List Int} (h : Lies t p l es) : 0 ≤ p ∧ p + t.size ≤ l.length ∧ p + t.size ≤ es.length := by
  obtain ⟨⟨pre, post, h1, h2⟩, ⟨A, B, h3, h4⟩⟩ := h
  refine ⟨by omega, ?_, ?_⟩
  · rw [h1, List.length_append, List.length_append, t.flat_len]; omega
  · rw [h3, List.length_append, List.length_append, t.ends_len]; omega
theorem Lies.rt {t : Tm} {p : Int} {l : List Op} {es : List Int} (h : Lies t p l es) : rd_T35 l p = t.rt ∧ rd es p = p + t.size := by
  obtain ⟨⟨pre, post, h1, h2⟩, ⟨A, B, h3, h4⟩⟩ := h
  obtain ⟨r1, hr1⟩ := t.flat_rt
  obtain ⟨r2, hr2⟩ := t.ends_rt p
  rw [hr1] at h1
  rw [hr2] at h3
  exact ⟨rdT_at (pre := pre) (post := r1 ++ post) (by rw [h1]; simp) h2, rd_at (A := A) (B := r2 ++ B) (by rw [h3]; simp) h4⟩
theorem Lies.un {o : Op} {a : Tm} {p : Int} {l : List Op} {es : List Int} (h : Lies (.un o a) p l es) : Lies a (p + 1) l es := by
  obtain ⟨⟨pre, post, h1, h2⟩, ⟨A, B, h3, h4⟩⟩ := h
  exact ⟨⟨pre ++ [o], post, by rw [h1]; simp [Tm.flat], by rw [List.length_append, List.length_singleton]; omega⟩, ⟨A ++ [p + 1 + a.size], B, by rw [h3]; simp [Tm.ends], by rw [List.length_append, List.length_singleton]; omega⟩⟩
theorem Lies.left {o : Op} {a b : Tm} {p : Int} {l : List Op} {es : List Int} (h : Lies (.bin o a b) p l es) : Lies a (p + 1) l es := by
  obtain ⟨⟨pre, post, h1, h2⟩, ⟨A, B, h3, h4⟩⟩ := h
  exact ⟨⟨pre ++ [o], b.flat ++ post, by rw [h1]; simp [Tm.flat], by rw [List.length_append, List.length_singleton]; omega⟩, ⟨A ++ [p + 1 + a.size + b.size], b.ends (p + 1 + a.size) ++ B, by rw [h3]; simp [Tm.ends], by rw [List.length_append, List.length_singleton]; omega⟩⟩
theorem Lies.right {o : Op} {a b : Tm} {p : Int} {l : List Op} {es : List Int} (h : Lies (.bin o a b) p l es) : Lies b (p + 1 + a.size) l es := by
  obtain ⟨⟨pre, post, h1, h2⟩, ⟨A, B, h3, h4⟩⟩ := h
  exact ⟨⟨pre ++ [o] ++ a.flat, post, by rw [h1]; simp [Tm.flat], by rw [List.length_append, List.length_append, List.length_singleton, a.flat_len]; omega⟩, ⟨A ++ [p + 1 + a.size + b.size] ++ a.ends (p + 1), B, by rw [h3]; simp [Tm.ends], by rw [List.length_append, List.length_append, List.length_singleton, a.ends_len]; omega⟩⟩
theorem lies_whole (t : Tm) : Lies t 0 t.flat (t.ends 0) := ⟨⟨[], [], by simp, rfl⟩, ⟨[], [], by simp, rfl⟩⟩
end Go.Proofs.YteennleoieafiaaDoor.Q
end
