-- PACKED by pack.py of this repo: FGrown
import Derived.WalkSpells
import Derived.Test.YtcoaeefmmnohkaaDoorM2
section
namespace Go.Proofs.YtcoaeefmmnohkaaDoor.P
open Go.RowKit Go.Proofs.YtcoaeefmmnohkaaDoorW.PrintWords Go.Proofs.YtcoaeefmmnohkaaDoorW.PrintLast Go.Proofs.YtcoaeefmmnohkaaDoorW.PrintMore Go.Proofs.YtcoaeefmmnohkaaDoor.G
attribute [local go_sem] max2_int min2_int max_two min_two max_three min_three max_four min_four   -- for this text's walks alone
set_option linter.unusedVariables false
set_option linter.unusedSimpArgs false

/-! ### foretellkeep_picked: function 18 -/
def foretellkeep_picked.f (a0 : Int) (a1 : Int) : Option (Int) := if a0 < 0 then (if a1 = 0 then (none) else (some (Int.tmod (wrap64 (-(wrap64 (a0 + 1)))) a1))) else (if a1 = 0 then (none) else (some (Int.tmod a0 a1)))
set_option maxHeartbeats 8000000 in
set_option maxRecDepth 100000 in
theorem foretellkeep_picked.calls (a0 : Int) (a1 : Int) (r : Int) (w : World) (h : foretellkeep_picked.f a0 a1 = some r) :
    Calls Tryd.prog 18 #[.int .i64 a0, .int .i64 a1] w fun e w' => e = .returned (.int .i64 r) ∧ Drawn0 w w' := by
  have H : (if a0 < 0 then (if a1 = 0 then (none) else (some (Int.tmod (wrap64 (-(wrap64 (a0 + 1)))) a1))) else (if a1 = 0 then (none) else (some (Int.tmod a0 a1)))) = some r := h
  clear h
  by_cases c3 : a0 < 0
  · rw [if_pos c3] at H
    have c3b0 : decide (a0 < 0) = true := decide_eq_true c3
    clear c3
    by_cases c4 : a1 = 0
    · rw [if_pos c4] at H
      exact absurd H (by simp)
    · rw [if_neg c4] at H
      have c4b0 : (a1 == 0) = false := beq_eq_false_iff_ne.mpr c4
      have c4b1 : (a1 != 0) = true := bne_iff_ne.mpr c4
      obtain rfl := Option.some.inj H
      go_enter Tryd.func18, Tryd.ntmps18
      go_wp2
      go_ret
      exact ⟨by first | rfl | (simp; done) | (simp [*]; done), by repeat (first | exact Drawn0.refl _ | apply Drawn0.step)⟩
  · rw [if_neg c3] at H
    have c3b0 : decide (a0 < 0) = false := decide_eq_false c3
    clear c3
    by_cases c5 : a1 = 0
    · rw [if_pos c5] at H
      exact absurd H (by simp)
    · rw [if_neg c5] at H
      have c5b0 : (a1 == 0) = false := beq_eq_false_iff_ne.mpr c5
      have c5b1 : (a1 != 0) = true := bne_iff_ne.mpr c5
      obtain rfl := Option.some.inj H
      go_enter Tryd.func18, Tryd.ntmps18
      go_wp2
      go_ret
      exact ⟨by first | rfl | (simp; done) | (simp [*]; done), by repeat (first | exact Drawn0.refl _ | apply Drawn0.step)⟩

--IMPORT Derived.WalkSpells
/-! ### grown_take: function 38 -/
/-- What a 'grown' holds that changes. -/
structure GrSt where
  at_ : Int
  tempo : Int
  out : List S51
/-- A 'grown' in memory. -/
def GrownAt (w0 w : World) (g : Nat) (A : Option Addr) (n c : Nat) (vars props : Int) (st : GrSt) : Prop :=
  ∃ vo, w.heap[g]? = some (.cells #[.slice A n c, .int .i64 st.at_, .int .i64 vars, .int .i64 props, .int .i64 st.tempo, vo] 63 (0, 0)) ∧ Kd.R k51 51 w w0.heap.size (fun _ => True) vo st.out ∧ Below w0.heap.size w0 w
theorem GrownAt.drewN {w0 w : World} {g : Nat} {A : Option Addr} {n c : Nat} {vars props : Int} {st : GrSt} (h : GrownAt w0 w g A n c vars props st) (m : Nat) : GrownAt w0 (w.drewN m) g A n c vars props st := by
  obtain ⟨ve, h1, h2, h3⟩ := h
  exact ⟨ve, h1, Kd.R_drewN h2 m, pw_below_drewN h3 m⟩
theorem GrownAt.below {w0 w w' : World} {g : Nat} {A : Option Addr} {n c : Nat} {vars props : Int} {st : GrSt} (h : GrownAt w0 w g A n c vars props st) (hb : Below w.heap.size w w') : GrownAt w0 w' g A n c vars props st := by
  obtain ⟨ve, h1, h2, h3⟩ := h
  exact ⟨ve, blk_below h1 hb, Kd.R_below h2 hb, below_step h3 hb⟩
/-- The place where it reads goes on. -/
theorem GrownAt.put1 {w0 w w' : World} {g : Nat} {A : Option Addr} {n c : Nat} {at_ vars props tempo : Int} {vo : Value} {out : List S51} (hbk : w.heap[g]? = some (.cells #[.slice A n c, .int .i64 at_, .int .i64 vars, .int .i64 props, .int .i64 tempo, vo] 63 (0, 0))) (hro : Kd.R k51 51 w w0.heap.size (fun _ => True) vo out) (hb : Below w0.heap.size w0 w) (bg : w0.heap.size ≤ g) (h : Below w.heap.size w w') (u : Int) : GrownAt w0 (w'.setCell ⟨g, 1, none⟩ (.int .i64 u)) g A n c vars props ⟨u, tempo, out⟩ :=
  ⟨vo, blk_put (blk_below hbk h) 1 _ rfl, Kd.R_set (Kd.R_below hro h) (blk_below hbk h) (by decide) _ _, (below_step hb h).setCell bg _⟩
theorem GrownAt.box2 {w0 w : World} {g g2 : Nat} {A : Option Addr} {n c : Nat} {vars props : Int} {st : GrSt} {a b : Value} (h : GrownAt w0 w g A n c vars props st) (hk : w.heap[g2]? = some (.cells #[a, b] 79 (0, 0))) (hn : g ≠ g2) (hg : w0.heap.size ≤ g2) (u v : Value) : GrownAt w0 ((w.setCell ⟨g2, 0, none⟩ u).setCell ⟨g2, 1, none⟩ v) g A n c vars props st := by
  obtain ⟨vo, h1, h2, h3⟩ := h
  exact ⟨vo, blk_far (p := ⟨g2, 1, none⟩) (blk_far (p := ⟨g2, 0, none⟩) h1 hn _) hn _, Kd.R_set (Kd.R_set h2 hk (by decide) _ _) (blk_put hk 0 _ rfl) (by decide) _ _, (h3.setCell hg _).setCell hg _⟩
def grown_take.f (raw : List S79) (st : GrSt) : Option (S79 × GrSt) :=
  if st.at_ < (raw.length : Int) then (if 0 ≤ st.at_ then some (rd_T79 raw st.at_, { st with at_ := wrap64 (st.at_ + 1) }) else none) else some (⟨0, 0⟩, { st with at_ := wrap64 (st.at_ + 1) })
set_option maxHeartbeats 8000000 in
set_option maxRecDepth 100000 in
theorem grown_take.calls (w0 : World) (A : Option Addr) (c : Nat) (raw : List S79) (g : Nat) (vars props : Int) (hr : Kd.C k79 w0 A raw.length raw) (bg : w0.heap.size ≤ g) (st : GrSt) (r : S79) (st' : GrSt) (w : World) (hv : GrownAt w0 w g A raw.length c vars props st) (h : grown_take.f raw st = some (r, st')) :
    Calls Tryd.prog 38 #[.pointer (some ⟨g, 0, none⟩)] w fun e w' => e = .returned (.agg #[.int .i64 r.f0, .int .i64 r.f1]) ∧ GrownAt w0 w' g A raw.length c vars props st' := by
  have R0 := Aside0.mk hr
  have BG := Aside0.mk bg
  clear hr bg
  obtain ⟨at_, tempo, out⟩ := st
  obtain ⟨vo, hbk, hro, hb⟩ := hv
  have BK := Aside0.mk hbk
  have RO := Aside0.mk hro
  have HB := Aside0.mk hb
  clear hbk hro hb
  have RW := Aside0.mk (Kd.C_below R0.out HB.out)
  have hcz0 : w.cell? ⟨g, 0, none⟩ = some (.slice A raw.length c) := (blk_cell BK.out 0).trans rfl
  have hcz1 : w.cell? ⟨g, 1, none⟩ = some (.int .i64 at_) := (blk_cell BK.out 1).trans rfl
  have hfz1 := blk_frozen BK.out 1
  unfold grown_take.f at h
  by_cases c1 : at_ < (raw.length : Int)
  · rw [if_pos c1] at h
    have c1' : decide (at_ < (raw.length : Int)) = true := decide_eq_true c1
    by_cases c2 : 0 ≤ at_
    · rw [if_pos c2] at h
      obtain ⟨rfl, rfl⟩ := Prod.mk.inj (Option.some.inj h)
      obtain ⟨ad, eA, hx0, hx1⟩ := at_T79 RW.out at_ c2 c1
      have eA' := eA
      clear eA
      have c1b := eq_true c1
      have c2b := eq_true c2
      clear c1 c2 h
      generalize hop : rd_T79 raw at_ = r at *
      go_enter Tryd.func38, Tryd.ntmps38
      go_wp2_with (first | ((with_reducible refine gate_dst (N := 2) rfl ?_); go_must (refine box_event ?hg (N := 2) ?hd (cs := #[.int .i64 0, .int .i64 0]) (t := 79) ?hr ?_; (case hd => rfl); (case hg => rfl); (case hr => first | (go_simp; done) | (go_simp; rfl)); intro g2 hg w1 hbox hb; have K2 := Aside0.mk hbox; have Hw1 := Aside0.mk hb; have G2 := Aside0.mk (show w.heap.size ≤ g2 by rw [hg]; exact Nat.le_refl _); clear hb hbox hg)) | ((with_reducible refine gate_dst (N := 3) rfl ?_); go_must (refine box_event ?hg (N := 3) ?hd (cs := #[.int .i64 0, .int .i64 0]) (t := 79) ?hr ?_; (case hd => rfl); (case hg => rfl); (case hr => first | (go_simp; done) | (go_simp; rfl)); intro g3 hg w2 hbox hb; have K3 := Aside0.mk hbox; have K22 := Aside0.mk (blk_below K2.out hb); have Hw2 := Aside0.mk (below_step Hw1.out hb); have G3 := Aside0.mk (show w.heap.size ≤ g3 by rw [hg]; exact below_size Hw1.out); have N23 : g2 ≠ g3 := (by rw [hg]; exact Nat.ne_of_lt (blk_lt K2.out)); have h30 : w2.cell? ⟨g3, 0, none⟩ = some (.int .i64 0) := (blk_cell K3.out 0).trans rfl; have h31 : w2.cell? ⟨g3, 1, none⟩ = some (.int .i64 0) := (blk_cell K3.out 1).trans rfl; have f30 := blk_frozen K3.out 0; have f31 := blk_frozen K3.out 1; clear hb hbox hg)) | ((with_reducible refine gate_store (t := 79) (p := 3) (v := .tmp 4) rfl ?_); go_must (refine store_event (t := 79) (p := 3) (v := .tmp 4) (w1 := ((w2.setCell ⟨g3, 0, none⟩ (.int .i64 0)).setCell ⟨g3, 1, none⟩ (.int .i64 0))) ?hg ?ho ?hn ?hr ?_; (case ho => rfl); (case hg => rfl); (case hn => rfl); (case hr => first | (go_simp; done) | (go_simp; rfl)); intro w3 hw; have K33 := Aside0.mk (show w3.heap[g3]? = some (.cells #[.int .i64 0, .int .i64 0] 79 (0, 0)) by rw [hw]; exact blk_put (blk_put K3.out 0 _ rfl) 1 _ rfl); have K23 := Aside0.mk (show w3.heap[g2]? = some (.cells #[.int .i64 0, .int .i64 0] 79 (0, 0)) by rw [hw]; exact blk_far (p := ⟨g3, 1, none⟩) (blk_far (p := ⟨g3, 0, none⟩) K22.out N23 _) N23 _); have Hw3 := Aside0.mk (show Below w.heap.size w w3 by rw [hw]; exact (Hw2.out.setCell G3.out _).setCell G3.out _); have hzw30 : w3.cell? ⟨g, 0, none⟩ = some (.slice A raw.length c) := (blk_cell (blk_below BK.out Hw3.out) 0).trans rfl; have hzw31 : w3.cell? ⟨g, 1, none⟩ = some (.int .i64 at_) := (blk_cell (blk_below BK.out Hw3.out) 1).trans rfl; have hfw31 := blk_frozen (blk_below BK.out Hw3.out) 1; clear hw)))
      go_quiet (fail)
      generalize hq : World.drewN w3 _ = w4
      have K34 := Aside0.mk (blk_at hq K33.out)
      have K24 := Aside0.mk (blk_at hq K23.out)
      have Hw4 := Aside0.mk (below_at hq Hw3.out)
      clear hq
      have hzw40 : w4.cell? ⟨g, 0, none⟩ = some (.slice A raw.length c) := (blk_cell (blk_below BK.out Hw4.out) 0).trans rfl
      have hzw41 : w4.cell? ⟨g, 1, none⟩ = some (.int .i64 at_) := (blk_cell (blk_below BK.out Hw4.out) 1).trans rfl
      have hfw41 := blk_frozen (blk_below BK.out Hw4.out) 1
      have hx40 := (Hw4.out.cell (World.block_lt_of_cell? w _ hx0)).trans hx0
      have hx41 := (Hw4.out.cell (World.block_lt_of_cell? w _ hx1)).trans hx1
      have h40 : w4.cell? ⟨g3, 0, none⟩ = some (.int .i64 0) := (blk_cell K34.out 0).trans rfl
      have h41 : w4.cell? ⟨g3, 1, none⟩ = some (.int .i64 0) := (blk_cell K34.out 1).trans rfl
      have f40 := blk_frozen K34.out 0
      have f41 := blk_frozen K34.out 1
      go_wp2
      go_region
      generalize hq5 : ((w4.setCell ⟨g3, 0, none⟩ (.int .i64 r.f0)).setCell ⟨g3, 1, none⟩ (.int .i64 r.f1)).drew = w5
      have K44 : w4.heap[g3]? = some (.cells #[.int .i64 0, .int .i64 0] 79 (0, 0)) := K34.out
      have K45 : w4.heap[g2]? = some (.cells #[.int .i64 0, .int .i64 0] 79 (0, 0)) := K24.out
      have K35 := Aside0.mk (show w5.heap[g3]? = some (.cells #[.int .i64 r.f0, .int .i64 r.f1] 79 (0, 0)) by rw [← hq5]; exact blk_put (blk_put K44 0 _ rfl) 1 _ rfl)
      have K25 := Aside0.mk (show w5.heap[g2]? = some (.cells #[.int .i64 0, .int .i64 0] 79 (0, 0)) by rw [← hq5]; exact blk_far (p := ⟨g3, 1, none⟩) (blk_far (p := ⟨g3, 0, none⟩) K45 N23 _) N23 _)
      have Hw5 := Aside0.mk (show Below w.heap.size w w5 by rw [← hq5]; exact ((Hw4.out.setCell G3.out _).setCell G3.out _).drew)
      clear hq5 K44 K45
      have hzw50 : w5.cell? ⟨g, 0, none⟩ = some (.slice A raw.length c) := (blk_cell (blk_below BK.out Hw5.out) 0).trans rfl
      have hzw51 : w5.cell? ⟨g, 1, none⟩ = some (.int .i64 at_) := (blk_cell (blk_below BK.out Hw5.out) 1).trans rfl
      have hfw51 := blk_frozen (blk_below BK.out Hw5.out) 1
      have N2g : g2 ≠ g := Ne.symm (Nat.ne_of_lt (Nat.lt_of_lt_of_le (blk_lt BK.out) G2.out))
      have N3g : g3 ≠ g := Ne.symm (Nat.ne_of_lt (Nat.lt_of_lt_of_le (blk_lt BK.out) G3.out))
      have Gw2 := Aside0.mk (Nat.le_trans (below_size HB.out) G2.out)
      go_wp2_with (first | ((with_reducible refine gate_store (t := 3) (p := 31) (v := .tmp 29) rfl ?_); go_must (refine store_event (t := 3) (p := 31) (v := .tmp 29) (w1 := (w5.setCell ⟨g, 1, none⟩ (.int .i64 (wrap64 (at_ + 1))))) ?hg ?ho ?hn ?hr ?_; (case ho => rfl); (case hg => rfl); (case hn => rfl); (case hr => first | (go_simp; done) | (go_simp; rfl)); intro w6 hw; have K36 := Aside0.mk (show w6.heap[g3]? = some (.cells #[.int .i64 r.f0, .int .i64 r.f1] 79 (0, 0)) by rw [hw]; exact blk_far (p := ⟨g, 1, none⟩) K35.out N3g _); have K26 := Aside0.mk (show w6.heap[g2]? = some (.cells #[.int .i64 0, .int .i64 0] 79 (0, 0)) by rw [hw]; exact blk_far (p := ⟨g, 1, none⟩) K25.out N2g _); have HV6 := Aside0.mk (show GrownAt w0 w6 g A raw.length c vars props ⟨wrap64 (at_ + 1), tempo, out⟩ by rw [hw]; exact GrownAt.put1 BK.out RO.out HB.out BG.out Hw5.out _); clear hw; have h60 : w6.cell? ⟨g3, 0, none⟩ = some (.int .i64 r.f0) := (blk_cell K36.out 0).trans rfl; have h61 : w6.cell? ⟨g3, 1, none⟩ = some (.int .i64 r.f1) := (blk_cell K36.out 1).trans rfl; have h62 : w6.cell? ⟨g2, 0, none⟩ = some (.int .i64 0) := (blk_cell K26.out 0).trans rfl; have h63 : w6.cell? ⟨g2, 1, none⟩ = some (.int .i64 0) := (blk_cell K26.out 1).trans rfl; have f62 := blk_frozen K26.out 0; have f63 := blk_frozen K26.out 1)) | ((with_reducible refine gate_store (t := 79) (p := 2) (v := .tmp 32) rfl ?_); go_must (refine store_event (t := 79) (p := 2) (v := .tmp 32) (w1 := ((w6.setCell ⟨g2, 0, none⟩ (.int .i64 r.f0)).setCell ⟨g2, 1, none⟩ (.int .i64 r.f1))) ?hg ?ho ?hn ?hr ?_; (case ho => rfl); (case hg => rfl); (case hn => rfl); (case hr => first | (go_simp; done) | (go_simp; rfl)); intro w7 hw; have K27 := Aside0.mk (show w7.heap[g2]? = some (.cells #[.int .i64 r.f0, .int .i64 r.f1] 79 (0, 0)) by rw [hw]; exact blk_put (blk_put K26.out 0 _ rfl) 1 _ rfl); have HV7 := Aside0.mk (show GrownAt w0 w7 g A raw.length c vars props ⟨wrap64 (at_ + 1), tempo, out⟩ by rw [hw]; exact GrownAt.box2 HV6.out K26.out N2g.symm Gw2.out _ _); clear hw; have h72 : w7.cell? ⟨g2, 0, none⟩ = some (.int .i64 r.f0) := (blk_cell K27.out 0).trans rfl; have h73 : w7.cell? ⟨g2, 1, none⟩ = some (.int .i64 r.f1) := (blk_cell K27.out 1).trans rfl)))
      refine ⟨rfl, .agg #[.int .i64 r.f0, .int .i64 r.f1], ?_, rfl, HV7.out⟩
      simp [results, Tryd.results38, go_sem, h72, h73]
    · rw [if_neg c2] at h
      exact absurd h (by simp)
  · rw [if_neg c1] at h
    have c1' : decide (at_ < (raw.length : Int)) = false := decide_eq_false c1
    obtain ⟨rfl, rfl⟩ := Prod.mk.inj (Option.some.inj h)
    clear c1 h
    go_enter Tryd.func38, Tryd.ntmps38
    go_wp2_with (first | ((with_reducible refine gate_dst (N := 2) rfl ?_); go_must (refine box_event ?hg (N := 2) ?hd (cs := #[.int .i64 0, .int .i64 0]) (t := 79) ?hr ?_; (case hd => rfl); (case hg => rfl); (case hr => first | (go_simp; done) | (go_simp; rfl)); intro g2 hg w1 hbox hb; have K2 := Aside0.mk hbox; have Hw1 := Aside0.mk hb; have G2 := Aside0.mk (show w.heap.size ≤ g2 by rw [hg]; exact Nat.le_refl _); clear hb hbox hg)) | ((with_reducible refine gate_dst (N := 3) rfl ?_); go_must (refine box_event ?hg (N := 3) ?hd (cs := #[.int .i64 0, .int .i64 0]) (t := 79) ?hr ?_; (case hd => rfl); (case hg => rfl); (case hr => first | (go_simp; done) | (go_simp; rfl)); intro g3 hg w2 hbox hb; have K3 := Aside0.mk hbox; have K22 := Aside0.mk (blk_below K2.out hb); have Hw2 := Aside0.mk (below_step Hw1.out hb); have G3 := Aside0.mk (show w.heap.size ≤ g3 by rw [hg]; exact below_size Hw1.out); have N23 : g2 ≠ g3 := (by rw [hg]; exact Nat.ne_of_lt (blk_lt K2.out)); have h30 : w2.cell? ⟨g3, 0, none⟩ = some (.int .i64 0) := (blk_cell K3.out 0).trans rfl; have h31 : w2.cell? ⟨g3, 1, none⟩ = some (.int .i64 0) := (blk_cell K3.out 1).trans rfl; have f30 := blk_frozen K3.out 0; have f31 := blk_frozen K3.out 1; clear hb hbox hg)) | ((with_reducible refine gate_store (t := 79) (p := 3) (v := .tmp 4) rfl ?_); go_must (refine store_event (t := 79) (p := 3) (v := .tmp 4) (w1 := ((w2.setCell ⟨g3, 0, none⟩ (.int .i64 0)).setCell ⟨g3, 1, none⟩ (.int .i64 0))) ?hg ?ho ?hn ?hr ?_; (case ho => rfl); (case hg => rfl); (case hn => rfl); (case hr => first | (go_simp; done) | (go_simp; rfl)); intro w3 hw; have K33 := Aside0.mk (show w3.heap[g3]? = some (.cells #[.int .i64 0, .int .i64 0] 79 (0, 0)) by rw [hw]; exact blk_put (blk_put K3.out 0 _ rfl) 1 _ rfl); have K23 := Aside0.mk (show w3.heap[g2]? = some (.cells #[.int .i64 0, .int .i64 0] 79 (0, 0)) by rw [hw]; exact blk_far (p := ⟨g3, 1, none⟩) (blk_far (p := ⟨g3, 0, none⟩) K22.out N23 _) N23 _); have Hw3 := Aside0.mk (show Below w.heap.size w w3 by rw [hw]; exact (Hw2.out.setCell G3.out _).setCell G3.out _); have hzw30 : w3.cell? ⟨g, 0, none⟩ = some (.slice A raw.length c) := (blk_cell (blk_below BK.out Hw3.out) 0).trans rfl; have hzw31 : w3.cell? ⟨g, 1, none⟩ = some (.int .i64 at_) := (blk_cell (blk_below BK.out Hw3.out) 1).trans rfl; have hfw31 := blk_frozen (blk_below BK.out Hw3.out) 1; clear hw)))
    go_quiet (fail)
    generalize hq : World.drewN w3 _ = w4
    have K34 := Aside0.mk (blk_at hq K33.out)
    have K24 := Aside0.mk (blk_at hq K23.out)
    have Hw4 := Aside0.mk (below_at hq Hw3.out)
    clear hq
    have hzw40 : w4.cell? ⟨g, 0, none⟩ = some (.slice A raw.length c) := (blk_cell (blk_below BK.out Hw4.out) 0).trans rfl
    have hzw41 : w4.cell? ⟨g, 1, none⟩ = some (.int .i64 at_) := (blk_cell (blk_below BK.out Hw4.out) 1).trans rfl
    have hfw41 := blk_frozen (blk_below BK.out Hw4.out) 1
    have N2g : g2 ≠ g := Ne.symm (Nat.ne_of_lt (Nat.lt_of_lt_of_le (blk_lt BK.out) G2.out))
    have N3g : g3 ≠ g := Ne.symm (Nat.ne_of_lt (Nat.lt_of_lt_of_le (blk_lt BK.out) G3.out))
    have Gw2 := Aside0.mk (Nat.le_trans (below_size HB.out) G2.out)
    go_wp2_with (first | ((with_reducible refine gate_store (t := 3) (p := 31) (v := .tmp 29) rfl ?_); go_must (refine store_event (t := 3) (p := 31) (v := .tmp 29) (w1 := (w4.setCell ⟨g, 1, none⟩ (.int .i64 (wrap64 (at_ + 1))))) ?hg ?ho ?hn ?hr ?_; (case ho => rfl); (case hg => rfl); (case hn => rfl); (case hr => first | (go_simp; done) | (go_simp; rfl)); intro w6 hw; have K36 := Aside0.mk (show w6.heap[g3]? = some (.cells #[.int .i64 0, .int .i64 0] 79 (0, 0)) by rw [hw]; exact blk_far (p := ⟨g, 1, none⟩) K34.out N3g _); have K26 := Aside0.mk (show w6.heap[g2]? = some (.cells #[.int .i64 0, .int .i64 0] 79 (0, 0)) by rw [hw]; exact blk_far (p := ⟨g, 1, none⟩) K24.out N2g _); have HV6 := Aside0.mk (show GrownAt w0 w6 g A raw.length c vars props ⟨wrap64 (at_ + 1), tempo, out⟩ by rw [hw]; exact GrownAt.put1 BK.out RO.out HB.out BG.out Hw4.out _); clear hw; have h60 : w6.cell? ⟨g3, 0, none⟩ = some (.int .i64 0) := (blk_cell K36.out 0).trans rfl; have h61 : w6.cell? ⟨g3, 1, none⟩ = some (.int .i64 0) := (blk_cell K36.out 1).trans rfl; have h62 : w6.cell? ⟨g2, 0, none⟩ = some (.int .i64 0) := (blk_cell K26.out 0).trans rfl; have h63 : w6.cell? ⟨g2, 1, none⟩ = some (.int .i64 0) := (blk_cell K26.out 1).trans rfl; have f62 := blk_frozen K26.out 0; have f63 := blk_frozen K26.out 1)) | ((with_reducible refine gate_store (t := 79) (p := 2) (v := .tmp 32) rfl ?_); go_must (refine store_event (t := 79) (p := 2) (v := .tmp 32) (w1 := ((w6.setCell ⟨g2, 0, none⟩ (.int .i64 0)).setCell ⟨g2, 1, none⟩ (.int .i64 0))) ?hg ?ho ?hn ?hr ?_; (case ho => rfl); (case hg => rfl); (case hn => rfl); (case hr => first | (go_simp; done) | (go_simp; rfl)); intro w7 hw; have K27 := Aside0.mk (show w7.heap[g2]? = some (.cells #[.int .i64 0, .int .i64 0] 79 (0, 0)) by rw [hw]; exact blk_put (blk_put K26.out 0 _ rfl) 1 _ rfl); have HV7 := Aside0.mk (show GrownAt w0 w7 g A raw.length c vars props ⟨wrap64 (at_ + 1), tempo, out⟩ by rw [hw]; exact GrownAt.box2 HV6.out K26.out N2g.symm Gw2.out _ _); clear hw; have h72 : w7.cell? ⟨g2, 0, none⟩ = some (.int .i64 0) := (blk_cell K27.out 0).trans rfl; have h73 : w7.cell? ⟨g2, 1, none⟩ = some (.int .i64 0) := (blk_cell K27.out 1).trans rfl)))
    refine ⟨rfl, .agg #[.int .i64 0, .int .i64 0], ?_, rfl, HV7.out⟩
    simp [results, Tryd.results38, go_sem, h72, h73]

--IMPORT FGrownTake
--IMPORT Derived.WalkSpells
/-! ### grown_put: function 39 -/
def grown_put.f (st : GrSt) (kind value : Int) : Option GrSt :=
  if st.out.length < 8796093022208 then some { st with out := st.out ++ [⟨kind, value⟩] } else none
set_option maxHeartbeats 8000000 in
set_option maxRecDepth 100000 in
theorem grown_put.calls (w0 : World) (A : Option Addr) (n c : Nat) (g : Nat) (vars props : Int) (bg : w0.heap.size ≤ g) (st : GrSt) (kind value : Int) (st' : GrSt) (w : World) (hv : GrownAt w0 w g A n c vars props st) (h : grown_put.f st kind value = some st') :
    Calls Tryd.prog 39 #[.pointer (some ⟨g, 0, none⟩), .int .i64 kind, .int .i64 value] w fun e w' => e = .returned (.tuple #[]) ∧ GrownAt w0 w' g A n c vars props st' := by
  have info := (by kernel_rfl : (Tryd.prog.info? 51).map (fun i => (i.zero, i.size, i.bytes)) = some (some (.agg #[(.int .i64 0), (.int .i64 0)]), 2, 16))
  have BG := Aside0.mk bg
  clear bg
  obtain ⟨at_, tempo, out⟩ := st
  obtain ⟨vo, hbk, hro, hb⟩ := hv
  have BK := Aside0.mk hbk
  have RO := Aside0.mk hro
  have HB := Aside0.mk hb
  clear hbk hro hb
  obtain ⟨Ao, co, rfl⟩ := Kd.R_slice RO.out
  unfold grown_put.f at h
  by_cases c1 : out.length < 8796093022208
  · rw [if_pos c1] at h
    obtain rfl := Option.some.inj h
    have LM := Aside0.mk c1
    clear c1 h
    have hcz5 : w.cell? ⟨g, 5, none⟩ = some (.slice Ao out.length co) := (blk_cell BK.out 5).trans rfl
    have hfz5 := blk_frozen BK.out 5
    go_enter Tryd.func39, Tryd.ntmps39
    go_wp2_with (first | ((with_reducible refine gate_builtin (b := .append) (xs := #[.tmp 10, .tmp 14]) rfl ?_); at_builtin; go_must (refine Kd.R_append k51 (w0 := w0) w0.heap.size rfl (.tmp 10) (.tmp 14) 23 51 (.agg #[(.int .i64 0), (.int .i64 0)]) 16 rfl Tryd.underlying23 info rfl (by decide) (by omega) (.slice Ao out.length co) out (⟨kind, value⟩ : S51) [.int .i64 kind, .int .i64 value] (fun _ => True) (fun _ => False) rfl rfl ?aP (fun _ hk => hk.elim) ?aF ?aO ?aB ?aS ?aL ?_; (case aP => exact k51_mkM _ _ _ (⟨kind, value⟩ : S51)); (case aB => exact HB.out); (case aF => exact (fun _ _ => trivial)); (case aO => exact RO.out); (case aS => exact below_size HB.out); (case aL => have := LM.out; omega); intro v1 w2 ho hb hg hat; obtain ⟨A1, c1, rfl⟩ := Kd.R_slice ho; replace ho : Kd.R k51 51 w2 w0.heap.size (fun _ => True) (.slice A1 (out.length + 1) c1) (out ++ [(⟨kind, value⟩ : S51)]) := (by rw [List.length_append] at ho; exact ho); have R1 := Aside0.mk ho; have HB2 := Aside0.mk hb; have K2 := Aside0.mk (blk_grown BK.out hg (Kd.R_ne RO.out BK.out (by decide))); clear ho hb hg hat; have hcz6 : w2.cell? ⟨g, 5, none⟩ = some (.slice Ao out.length co) := (blk_cell K2.out 5).trans rfl; have hfz6 := blk_frozen K2.out 5)))
    go_end0
    exact ⟨rfl, _, blk_put K2.out 5 _ rfl, Kd.R_set R1.out K2.out (by decide) _ _, HB2.out.setCell BG.out _⟩
  · rw [if_neg c1] at h
    exact absurd h (by simp)
theorem picked_same (a0 a1 r : Int) (w : World) (h : foretellkeep_picked.f a0 a1 = some r) : Calls Tryd.prog 18 #[.int .i64 a0, .int .i64 a1] w fun e w' => e = .returned (.int .i64 r) ∧ w' = w := by
  have H := h
  unfold foretellkeep_picked.f at H
  clear h
  by_cases c3 : a0 < 0
  · rw [if_pos c3] at H
    have c3b0 : decide (a0 < 0) = true := decide_eq_true c3
    clear c3
    by_cases c4 : a1 = 0
    · rw [if_pos c4] at H
      exact absurd H (by simp)
    · rw [if_neg c4] at H
      have c4b0 : (a1 == 0) = false := beq_eq_false_iff_ne.mpr c4
      have c4b1 : (a1 != 0) = true := bne_iff_ne.mpr c4
      obtain rfl := Option.some.inj H
      go_enter Tryd.func18, Tryd.ntmps18
      go_wp2
      go_ret
      exact ⟨by first | rfl | (simp; done) | (simp [*]; done), rfl⟩
  · rw [if_neg c3] at H
    have c3b0 : decide (a0 < 0) = false := decide_eq_false c3
    clear c3
    by_cases c5 : a1 = 0
    · rw [if_pos c5] at H
      exact absurd H (by simp)
    · rw [if_neg c5] at H
      have c5b0 : (a1 == 0) = false := beq_eq_false_iff_ne.mpr c5
      have c5b1 : (a1 != 0) = true := bne_iff_ne.mpr c5
      obtain rfl := Option.some.inj H
      go_enter Tryd.func18, Tryd.ntmps18
      go_wp2
      go_ret
      exact ⟨by first | rfl | (simp; done) | (simp [*]; done), rfl⟩
theorem GrownAt.size {w0 w : World} {g : Nat} {A : Option Addr} {n c : Nat} {vars props : Int} {st : GrSt} (h : GrownAt w0 w g A n c vars props st) : w0.heap.size ≤ w.heap.size := by
  obtain ⟨_, _, _, h⟩ := h
  exact below_size h
theorem GrownAt.lt {w0 w : World} {g : Nat} {A : Option Addr} {n c : Nat} {vars props : Int} {st : GrSt} (h : GrownAt w0 w g A n c vars props st) : g < w.heap.size := by
  obtain ⟨_, h, _, _⟩ := h
  exact blk_lt h
theorem GrownAt.c1 {w0 w : World} {g : Nat} {A : Option Addr} {n c : Nat} {vars props : Int} {st : GrSt} (h : GrownAt w0 w g A n c vars props st) : w.cell? ⟨g, 1, none⟩ = some (.int .i64 st.at_) := by
  obtain ⟨_, h, _, _⟩ := h
  exact (blk_cell h 1).trans rfl
theorem GrownAt.c2 {w0 w : World} {g : Nat} {A : Option Addr} {n c : Nat} {vars props : Int} {st : GrSt} (h : GrownAt w0 w g A n c vars props st) : w.cell? ⟨g, 2, none⟩ = some (.int .i64 vars) := by
  obtain ⟨_, h, _, _⟩ := h
  exact (blk_cell h 2).trans rfl
theorem GrownAt.c3 {w0 w : World} {g : Nat} {A : Option Addr} {n c : Nat} {vars props : Int} {st : GrSt} (h : GrownAt w0 w g A n c vars props st) : w.cell? ⟨g, 3, none⟩ = some (.int .i64 props) := by
  obtain ⟨_, h, _, _⟩ := h
  exact (blk_cell h 3).trans rfl
theorem GrownAt.c4 {w0 w : World} {g : Nat} {A : Option Addr} {n c : Nat} {vars props : Int} {st : GrSt} (h : GrownAt w0 w g A n c vars props st) : w.cell? ⟨g, 4, none⟩ = some (.int .i64 st.tempo) := by
  obtain ⟨_, h, _, _⟩ := h
  exact (blk_cell h 4).trans rfl
theorem GrownAt.f4 {w0 w : World} {g : Nat} {A : Option Addr} {n c : Nat} {vars props : Int} {st : GrSt} (h : GrownAt w0 w g A n c vars props st) : w.frozen? ⟨g, 4, none⟩ = false := by
  obtain ⟨_, h, _, _⟩ := h
  exact blk_frozen h 4
/-- Fewer ops that look ahead are left. -/
theorem GrownAt.put4 {w0 w : World} {g : Nat} {A : Option Addr} {n c : Nat} {vars props : Int} {st : GrSt} (h : GrownAt w0 w g A n c vars props st) (bg : w0.heap.size ≤ g) (t : Int) : GrownAt w0 (w.setCell ⟨g, 4, none⟩ (.int .i64 t)) g A n c vars props { st with tempo := t } := by
  obtain ⟨vo, h1, h2, h3⟩ := h
  exact ⟨vo, blk_put h1 4 _ rfl, Kd.R_set h2 h1 (by decide) _ _, h3.setCell bg _⟩

end Go.Proofs.YtcoaeefmmnohkaaDoor.P
end
