-- PACKED by pack.py of this repo: FForetellkeepPicked FSearchAt FSearchEnter Q O
import Derived.WalkSpells
import Derived.StillTailTactics
import Derived.OpenShut
import Derived.ProofKit
import Derived.Deep.Slices
import Derived.Test.YtpkigkmkolbiiaaK2
import Derived.Test.YtpkigkmkolbiiaaK1
section
namespace Go.Proofs.Ytpkigkmkolbiiaa.P
open Go.RowKit Go.Proofs.YtpkigkmkolbiiaaW.PrintWords Go.Proofs.YtpkigkmkolbiiaaW.PrintLast Go.Proofs.YtpkigkmkolbiiaaW.PrintMore Go.Proofs.Ytpkigkmkolbiiaa.G
attribute [local go_sem] max2_int min2_int max_two min_two max_three min_three max_four min_four   -- for this text's walks alone
set_option linter.unusedVariables false
set_option linter.unusedSimpArgs false

/-! ### foretellkeep_picked: function 14 -/
def foretellkeep_picked.f (a0 : Int) (a1 : Int) : Option (Int) := if a0 < 0 then (if a1 = 0 then (none) else (some (Int.tmod (wrap64 (-(wrap64 (a0 + 1)))) a1))) else (if a1 = 0 then (none) else (some (Int.tmod a0 a1)))
set_option maxHeartbeats 8000000 in
set_option maxRecDepth 100000 in
theorem foretellkeep_picked.calls (a0 : Int) (a1 : Int) (r : Int) (w : World) (h : foretellkeep_picked.f a0 a1 = some r) :
    Calls Try.prog 14 #[.int .i64 a0, .int .i64 a1] w fun e w' => e = .returned (.int .i64 r) ∧ Drawn0 w w' := by
  have H : (if a0 < 0 then (if a1 = 0 then (none) else (some (Int.tmod (wrap64 (-(wrap64 (a0 + 1)))) a1))) else (if a1 = 0 then (none) else (some (Int.tmod a0 a1)))) = some r := h
  clear h
  by_cases c3 : a0 < 0
  · rw [if_pos c3] at H
    have c3b0 : decide (a0 < 0) = true := decide_eq_true c3
    clear c3
    by_cases c4 : a1 = 0
    · rw [if_pos c4] at H
      exact absurd H (by simp)
    · rw [if_neg c4] at H
      have c4b0 : (a1 == 0) = false := beq_eq_false_iff_ne.mpr c4
      have c4b1 : (a1 != 0) = true := bne_iff_ne.mpr c4
      obtain rfl := Option.some.inj H
      go_enter Try.func14, Try.ntmps14
      go_wp2
      go_ret
      exact ⟨by first | rfl | (simp; done) | (simp [*]; done), by repeat (first | exact Drawn0.refl _ | apply Drawn0.step)⟩
  · rw [if_neg c3] at H
    have c3b0 : decide (a0 < 0) = false := decide_eq_false c3
    clear c3
    by_cases c5 : a1 = 0
    · rw [if_pos c5] at H
      exact absurd H (by simp)
    · rw [if_neg c5] at H
      have c5b0 : (a1 == 0) = false := beq_eq_false_iff_ne.mpr c5
      have c5b1 : (a1 != 0) = true := bne_iff_ne.mpr c5
      obtain rfl := Option.some.inj H
      go_enter Try.func14, Try.ntmps14
      go_wp2
      go_ret
      exact ⟨by first | rfl | (simp; done) | (simp [*]; done), by repeat (first | exact Drawn0.refl _ | apply Drawn0.step)⟩

end Go.Proofs.Ytpkigkmkolbiiaa.P
end
section
namespace Go.Proofs.Ytpkigkmkolbiiaa.P
open Go.RowKit Go.Proofs.YtpkigkmkolbiiaaW.PrintWords Go.Proofs.YtpkigkmkolbiiaaW.PrintLast Go.Proofs.YtpkigkmkolbiiaaW.PrintMore Go.Proofs.Ytpkigkmkolbiiaa.G
attribute [local go_sem] max2_int min2_int max_two min_two max_three min_three max_four min_four   -- for this text's walks alone
set_option linter.unusedVariables false
set_option linter.unusedSimpArgs false

--IMPORT Derived.WalkSpells
/-! ### search_at: function 19 -/
theorem addr_at (g k : Nat) : (⟨g, 0, none⟩ : Addr).add k = ⟨g, k, none⟩ := by
  cases k <;> simp [Addr.add]
/-- A row of numbers that fills its block. -/
def OB (w : World) (g : Nat) (xs : List Int) : Prop := w.heap[g]? = some (.cells (xs.map (Value.int .i64)).toArray 3 (0, 0))
section
variable {w w' w0 : World} {g : Nat} {xs : List Int}
theorem OB.of (h : OB w g xs) (e : w'.heap[g]? = w.heap[g]?) : OB w' g xs := e.trans h
theorem OB.cell (h : OB w g xs) (i : Int) (h0 : 0 ≤ i) (h1 : i < (xs.length : Int)) : w.cell? ⟨g, i.toNat, none⟩ = some (.int .i64 (rd xs i)) := by
  have e := blk_cell h i.toNat
  rw [e]
  have hl : i.toNat < xs.length := by omega
  simp [rd, hl]
theorem OB.put (h : OB w g xs) (i : Int) (x : Int) : OB (w.setCell ⟨g, i.toNat, none⟩ (.int .i64 x)) g (xs.set i.toNat x) := by
  unfold OB
  exact blk_put h i.toNat _ (by simp [List.map_set])
end
/-- What changes in a search. -/
structure SrSt where
  order : List Int
  low : List Int
  part : List Int
  opn : List Int
  calls : List S64
  met : Int
/-- A search in memory: its graph's five cells (v0 ..), the blocks of its three rows of n numbers. -/
structure SrAt (w0 w : World) (s go gl gp n : Nat) (v0 v1 v2 v3 v4 : Value) (st : SrSt) (vo vc : Value) : Prop where
  blk : w.heap[s]? = some (.cells #[v0, v1, v2, v3, v4, .slice (some ⟨go, 0, none⟩) n n, .slice (some ⟨gl, 0, none⟩) n n, .slice (some ⟨gp, 0, none⟩) n n, vo, vc, .int .i64 st.met] 56 (0, 0))
  ord : OB w go st.order
  low : OB w gl st.low
  part : OB w gp st.part
  nord : st.order.length = n
  nlow : st.low.length = n
  npart : st.part.length = n
  opn : Kd.R (Kd.int .i64) 3 w w0.heap.size (fun k => k ≠ go ∧ k ≠ gl ∧ k ≠ gp) vo st.opn
  cls : Kd.R k64 64 w w0.heap.size (fun _ => True) vc st.calls
  bel : Below w0.heap.size w0 w
  bs : w0.heap.size ≤ s
  bo : w0.heap.size ≤ go
  bl : w0.heap.size ≤ gl
  bp : w0.heap.size ≤ gp
  ol : go ≠ gl
  op_ : go ≠ gp
  lp : gl ≠ gp
section
variable {w0 w w' : World} {s go gl gp n : Nat} {v0 v1 v2 v3 v4 vo vc : Value} {st : SrSt}
theorem SrAt.drewN (h : SrAt w0 w s go gl gp n v0 v1 v2 v3 v4 st vo vc) (m : Nat) : SrAt w0 (w.drewN m) s go gl gp n v0 v1 v2 v3 v4 st vo vc :=
  ⟨h.blk, h.ord, h.low, h.part, h.nord, h.nlow, h.npart, Kd.R_drewN h.opn m, Kd.R_drewN h.cls m, pw_below_drewN h.bel m, h.bs, h.bo, h.bl, h.bp, h.ol, h.op_, h.lp⟩
/-- A number of 'order' is set. -/
theorem SrAt.setOrd (h : SrAt w0 w s go gl gp n v0 v1 v2 v3 v4 st vo vc) (i x : Int) : SrAt w0 (w.setCell ⟨go, i.toNat, none⟩ (.int .i64 x)) s go gl gp n v0 v1 v2 v3 v4 { st with order := st.order.set i.toNat x } vo vc :=
  ⟨blk_far (p := ⟨go, i.toNat, none⟩) h.blk (blk_ne h.blk h.ord (by decide)) _, h.ord.put i x, h.low.of (Below.heap_setCell w ⟨go, i.toNat, none⟩ _ gl h.ol.symm), h.part.of (Below.heap_setCell w ⟨go, i.toNat, none⟩ _ gp h.op_.symm), by rw [List.length_set]; exact h.nord, h.nlow, h.npart,
    Kd.R_far (p := ⟨go, i.toNat, none⟩) h.opn (fun k hk => hk.1) _, Kd.R_set h.cls h.ord (by decide) _ _, h.bel.setCell (p := ⟨go, i.toNat, none⟩) h.bo _, h.bs, h.bo, h.bl, h.bp, h.ol, h.op_, h.lp⟩
theorem SrAt.setLow (h : SrAt w0 w s go gl gp n v0 v1 v2 v3 v4 st vo vc) (i x : Int) : SrAt w0 (w.setCell ⟨gl, i.toNat, none⟩ (.int .i64 x)) s go gl gp n v0 v1 v2 v3 v4 { st with low := st.low.set i.toNat x } vo vc :=
  ⟨blk_far (p := ⟨gl, i.toNat, none⟩) h.blk (blk_ne h.blk h.low (by decide)) _, h.ord.of (Below.heap_setCell w ⟨gl, i.toNat, none⟩ _ go h.ol), h.low.put i x, h.part.of (Below.heap_setCell w ⟨gl, i.toNat, none⟩ _ gp h.lp.symm), h.nord, by rw [List.length_set]; exact h.nlow, h.npart,
    Kd.R_far (p := ⟨gl, i.toNat, none⟩) h.opn (fun k hk => hk.2.1) _, Kd.R_set h.cls h.low (by decide) _ _, h.bel.setCell (p := ⟨gl, i.toNat, none⟩) h.bl _, h.bs, h.bo, h.bl, h.bp, h.ol, h.op_, h.lp⟩
theorem SrAt.setPart (h : SrAt w0 w s go gl gp n v0 v1 v2 v3 v4 st vo vc) (i x : Int) : SrAt w0 (w.setCell ⟨gp, i.toNat, none⟩ (.int .i64 x)) s go gl gp n v0 v1 v2 v3 v4 { st with part := st.part.set i.toNat x } vo vc :=
  ⟨blk_far (p := ⟨gp, i.toNat, none⟩) h.blk (blk_ne h.blk h.part (by decide)) _, h.ord.of (Below.heap_setCell w ⟨gp, i.toNat, none⟩ _ go h.op_), h.low.of (Below.heap_setCell w ⟨gp, i.toNat, none⟩ _ gl h.lp), h.part.put i x, h.nord, h.nlow, by rw [List.length_set]; exact h.npart,
    Kd.R_far (p := ⟨gp, i.toNat, none⟩) h.opn (fun k hk => hk.2.2) _, Kd.R_set h.cls h.part (by decide) _ _, h.bel.setCell (p := ⟨gp, i.toNat, none⟩) h.bp _, h.bs, h.bo, h.bl, h.bp, h.ol, h.op_, h.lp⟩
theorem SrAt.setMet (h : SrAt w0 w s go gl gp n v0 v1 v2 v3 v4 st vo vc) (x : Int) : SrAt w0 (w.setCell ⟨s, 10, none⟩ (.int .i64 x)) s go gl gp n v0 v1 v2 v3 v4 { st with met := x } vo vc :=
  ⟨blk_put h.blk 10 _ rfl, h.ord.of (Below.heap_setCell w ⟨s, 10, none⟩ _ go (blk_ne h.ord h.blk (by decide))), h.low.of (Below.heap_setCell w ⟨s, 10, none⟩ _ gl (blk_ne h.low h.blk (by decide))), h.part.of (Below.heap_setCell w ⟨s, 10, none⟩ _ gp (blk_ne h.part h.blk (by decide))), h.nord, h.nlow, h.npart,
    Kd.R_set h.opn h.blk (by decide) _ _, Kd.R_set h.cls h.blk (by decide) _ _, h.bel.setCell (p := ⟨s, 10, none⟩) h.bs _, h.bs, h.bo, h.bl, h.bp, h.ol, h.op_, h.lp⟩
/-- The open places' row is another one. -/
theorem SrAt.putOpn (h : SrAt w0 w s go gl gp n v0 v1 v2 v3 v4 st vo vc) {v : Value} {xs : List Int} (hr : Kd.R (Kd.int .i64) 3 w w0.heap.size (fun k => k ≠ go ∧ k ≠ gl ∧ k ≠ gp) v xs) : SrAt w0 (w.setCell ⟨s, 8, none⟩ v) s go gl gp n v0 v1 v2 v3 v4 { st with opn := xs } v vc :=
  ⟨blk_put h.blk 8 _ rfl, h.ord.of (Below.heap_setCell w ⟨s, 8, none⟩ _ go (blk_ne h.ord h.blk (by decide))), h.low.of (Below.heap_setCell w ⟨s, 8, none⟩ _ gl (blk_ne h.low h.blk (by decide))), h.part.of (Below.heap_setCell w ⟨s, 8, none⟩ _ gp (blk_ne h.part h.blk (by decide))), h.nord, h.nlow, h.npart,
    Kd.R_set hr h.blk (by decide) _ _, Kd.R_set h.cls h.blk (by decide) _ _, h.bel.setCell (p := ⟨s, 8, none⟩) h.bs _, h.bs, h.bo, h.bl, h.bp, h.ol, h.op_, h.lp⟩
theorem SrAt.putCls (h : SrAt w0 w s go gl gp n v0 v1 v2 v3 v4 st vo vc) {v : Value} {xs : List S64} (hr : Kd.R k64 64 w w0.heap.size (fun _ => True) v xs) : SrAt w0 (w.setCell ⟨s, 9, none⟩ v) s go gl gp n v0 v1 v2 v3 v4 { st with calls := xs } vo v :=
  ⟨blk_put h.blk 9 _ rfl, h.ord.of (Below.heap_setCell w ⟨s, 9, none⟩ _ go (blk_ne h.ord h.blk (by decide))), h.low.of (Below.heap_setCell w ⟨s, 9, none⟩ _ gl (blk_ne h.low h.blk (by decide))), h.part.of (Below.heap_setCell w ⟨s, 9, none⟩ _ gp (blk_ne h.part h.blk (by decide))), h.nord, h.nlow, h.npart,
    Kd.R_set h.opn h.blk (by decide) _ _, Kd.R_set hr h.blk (by decide) _ _, h.bel.setCell (p := ⟨s, 9, none⟩) h.bs _, h.bs, h.bo, h.bl, h.bp, h.ol, h.op_, h.lp⟩
theorem SrAt.drew (h : SrAt w0 w s go gl gp n v0 v1 v2 v3 v4 st vo vc) : SrAt w0 w.drew s go gl gp n v0 v1 v2 v3 v4 st vo vc :=
  ⟨h.blk, h.ord, h.low, h.part, h.nord, h.nlow, h.npart, Kd.R_drew h.opn, Kd.R_drew h.cls, h.bel.drew, h.bs, h.bo, h.bl, h.bp, h.ol, h.op_, h.lp⟩
theorem SrAt.ltO (h : SrAt w0 w s go gl gp n v0 v1 v2 v3 v4 st vo vc) : ∀ k, w.heap.size ≤ k → k ≠ go ∧ k ≠ gl ∧ k ≠ gp := by
  intro k hk
  have h1 := blk_lt h.ord
  have h2 := blk_lt h.low
  have h3 := blk_lt h.part
  omega
/-- What an append to the open places leaves in memory. -/
theorem SrAt.grownOpn (h : SrAt w0 w s go gl gp n v0 v1 v2 v3 v4 st vo vc) (hg : w.grownBy w' vo.ownBlock) : w'.heap[s]? = some (.cells #[v0, v1, v2, v3, v4, .slice (some ⟨go, 0, none⟩) n n, .slice (some ⟨gl, 0, none⟩) n n, .slice (some ⟨gp, 0, none⟩) n n, vo, vc, .int .i64 st.met] 56 (0, 0)) :=
  blk_grown h.blk hg (Kd.R_ne h.opn h.blk (by decide))
theorem SrAt.appOpn (h : SrAt w0 w s go gl gp n v0 v1 v2 v3 v4 st vo vc) {v : Value} {xs : List Int} (hr : Kd.R (Kd.int .i64) 3 w' w0.heap.size (fun k => k ≠ go ∧ k ≠ gl ∧ k ≠ gp) v xs) (hb : Below w0.heap.size w0 w') (hg : w.grownBy w' vo.ownBlock) : SrAt w0 (w'.setCell ⟨s, 8, none⟩ v) s go gl gp n v0 v1 v2 v3 v4 { st with opn := xs } v vc :=
  have k := h.grownOpn hg
  have o1 := blk_grown h.ord hg (Kd.R_away h.opn (fun k hk => hk.1))
  have o2 := blk_grown h.low hg (Kd.R_away h.opn (fun k hk => hk.2.1))
  have o3 := blk_grown h.part hg (Kd.R_away h.opn (fun k hk => hk.2.2))
  have c1 := Kd.R_over h.cls h.opn (by decide) hg
  ⟨blk_put k 8 _ rfl, OB.of o1 (Below.heap_setCell w' ⟨s, 8, none⟩ _ go (blk_ne o1 k (by decide))), OB.of o2 (Below.heap_setCell w' ⟨s, 8, none⟩ _ gl (blk_ne o2 k (by decide))), OB.of o3 (Below.heap_setCell w' ⟨s, 8, none⟩ _ gp (blk_ne o3 k (by decide))), h.nord, h.nlow, h.npart,
    Kd.R_set hr k (by decide) _ _, Kd.R_set c1 k (by decide) _ _, hb.setCell (p := ⟨s, 8, none⟩) h.bs _, h.bs, h.bo, h.bl, h.bp, h.ol, h.op_, h.lp⟩
theorem SrAt.grownCls (h : SrAt w0 w s go gl gp n v0 v1 v2 v3 v4 st vo vc) (hg : w.grownBy w' vc.ownBlock) : w'.heap[s]? = some (.cells #[v0, v1, v2, v3, v4, .slice (some ⟨go, 0, none⟩) n n, .slice (some ⟨gl, 0, none⟩) n n, .slice (some ⟨gp, 0, none⟩) n n, vo, vc, .int .i64 st.met] 56 (0, 0)) :=
  blk_grown h.blk hg (Kd.R_ne h.cls h.blk (by decide))
theorem SrAt.appCls (h : SrAt w0 w s go gl gp n v0 v1 v2 v3 v4 st vo vc) {v : Value} {xs : List S64} (hr : Kd.R k64 64 w' w0.heap.size (fun _ => True) v xs) (hb : Below w0.heap.size w0 w') (hg : w.grownBy w' vc.ownBlock) : SrAt w0 (w'.setCell ⟨s, 9, none⟩ v) s go gl gp n v0 v1 v2 v3 v4 { st with calls := xs } vo v :=
  have k := h.grownCls hg
  have o1 := blk_grown h.ord hg (Kd.R_ne h.cls h.ord (by decide))
  have o2 := blk_grown h.low hg (Kd.R_ne h.cls h.low (by decide))
  have o3 := blk_grown h.part hg (Kd.R_ne h.cls h.part (by decide))
  have c1 := Kd.R_over h.opn h.cls (by decide) hg
  ⟨blk_put k 9 _ rfl, OB.of o1 (Below.heap_setCell w' ⟨s, 9, none⟩ _ go (blk_ne o1 k (by decide))), OB.of o2 (Below.heap_setCell w' ⟨s, 9, none⟩ _ gl (blk_ne o2 k (by decide))), OB.of o3 (Below.heap_setCell w' ⟨s, 9, none⟩ _ gp (blk_ne o3 k (by decide))), h.nord, h.nlow, h.npart,
    Kd.R_set c1 k (by decide) _ _, Kd.R_set hr k (by decide) _ _, hb.setCell (p := ⟨s, 9, none⟩) h.bs _, h.bs, h.bo, h.bl, h.bp, h.ol, h.op_, h.lp⟩
end

end Go.Proofs.Ytpkigkmkolbiiaa.P
end
section
namespace Go.Proofs.Ytpkigkmkolbiiaa.P
open Go.RowKit Go.Proofs.YtpkigkmkolbiiaaW.PrintWords Go.Proofs.YtpkigkmkolbiiaaW.PrintLast Go.Proofs.YtpkigkmkolbiiaaW.PrintMore Go.Proofs.Ytpkigkmkolbiiaa.G
attribute [local go_sem] max2_int min2_int max_two min_two max_three min_three max_four min_four   -- for this text's walks alone
set_option linter.unusedVariables false
set_option linter.unusedSimpArgs false

--IMPORT FSearchAt
--IMPORT Derived.WalkSpells
--IMPORT Derived.StillTailTactics
/-! ### search_enter: function 19 -/
def search_enter.st (st : SrSt) (i : Int) : SrSt := { order := st.order.set i.toNat (wrap64 (st.met + 1)), low := st.low.set i.toNat (wrap64 (st.met + 1)), part := st.part, opn := st.opn ++ [i], calls := st.calls ++ [⟨i, 0⟩], met := wrap64 (st.met + 1) }
set_option maxHeartbeats 8000000 in
set_option maxRecDepth 100000 in
theorem search_enter.calls (w0 : World) (s go gl gp n : Nat) (v0 v1 v2 v3 v4 vo vc : Value) (st : SrSt) (i : Int) (h0 : 0 ≤ i) (h1 : i < (n : Int)) (ho : st.opn.length ≤ 1000000) (hc : st.calls.length ≤ 1000000) (w : World) (hv : SrAt w0 w s go gl gp n v0 v1 v2 v3 v4 st vo vc) :
    Calls Try.prog 19 #[.pointer (some ⟨s, 0, none⟩), .int .i64 i] w fun e w' => e = .returned (.tuple #[]) ∧ ∃ vo' vc', SrAt w0 w' s go gl gp n v0 v1 v2 v3 v4 (search_enter.st st i) vo' vc' := by
  have info := (by kernel_rfl : (Try.prog.info? 3).map (fun i => (i.zero, i.size, i.bytes)) = some (some (.int .i64 0), 1, 8))
  have infoF := (by kernel_rfl : (Try.prog.info? 64).map (fun i => (i.zero, i.size, i.bytes)) = some (some (.agg #[(.int .i64 0), (.int .i64 0)]), 2, 16))
  have HV := Aside0.mk hv
  have LO := Aside0.mk ho
  have LC := Aside0.mk hc
  clear hv ho hc
  obtain ⟨Ao, co, rfl⟩ := Kd.R_slice HV.out.opn
  obtain ⟨Ac, cc, rfl⟩ := Kd.R_slice HV.out.cls
  have hm : w.cell? ⟨s, 10, none⟩ = some (.int .i64 st.met) := (blk_cell HV.out.blk 10).trans rfl
  have fm := blk_frozen HV.out.blk 10
  have q0 := eq_true h0
  have q1 := eq_true h1
  have P0 := Aside0.mk h0
  have P1 := Aside0.mk h1
  clear h0 h1
  go_enter Try.func19, Try.ntmps19
  go_wp2_with (first | ((with_reducible refine gate_store (t := 3) (p := 10) (v := .tmp 8) rfl ?_); go_must (refine store_event (t := 3) (p := 10) (v := .tmp 8) (w1 := (w.setCell ⟨s, 10, none⟩ (.int .i64 (wrap64 (st.met + 1))))) ?hg ?ho ?hn ?hr ?_; (case ho => rfl); (case hg => rfl); (case hn => rfl); (case hr => first | (go_simp; done) | (go_simp; rfl)); intro w1 hw; have HV1 := Aside0.mk (show SrAt w0 w1 s go gl gp n v0 v1 v2 v3 v4 { st with met := wrap64 (st.met + 1) } _ _ by rw [hw]; exact HV.out.setMet _); clear hw)))
  have h15 : w1.cell? ⟨s, 5, none⟩ = some (.slice (some ⟨go, 0, none⟩) n n) := (blk_cell HV1.out.blk 5).trans rfl
  have h16 : w1.cell? ⟨s, 6, none⟩ = some (.slice (some ⟨gl, 0, none⟩) n n) := (blk_cell HV1.out.blk 6).trans rfl
  have h110 : w1.cell? ⟨s, 10, none⟩ = some (.int .i64 (wrap64 (st.met + 1))) := (blk_cell HV1.out.blk 10).trans rfl
  have ho1 := HV1.out.ord.cell i P0.out (by rw [HV1.out.nord]; exact P1.out)
  have hl1 := HV1.out.low.cell i P0.out (by rw [HV1.out.nlow]; exact P1.out)
  have fo1 := blk_frozen HV1.out.ord i.toNat
  have fl1 := blk_frozen HV1.out.low i.toNat
  have nol := HV1.out.ol
  have nlo := nol.symm
  have nso := blk_ne HV1.out.blk HV1.out.ord (by decide)
  have nsl := blk_ne HV1.out.blk HV1.out.low (by decide)
  go_region
  generalize hq2 : ((w1.setCell ⟨go, i.toNat, none⟩ (.int .i64 (wrap64 (st.met + 1)))).setCell ⟨gl, i.toNat, none⟩ (.int .i64 (wrap64 (st.met + 1)))).drew = w2
  have HV2 := Aside0.mk (show SrAt w0 w2 s go gl gp n v0 v1 v2 v3 v4 { order := st.order.set i.toNat (wrap64 (st.met + 1)), low := st.low.set i.toNat (wrap64 (st.met + 1)), part := st.part, opn := st.opn, calls := st.calls, met := wrap64 (st.met + 1) } (.slice Ao st.opn.length co) (.slice Ac st.calls.length cc) by rw [← hq2]; exact ((HV1.out.setOrd i _).setLow i _).drew)
  clear hq2 h15 h16 h110 ho1 hl1 fo1 fl1
  have h28 : w2.cell? ⟨s, 8, none⟩ = some (.slice Ao st.opn.length co) := (blk_cell HV2.out.blk 8).trans rfl
  go_wp2_with (first | ((with_reducible refine gate_builtin (b := .append) (xs := #[.tmp 35, .tmp 37]) rfl ?_); at_builtin; go_must (refine Kd.R_append (Kd.int .i64) (w0 := w0) w0.heap.size rfl (.tmp 35) (.tmp 37) 23 3 (.int .i64 0) 8 rfl Try.underlying23 info rfl (by decide) (by omega) (.slice Ao st.opn.length co) st.opn i [.int .i64 i] (fun k => k ≠ go ∧ k ≠ gl ∧ k ≠ gp) (fun _ => False) rfl rfl ?aP (fun _ hk => hk.elim) ?aF ?aO ?aB ?aS ?aL ?_; (case aP => exact rfl); (case aF => exact HV2.out.ltO); (case aO => exact HV2.out.opn); (case aB => exact HV2.out.bel); (case aS => exact below_size HV2.out.bel); (case aL => have := LO.out; omega); intro vo' w3 ho hb hg hat; obtain ⟨Ao', co', rfl⟩ := Kd.R_slice ho; have HR := Aside0.mk ho; have HB := Aside0.mk hb; have HG := Aside0.mk hg; clear ho hb hg hat; have h38 : w3.cell? ⟨s, 8, none⟩ = some (.slice Ao st.opn.length co) := (blk_cell (HV2.out.grownOpn HG.out) 8).trans rfl; have f38 := blk_frozen (HV2.out.grownOpn HG.out) 8)) | ((with_reducible refine gate_store (t := 23) (p := 40) (v := .tmp 38) rfl ?_); go_must (refine store_event (t := 23) (p := 40) (v := .tmp 38) (w1 := (w3.setCell ⟨s, 8, none⟩ (.slice Ao' (st.opn ++ [i]).length co'))) ?hg ?ho ?hn ?hr ?_; (case ho => rfl); (case hg => rfl); (case hn => rfl); (case hr => first | (go_simp; done) | (go_simp; rfl)); intro w4 hw; have HV4 := Aside0.mk (show SrAt w0 w4 s go gl gp n v0 v1 v2 v3 v4 { order := st.order.set i.toNat (wrap64 (st.met + 1)), low := st.low.set i.toNat (wrap64 (st.met + 1)), part := st.part, opn := st.opn ++ [i], calls := st.calls, met := wrap64 (st.met + 1) } _ (.slice Ac st.calls.length cc) by rw [hw]; exact HV2.out.appOpn HR.out HB.out HG.out); clear hw; have h49 : w4.cell? ⟨s, 9, none⟩ = some (.slice Ac st.calls.length cc) := (blk_cell HV4.out.blk 9).trans rfl)) | ((with_reducible refine gate_builtin (b := .append) (xs := #[.tmp 45, .tmp 48]) rfl ?_); at_builtin; go_must (refine Kd.R_append k64 (w0 := w0) w0.heap.size rfl (.tmp 45) (.tmp 48) 54 64 (.agg #[(.int .i64 0), (.int .i64 0)]) 16 rfl Try.underlying54 infoF rfl (by decide) (by omega) (.slice Ac st.calls.length cc) st.calls (⟨i, 0⟩ : S64) [.int .i64 i, .int .i64 0] (fun _ => True) (fun _ => False) rfl rfl ?aP (fun _ hk => hk.elim) ?aF ?aO ?aB ?aS ?aL ?_; (case aP => exact k64_mkM _ _ _ (⟨i, 0⟩ : S64)); (case aF => exact (fun _ _ => trivial)); (case aO => exact HV4.out.cls); (case aB => exact HV4.out.bel); (case aS => exact below_size HV4.out.bel); (case aL => have := LC.out; omega); intro vc' w5 ho hb hg hat; obtain ⟨Ac', cc', rfl⟩ := Kd.R_slice ho; replace ho : Kd.R k64 64 w5 w0.heap.size (fun _ => True) (.slice Ac' (st.calls.length + 1) cc') (st.calls ++ [(⟨i, 0⟩ : S64)]) := (by rw [List.length_append] at ho; exact ho); have HRc := Aside0.mk ho; have HBc := Aside0.mk hb; have HGc := Aside0.mk hg; clear ho hb hg hat; have h59 : w5.cell? ⟨s, 9, none⟩ = some (.slice Ac st.calls.length cc) := (blk_cell (HV4.out.grownCls HGc.out) 9).trans rfl; have f59 := blk_frozen (HV4.out.grownCls HGc.out) 9)))
  go_end0
  exact ⟨rfl, _, _, HV4.out.appCls HRc.out HBc.out HGc.out⟩

end Go.Proofs.Ytpkigkmkolbiiaa.P
end
section
namespace Go.Proofs.Ytpkigkmkolbiiaa.Q
open Go.RowKit Go.Proofs.YtpkigkmkolbiiaaW.PrintWords Go.Proofs.YtpkigkmkolbiiaaW.PrintMore Go.Proofs.Ytpkigkmkolbiiaa.P
set_option linter.unusedVariables false
theorem w64 {n : Int} (h0 : -9223372036854775808 ≤ n) (h1 : n ≤ 9223372036854775807) : wrap64 n = n := by unfold wrap64; omega
theorem wf64 {n : Int} (h : (Lit.int .i64 n).wf = true) : -9223372036854775808 ≤ n ∧ n ≤ 9223372036854775807 := bounds_i64 h
def pk (n m : Int) : Int := (if n < 0 then -(n + 1) else n) % m
theorem pk_lo (n : Int) {m : Int} (h : 0 < m) : 0 ≤ pk n m := Int.emod_nonneg _ (by omega)
theorem pk_hi (n : Int) {m : Int} (h : 0 < m) : pk n m < m := Int.emod_lt_of_pos _ h
theorem picked_is {n m : Int} (hn : (Lit.int .i64 n).wf = true) (hm : 0 < m) : foretellkeep_picked.f n m = some (pk n m) := by
  obtain ⟨h0, h1⟩ := wf64 hn
  unfold foretellkeep_picked.f pk
  by_cases c : n < 0
  · rw [if_pos c, if_neg (by omega), if_pos c, w64 (n := n + 1) (by omega) (by omega), w64 (n := -(n + 1)) (by omega) (by omega), Int.tmod_eq_emod_of_nonneg (by omega)]
  · rw [if_neg c, if_neg (by omega), if_neg c, Int.tmod_eq_emod_of_nonneg (by omega)]
theorem rd_eq {l : List Int} {i : Nat} (h : i < l.length) : rd l (i : Int) = l[i] := by
  unfold rd
  rw [Int.toNat_natCast, List.getD_eq_getElem?_getD, List.getElem?_eq_getElem h]
  rfl
theorem mn_eq (a b : Int) : mn a b = min a b := by unfold mn; omega
end Go.Proofs.Ytpkigkmkolbiiaa.Q
end
section
/- How a law's arguments, whatever their type is made of (numbers, truths, texts, slices, structs, short arrays), read as the printed kinds. Nothing of the program stands here. -/
namespace Go.Proofs.Ytpkigkmkolbiiaa.O
open Go.RowKit Go.Deep Go.Proofs.YtpkigkmkolbiiaaW.PrintWords Go.Proofs.YtpkigkmkolbiiaaW.PrintLast Go.Proofs.YtpkigkmkolbiiaaW.PrintMore
set_option linter.unusedVariables false
variable {P : Program}

/-- What reads as data of type t reads as kind d, and is well formed. -/
def Opens (P : Program) (t : TypeId) {α : Type} (d : Kd α) (wf : α → Prop) : Prop :=
  ∀ {H : Type} {enc : TypeId × Value → H} {w : World} {base : Nat} {spare : Nat → Bool} {held : Bool} {fuel : Nat} {cs : List Value} {x : DataW H × List MemPlace},
    DataW.trod enc P w base spare held fuel t cs = some x → ∃ a, d.K w a cs ∧ wf a

theorem opens_int {t : TypeId} {k : IntKind} (ht : P.underlying t = some (.int k)) : Opens P t (Kd.int k) (fun n => (Lit.int k n).wf = true) := by
  intro H enc w base spare held fuel cs x h
  obtain ⟨n, rfl, _, hw⟩ := DataW.trod_int ht h
  exact ⟨n, rfl, hw⟩
theorem opens_bool {t : TypeId} (ht : P.underlying t = some .bool) : Opens P t Kd.bool (fun _ => True) := by
  intro H enc w base spare held fuel cs x h
  obtain ⟨n, rfl, _⟩ := DataW.trod_bool ht h
  exact ⟨n, rfl, trivial⟩
theorem opens_string {t : TypeId} (ht : P.underlying t = some .string) : Opens P t Kd.string (fun s => s.size ≤ maxLen) := by
  intro H enc w base spare held fuel cs x h
  obtain ⟨n, rfl, _, hw⟩ := DataW.trod_string ht h
  exact ⟨n, rfl, hw⟩
theorem opens_iso {t : TypeId} {α β : Type} {d : Kd α} {wf : α → Prop} (h : Opens P t d wf) (f : β → α) (g : α → β) (hg : ∀ a, f (g a) = a) : Opens P t (Kd.iso d f) (fun b => wf (f b)) := by
  intro H enc w base spare held fuel cs x hx
  obtain ⟨a, ha, hw⟩ := h hx
  exact ⟨g a, by show d.K w (f (g a)) cs; rw [hg]; exact ha, by show wf (f (g a)); rw [hg]; exact hw⟩
theorem opens_slice {t e : TypeId} {α : Type} {d : Kd α} {wf : α → Prop} (ht : P.underlying t = some (.slice e)) (hc : P.cellsOf e = d.sz) (h : Opens P e d wf) :
    Opens P t (Kd.slice e d) (fun l => l.length ≤ maxLen ∧ ∀ a ∈ l, wf a) := by
  intro H enc w base spare held fuel cs x hx
  rcases open_slice ht hx with ⟨rfl, _⟩ | ⟨ad, len, cap, m, n, D, Pl, rfl, hb, hl, hm, hmm, _, hel⟩
  · exact ⟨[], ⟨none, 0, rfl, Nat.le_refl _, rfl, by simp, fun hh => absurd hh (Nat.lt_irrefl 0)⟩, by simp, fun a ha => by simp at ha⟩
  · have hlm : len ≤ m := by rw [hmm]; split <;> omega
    have hex : ∀ i, i < len → ∃ a, (∃ cs', w.cells? base (ad.add (i * P.cellsOf e)) (P.cellsOf e) = some cs' ∧ d.K w a cs') ∧ wf a := by
      intro i hi
      obtain ⟨cs', h1, h2⟩ := hel i (by omega)
      obtain ⟨a, ha, hw⟩ := h h2
      exact ⟨a, ⟨cs', h1, ha⟩, hw⟩
    have hlist : ∀ k, k ≤ len → ∃ l : List α, l.length = k ∧ ∀ (i : Nat) (p : α), l[i]? = some p → (∃ cs', w.cells? base (ad.add (i * P.cellsOf e)) (P.cellsOf e) = some cs' ∧ d.K w p cs') ∧ wf p := by
      intro k
      induction k with
      | zero => intro _; exact ⟨[], rfl, fun i p hp => by simp at hp⟩
      | succ k ih =>
        intro hk
        obtain ⟨l, hll, hl2⟩ := ih (by omega)
        obtain ⟨a, ha⟩ := hex k (by omega)
        refine ⟨l ++ [a], by simp [hll], fun i p hp => ?_⟩
        by_cases hi : i < l.length
        · rw [List.getElem?_append_left hi] at hp; exact hl2 i p hp
        · rw [List.getElem?_append_right (by omega)] at hp
          have hik : i - l.length = 0 := by
            rcases Nat.eq_zero_or_pos (i - l.length) with h0 | h0
            · exact h0
            · obtain ⟨q, hq⟩ : ∃ q, i - l.length = q + 1 := ⟨i - l.length - 1, by omega⟩
              rw [hq] at hp; simp at hp
          rw [hik] at hp
          have : i = k := by omega
          subst this
          obtain rfl : a = p := by simpa using hp
          exact ha
    obtain ⟨l, hll, hl2⟩ := hlist len (Nat.le_refl _)
    refine ⟨l, ⟨some ad, cap, by rw [hll], by omega, rfl, by rw [hll]; have : maxLen = 9223372036854775807 := rfl; omega, fun _ => ⟨ad, rfl, fun j p hj => ?_⟩⟩, by omega, fun a ha => ?_⟩
    · obtain ⟨⟨cs', h1, h2⟩, _⟩ := hl2 j p hj
      obtain ⟨_, hlen, hcell⟩ := World.cells?_some h1
      refine ⟨cs', by rw [hlen, hc], h2, fun i u hu => ?_⟩
      have hi : i < cs'.length := (List.getElem?_eq_some_iff.1 hu).1
      have h3 := hcell i (by omega)
      rw [hu] at h3
      rw [← hc, ← Addr.add_add]
      exact h3
    · obtain ⟨i, hi, rfl⟩ := List.getElem_of_mem ha
      exact (hl2 i _ (List.getElem?_eq_getElem hi)).2

/-- Fields in line from a cell on. -/
def OpensF (P : Program) (off : Nat) (fs : List (TypeId × Nat)) {α : Type} (d : Kd α) (wf : α → Prop) : Prop :=
  ∀ {H : Type} {enc : TypeId × Value → H} {w : World} {base : Nat} {spare : Nat → Bool} {held : Bool} {cs : List Value},
    cs.length = off + d.sz → (∀ (i : Nat) f, fs[i]? = some f → ∃ fuel x, DataW.trod enc P w base spare held fuel f.1 ((cs.drop f.2).take (P.cellsOf f.1)) = some x) → ∃ a, d.K w a (cs.drop off) ∧ wf a
theorem opensF_one {off : Nat} {t : TypeId} {α : Type} {d : Kd α} {wf : α → Prop} (hc : P.cellsOf t = d.sz) (h : Opens P t d wf) : OpensF P off [(t, off)] d wf := by
  intro H enc w base spare held cs hl hf
  obtain ⟨fuel, x, hx⟩ := hf 0 _ rfl
  obtain ⟨a, ha, hw⟩ := h hx
  refine ⟨a, ?_, hw⟩
  rw [List.take_of_length_le (by simp [hl, hc])] at ha
  exact ha
theorem opensF_cons {off off' : Nat} {t : TypeId} {fs : List (TypeId × Nat)} {α β : Type} {d : Kd α} {d' : Kd β} {wf : α → Prop} {wf' : β → Prop} (hc : P.cellsOf t = d.sz) (ho : off' = off + d.sz) (h : Opens P t d wf) (h' : OpensF P off' fs d' wf') :
    OpensF P off ((t, off) :: fs) (Kd.pair d d') (fun x => wf x.1 ∧ wf' x.2) := by
  intro H enc w base spare held cs hl hf
  obtain ⟨fuel, x, hx⟩ := hf 0 _ rfl
  obtain ⟨a, ha, hw⟩ := h hx
  have hl' : cs.length = off + (d.sz + d'.sz) := hl
  obtain ⟨b, hb, hw'⟩ := h' (enc := enc) (w := w) (base := base) (spare := spare) (held := held) (cs := cs) (by omega) (fun i f hi => hf (i + 1) f (by simpa using hi))
  refine ⟨(a, b), ⟨(cs.drop off).take (P.cellsOf t), cs.drop off', ?_, ha, hb⟩, hw, hw'⟩
  rw [hc, ho, ← List.drop_drop, List.take_append_drop]
theorem opens_struct {t : TypeId} {fs : Array Field} {l : List (TypeId × Nat)} {α : Type} {d : Kd α} {wf : α → Prop} (ht : P.underlying t = some (.struct fs)) (hl : fs.toList.map (fun f => (f.type, f.offset)) = l) (hc : P.cellsOf t = d.sz) (h : OpensF P 0 l d wf) : Opens P t d wf := by
  intro H enc w base spare held fuel cs x hx
  obtain ⟨xs, n, _, _, hlen, hxs, hf⟩ := DataW.trod_struct ht hx
  have := h (enc := enc) (w := w) (base := base) (spare := spare) (held := held) (cs := cs) (by omega) (fun i f hi => by
    rw [← hl, List.getElem?_map] at hi
    obtain ⟨f', hf', rfl⟩ := Option.map_eq_some_iff.1 hi
    have hi2 : fs[i]? = some f' := by simpa using hf'
    have hil : i < fs.size := (Array.getElem?_eq_some_iff.1 hi2).1
    exact ⟨n, xs[i]'(by omega), by rw [hf i f' hi2]; exact List.getElem?_eq_getElem _⟩)
  simpa using this
theorem opens_array {t e : TypeId} {n : Nat} {l : List (TypeId × Nat)} {α : Type} {d : Kd α} {wf : α → Prop} (ht : P.underlying t = some (.array n e)) (hl : (List.range n).map (fun i => (e, i * P.cellsOf e)) = l) (hc : P.cellsOf t = d.sz) (h : OpensF P 0 l d wf) : Opens P t d wf := by
  intro H enc w base spare held fuel cs x hx
  cases fuel with
  | zero => simp [DataW.trod] at hx
  | succ m =>
    unfold DataW.trod at hx
    rw [ht] at hx
    split at hx <;> simp_all
    obtain ⟨hlen, xs, hp, _⟩ := hx
    have := h (enc := enc) (w := w) (base := base) (spare := spare) (held := held) (cs := _) (by rw [hlen]; omega) (fun i f hi => by
      rw [← hl, List.getElem?_map] at hi
      obtain ⟨i', hi', rfl⟩ := Option.map_eq_some_iff.1 hi
      obtain ⟨h1, h2⟩ := List.getElem?_eq_some_iff.1 hi'
      have hxl := mapM_some_length hp
      have h3 : i = i' := by simpa using h2
      subst h3
      have hg := mapM_some_get hp i i hi'
      exact ⟨m, xs[i]'(by rw [hxl]; exact h1), by rw [hg]; exact List.getElem?_eq_getElem _⟩)
    simpa using this

theorem okWide_struct {t : TypeId} {fs : Array Field} {W : World} {r : Reach} {b0 : Nat} {v : Value} (ht : P.underlying t = some (.struct fs)) (h : Value.okWide P W r b0 t v) : ∃ xs : Array Value, v = .agg xs := by
  simp only [Value.okWide, ht] at h
  obtain ⟨cs, h1, _⟩ := h
  exact ⟨cs, h1⟩
theorem okWide_array {t e : TypeId} {n : Nat} {W : World} {r : Reach} {b0 : Nat} {v : Value} (ht : P.underlying t = some (.array n e)) (h : Value.okWide P W r b0 t v) : ∃ xs : Array Value, v = .agg xs := by
  simp only [Value.okWide, ht] at h
  obtain ⟨cs, h1, _⟩ := h
  exact ⟨cs, h1⟩
theorem slice_inj {a A : Option Addr} {n c m d : Nat} (h : (Value.slice a n c).cells.toList = [.slice A m d]) : a = A ∧ n = m ∧ c = d := by
  simpa [Value.cells] using h
theorem agg_inj {xs : Array Value} {l : List Value} (h : (Value.agg xs).cells.toList = l) : xs = l.toArray := by
  have h2 : xs.toList = l := h
  rw [← h2]
theorem agg_of {xs : Array Value} {l : List Value} (h : (Value.agg xs).cells.toList = l) : (Value.agg xs) = .agg l.toArray := by
  have h2 : xs.toList = l := h
  rw [← h2]
theorem slice_of {a : Option Addr} {n c : Nat} {v : Value} (h : (Value.slice a n c).cells.toList = [v]) : (Value.slice a n c) = v := by
  simpa [Value.cells] using h
theorem one_of {v u : Value} (h : v.cells.toList = [u]) (hv : v.cells.toList = [v]) : v = u := by
  rw [hv] at h
  simpa using h
end Go.Proofs.Ytpkigkmkolbiiaa.O
end
