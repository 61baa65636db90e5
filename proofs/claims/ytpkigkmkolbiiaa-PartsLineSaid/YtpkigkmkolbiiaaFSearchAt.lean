-- a walk, laid out by a program of this repo over the seat's translation
import Derived.Test.YtpkigkmkolbiiaaF0
import Derived.WalkSpells
namespace Go.Proofs.Ytpkigkmkolbiiaa.P
open Go.RowKit Go.Proofs.YtpkigkmkolbiiaaW.PrintWords Go.Proofs.YtpkigkmkolbiiaaW.PrintLast Go.Proofs.YtpkigkmkolbiiaaW.PrintMore Go.Proofs.Ytpkigkmkolbiiaa.G
attribute [local go_sem] max2_int min2_int max_two min_two max_three min_three max_four min_four   -- for this text's walks alone
set_option linter.unusedVariables false
set_option linter.unusedSimpArgs false

--IMPORT Derived.WalkSpells
/-! ### search_at: function 19 -/
theorem addr_at (g k : Nat) : (⟨g, 0, none⟩ : Addr).add k = ⟨g, k, none⟩ := by
  cases k <;> simp [Addr.add]
/-- A row of numbers that fills its block. -/
def OB (w : World) (g : Nat) (xs : List Int) : Prop := w.heap[g]? = some (.cells (xs.map (Value.int .i64)).toArray 3 (0, 0))
section
variable {w w' w0 : World} {g : Nat} {xs : List Int}
theorem OB.of (h : OB w g xs) (e : w'.heap[g]? = w.heap[g]?) : OB w' g xs := e.trans h
theorem OB.cell (h : OB w g xs) (i : Int) (h0 : 0 ≤ i) (h1 : i < (xs.length : Int)) : w.cell? ⟨g, i.toNat, none⟩ = some (.int .i64 (rd xs i)) := by
  have e := blk_cell h i.toNat
  rw [e]
  have hl : i.toNat < xs.length := by omega
  simp [rd, hl]
theorem OB.put (h : OB w g xs) (i : Int) (x : Int) : OB (w.setCell ⟨g, i.toNat, none⟩ (.int .i64 x)) g (xs.set i.toNat x) := by
  unfold OB
  exact blk_put h i.toNat _ (by simp [List.map_set])
end
/-- What changes in a search. -/
structure SrSt where
  order : List Int
  low : List Int
  part : List Int
  opn : List Int
  calls : List S64
  met : Int
/-- A search in memory: its graph's five cells (v0 ..), the blocks of its three rows of n numbers. -/
structure SrAt (w0 w : World) (s go gl gp n : Nat) (v0 v1 v2 v3 v4 : Value) (st : SrSt) (vo vc : Value) : Prop where
  blk : w.heap[s]? = some (.cells #[v0, v1, v2, v3, v4, .slice (some ⟨go, 0, none⟩) n n, .slice (some ⟨gl, 0, none⟩) n n, .slice (some ⟨gp, 0, none⟩) n n, vo, vc, .int .i64 st.met] 56 (0, 0))
  ord : OB w go st.order
  low : OB w gl st.low
  part : OB w gp st.part
  nord : st.order.length = n
  nlow : st.low.length = n
  npart : st.part.length = n
  opn : Kd.R (Kd.int .i64) 3 w w0.heap.size (fun k => k ≠ go ∧ k ≠ gl ∧ k ≠ gp) vo st.opn
  cls : Kd.R k64 64 w w0.heap.size (fun _ => True) vc st.calls
  bel : Below w0.heap.size w0 w
  bs : w0.heap.size ≤ s
  bo : w0.heap.size ≤ go
  bl : w0.heap.size ≤ gl
  bp : w0.heap.size ≤ gp
  ol : go ≠ gl
  op_ : go ≠ gp
  lp : gl ≠ gp
section
variable {w0 w w' : World} {s go gl gp n : Nat} {v0 v1 v2 v3 v4 vo vc : Value} {st : SrSt}
theorem SrAt.drewN (h : SrAt w0 w s go gl gp n v0 v1 v2 v3 v4 st vo vc) (m : Nat) : SrAt w0 (w.drewN m) s go gl gp n v0 v1 v2 v3 v4 st vo vc :=
  ⟨h.blk, h.ord, h.low, h.part, h.nord, h.nlow, h.npart, Kd.R_drewN h.opn m, Kd.R_drewN h.cls m, pw_below_drewN h.bel m, h.bs, h.bo, h.bl, h.bp, h.ol, h.op_, h.lp⟩
/-- A number of 'order' is set. -/
theorem SrAt.setOrd (h : SrAt w0 w s go gl gp n v0 v1 v2 v3 v4 st vo vc) (i x : Int) : SrAt w0 (w.setCell ⟨go, i.toNat, none⟩ (.int .i64 x)) s go gl gp n v0 v1 v2 v3 v4 { st with order := st.order.set i.toNat x } vo vc :=
  ⟨blk_far (p := ⟨go, i.toNat, none⟩) h.blk (blk_ne h.blk h.ord (by decide)) _, h.ord.put i x, h.low.of (Below.heap_setCell w ⟨go, i.toNat, none⟩ _ gl h.ol.symm), h.part.of (Below.heap_setCell w ⟨go, i.toNat, none⟩ _ gp h.op_.symm), by rw [List.length_set]; exact h.nord, h.nlow, h.npart,
    Kd.R_far (p := ⟨go, i.toNat, none⟩) h.opn (fun k hk => hk.1) _, Kd.R_set h.cls h.ord (by decide) _ _, h.bel.setCell (p := ⟨go, i.toNat, none⟩) h.bo _, h.bs, h.bo, h.bl, h.bp, h.ol, h.op_, h.lp⟩
theorem SrAt.setLow (h : SrAt w0 w s go gl gp n v0 v1 v2 v3 v4 st vo vc) (i x : Int) : SrAt w0 (w.setCell ⟨gl, i.toNat, none⟩ (.int .i64 x)) s go gl gp n v0 v1 v2 v3 v4 { st with low := st.low.set i.toNat x } vo vc :=
  ⟨blk_far (p := ⟨gl, i.toNat, none⟩) h.blk (blk_ne h.blk h.low (by decide)) _, h.ord.of (Below.heap_setCell w ⟨gl, i.toNat, none⟩ _ go h.ol), h.low.put i x, h.part.of (Below.heap_setCell w ⟨gl, i.toNat, none⟩ _ gp h.lp.symm), h.nord, by rw [List.length_set]; exact h.nlow, h.npart,
    Kd.R_far (p := ⟨gl, i.toNat, none⟩) h.opn (fun k hk => hk.2.1) _, Kd.R_set h.cls h.low (by decide) _ _, h.bel.setCell (p := ⟨gl, i.toNat, none⟩) h.bl _, h.bs, h.bo, h.bl, h.bp, h.ol, h.op_, h.lp⟩
theorem SrAt.setPart (h : SrAt w0 w s go gl gp n v0 v1 v2 v3 v4 st vo vc) (i x : Int) : SrAt w0 (w.setCell ⟨gp, i.toNat, none⟩ (.int .i64 x)) s go gl gp n v0 v1 v2 v3 v4 { st with part := st.part.set i.toNat x } vo vc :=
  ⟨blk_far (p := ⟨gp, i.toNat, none⟩) h.blk (blk_ne h.blk h.part (by decide)) _, h.ord.of (Below.heap_setCell w ⟨gp, i.toNat, none⟩ _ go h.op_), h.low.of (Below.heap_setCell w ⟨gp, i.toNat, none⟩ _ gl h.lp), h.part.put i x, h.nord, h.nlow, by rw [List.length_set]; exact h.npart,
    Kd.R_far (p := ⟨gp, i.toNat, none⟩) h.opn (fun k hk => hk.2.2) _, Kd.R_set h.cls h.part (by decide) _ _, h.bel.setCell (p := ⟨gp, i.toNat, none⟩) h.bp _, h.bs, h.bo, h.bl, h.bp, h.ol, h.op_, h.lp⟩
theorem SrAt.setMet (h : SrAt w0 w s go gl gp n v0 v1 v2 v3 v4 st vo vc) (x : Int) : SrAt w0 (w.setCell ⟨s, 10, none⟩ (.int .i64 x)) s go gl gp n v0 v1 v2 v3 v4 { st with met := x } vo vc :=
  ⟨blk_put h.blk 10 _ rfl, h.ord.of (Below.heap_setCell w ⟨s, 10, none⟩ _ go (blk_ne h.ord h.blk (by decide))), h.low.of (Below.heap_setCell w ⟨s, 10, none⟩ _ gl (blk_ne h.low h.blk (by decide))), h.part.of (Below.heap_setCell w ⟨s, 10, none⟩ _ gp (blk_ne h.part h.blk (by decide))), h.nord, h.nlow, h.npart,
    Kd.R_set h.opn h.blk (by decide) _ _, Kd.R_set h.cls h.blk (by decide) _ _, h.bel.setCell (p := ⟨s, 10, none⟩) h.bs _, h.bs, h.bo, h.bl, h.bp, h.ol, h.op_, h.lp⟩
/-- The open places' row is another one. -/
theorem SrAt.putOpn (h : SrAt w0 w s go gl gp n v0 v1 v2 v3 v4 st vo vc) {v : Value} {xs : List Int} (hr : Kd.R (Kd.int .i64) 3 w w0.heap.size (fun k => k ≠ go ∧ k ≠ gl ∧ k ≠ gp) v xs) : SrAt w0 (w.setCell ⟨s, 8, none⟩ v) s go gl gp n v0 v1 v2 v3 v4 { st with opn := xs } v vc :=
  ⟨blk_put h.blk 8 _ rfl, h.ord.of (Below.heap_setCell w ⟨s, 8, none⟩ _ go (blk_ne h.ord h.blk (by decide))), h.low.of (Below.heap_setCell w ⟨s, 8, none⟩ _ gl (blk_ne h.low h.blk (by decide))), h.part.of (Below.heap_setCell w ⟨s, 8, none⟩ _ gp (blk_ne h.part h.blk (by decide))), h.nord, h.nlow, h.npart,
    Kd.R_set hr h.blk (by decide) _ _, Kd.R_set h.cls h.blk (by decide) _ _, h.bel.setCell (p := ⟨s, 8, none⟩) h.bs _, h.bs, h.bo, h.bl, h.bp, h.ol, h.op_, h.lp⟩
theorem SrAt.putCls (h : SrAt w0 w s go gl gp n v0 v1 v2 v3 v4 st vo vc) {v : Value} {xs : List S64} (hr : Kd.R k64 64 w w0.heap.size (fun _ => True) v xs) : SrAt w0 (w.setCell ⟨s, 9, none⟩ v) s go gl gp n v0 v1 v2 v3 v4 { st with calls := xs } vo v :=
  ⟨blk_put h.blk 9 _ rfl, h.ord.of (Below.heap_setCell w ⟨s, 9, none⟩ _ go (blk_ne h.ord h.blk (by decide))), h.low.of (Below.heap_setCell w ⟨s, 9, none⟩ _ gl (blk_ne h.low h.blk (by decide))), h.part.of (Below.heap_setCell w ⟨s, 9, none⟩ _ gp (blk_ne h.part h.blk (by decide))), h.nord, h.nlow, h.npart,
    Kd.R_set h.opn h.blk (by decide) _ _, Kd.R_set hr h.blk (by decide) _ _, h.bel.setCell (p := ⟨s, 9, none⟩) h.bs _, h.bs, h.bo, h.bl, h.bp, h.ol, h.op_, h.lp⟩
theorem SrAt.drew (h : SrAt w0 w s go gl gp n v0 v1 v2 v3 v4 st vo vc) : SrAt w0 w.drew s go gl gp n v0 v1 v2 v3 v4 st vo vc :=
  ⟨h.blk, h.ord, h.low, h.part, h.nord, h.nlow, h.npart, Kd.R_drew h.opn, Kd.R_drew h.cls, h.bel.drew, h.bs, h.bo, h.bl, h.bp, h.ol, h.op_, h.lp⟩
theorem SrAt.ltO (h : SrAt w0 w s go gl gp n v0 v1 v2 v3 v4 st vo vc) : ∀ k, w.heap.size ≤ k → k ≠ go ∧ k ≠ gl ∧ k ≠ gp := by
  intro k hk
  have h1 := blk_lt h.ord
  have h2 := blk_lt h.low
  have h3 := blk_lt h.part
  omega
/-- What an append to the open places leaves in memory. -/
theorem SrAt.grownOpn (h : SrAt w0 w s go gl gp n v0 v1 v2 v3 v4 st vo vc) (hg : w.grownBy w' vo.ownBlock) : w'.heap[s]? = some (.cells #[v0, v1, v2, v3, v4, .slice (some ⟨go, 0, none⟩) n n, .slice (some ⟨gl, 0, none⟩) n n, .slice (some ⟨gp, 0, none⟩) n n, vo, vc, .int .i64 st.met] 56 (0, 0)) :=
  blk_grown h.blk hg (Kd.R_ne h.opn h.blk (by decide))
theorem SrAt.appOpn (h : SrAt w0 w s go gl gp n v0 v1 v2 v3 v4 st vo vc) {v : Value} {xs : List Int} (hr : Kd.R (Kd.int .i64) 3 w' w0.heap.size (fun k => k ≠ go ∧ k ≠ gl ∧ k ≠ gp) v xs) (hb : Below w0.heap.size w0 w') (hg : w.grownBy w' vo.ownBlock) : SrAt w0 (w'.setCell ⟨s, 8, none⟩ v) s go gl gp n v0 v1 v2 v3 v4 { st with opn := xs } v vc :=
  have k := h.grownOpn hg
  have o1 := blk_grown h.ord hg (Kd.R_away h.opn (fun k hk => hk.1))
  have o2 := blk_grown h.low hg (Kd.R_away h.opn (fun k hk => hk.2.1))
  have o3 := blk_grown h.part hg (Kd.R_away h.opn (fun k hk => hk.2.2))
  have c1 := Kd.R_over h.cls h.opn (by decide) hg
  ⟨blk_put k 8 _ rfl, OB.of o1 (Below.heap_setCell w' ⟨s, 8, none⟩ _ go (blk_ne o1 k (by decide))), OB.of o2 (Below.heap_setCell w' ⟨s, 8, none⟩ _ gl (blk_ne o2 k (by decide))), OB.of o3 (Below.heap_setCell w' ⟨s, 8, none⟩ _ gp (blk_ne o3 k (by decide))), h.nord, h.nlow, h.npart,
    Kd.R_set hr k (by decide) _ _, Kd.R_set c1 k (by decide) _ _, hb.setCell (p := ⟨s, 8, none⟩) h.bs _, h.bs, h.bo, h.bl, h.bp, h.ol, h.op_, h.lp⟩
theorem SrAt.grownCls (h : SrAt w0 w s go gl gp n v0 v1 v2 v3 v4 st vo vc) (hg : w.grownBy w' vc.ownBlock) : w'.heap[s]? = some (.cells #[v0, v1, v2, v3, v4, .slice (some ⟨go, 0, none⟩) n n, .slice (some ⟨gl, 0, none⟩) n n, .slice (some ⟨gp, 0, none⟩) n n, vo, vc, .int .i64 st.met] 56 (0, 0)) :=
  blk_grown h.blk hg (Kd.R_ne h.cls h.blk (by decide))
theorem SrAt.appCls (h : SrAt w0 w s go gl gp n v0 v1 v2 v3 v4 st vo vc) {v : Value} {xs : List S64} (hr : Kd.R k64 64 w' w0.heap.size (fun _ => True) v xs) (hb : Below w0.heap.size w0 w') (hg : w.grownBy w' vc.ownBlock) : SrAt w0 (w'.setCell ⟨s, 9, none⟩ v) s go gl gp n v0 v1 v2 v3 v4 { st with calls := xs } vo v :=
  have k := h.grownCls hg
  have o1 := blk_grown h.ord hg (Kd.R_ne h.cls h.ord (by decide))
  have o2 := blk_grown h.low hg (Kd.R_ne h.cls h.low (by decide))
  have o3 := blk_grown h.part hg (Kd.R_ne h.cls h.part (by decide))
  have c1 := Kd.R_over h.opn h.cls (by decide) hg
  ⟨blk_put k 9 _ rfl, OB.of o1 (Below.heap_setCell w' ⟨s, 9, none⟩ _ go (blk_ne o1 k (by decide))), OB.of o2 (Below.heap_setCell w' ⟨s, 9, none⟩ _ gl (blk_ne o2 k (by decide))), OB.of o3 (Below.heap_setCell w' ⟨s, 9, none⟩ _ gp (blk_ne o3 k (by decide))), h.nord, h.nlow, h.npart,
    Kd.R_set c1 k (by decide) _ _, Kd.R_set hr k (by decide) _ _, hb.setCell (p := ⟨s, 9, none⟩) h.bs _, h.bs, h.bo, h.bl, h.bp, h.ol, h.op_, h.lp⟩
end

end Go.Proofs.Ytpkigkmkolbiiaa.P
