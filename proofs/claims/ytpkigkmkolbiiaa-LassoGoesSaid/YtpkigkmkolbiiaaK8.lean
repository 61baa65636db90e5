-- PACKED by pack.py of this repo: FSearchAt FSearchEnter QGraph QReached QKeepGraph
import Derived.WalkSpells
import Derived.StillTailTactics
import Derived.Test.YtpkigkmkolbiiaaK2
import Derived.Test.YtpkigkmkolbiiaaK7
import Derived.Test.YtpkigkmkolbiiaaK3
import Derived.Test.YtpkigkmkolbiiaaK6
import Derived.Test.YtpkigkmkolbiiaaK4
section
namespace Go.Proofs.Ytpkigkmkolbiiaa.P
open Go.RowKit Go.Proofs.YtpkigkmkolbiiaaW.PrintWords Go.Proofs.YtpkigkmkolbiiaaW.PrintLast Go.Proofs.YtpkigkmkolbiiaaW.PrintMore Go.Proofs.Ytpkigkmkolbiiaa.G
attribute [local go_sem] max2_int min2_int max_two min_two max_three min_three max_four min_four   -- for this text's walks alone
set_option linter.unusedVariables false
set_option linter.unusedSimpArgs false

--IMPORT Derived.WalkSpells
/-! ### search_at: function 19 -/
theorem addr_at (g k : Nat) : (⟨g, 0, none⟩ : Addr).add k = ⟨g, k, none⟩ := by
  cases k <;> simp [Addr.add]
/-- A row of numbers that fills its block. -/
def OB (w : World) (g : Nat) (xs : List Int) : Prop := w.heap[g]? = some (.cells (xs.map (Value.int .i64)).toArray 3 (0, 0))
section
variable {w w' w0 : World} {g : Nat} {xs : List Int}
theorem OB.of (h : OB w g xs) (e : w'.heap[g]? = w.heap[g]?) : OB w' g xs := e.trans h
theorem OB.cell (h : OB w g xs) (i : Int) (h0 : 0 ≤ i) (h1 : i < (xs.length : Int)) : w.cell? ⟨g, i.toNat, none⟩ = some (.int .i64 (rd xs i)) := by
  have e := blk_cell h i.toNat
  rw [e]
  have hl : i.toNat < xs.length := by omega
  simp [rd, hl]
theorem OB.put (h : OB w g xs) (i : Int) (x : Int) : OB (w.setCell ⟨g, i.toNat, none⟩ (.int .i64 x)) g (xs.set i.toNat x) := by
  unfold OB
  exact blk_put h i.toNat _ (by simp [List.map_set])
end
/-- What changes in a search. -/
structure SrSt where
  order : List Int
  low : List Int
  part : List Int
  opn : List Int
  calls : List S64
  met : Int
/-- A search in memory: its graph's five cells (v0 ..), the blocks of its three rows of n numbers. -/
structure SrAt (w0 w : World) (s go gl gp n : Nat) (v0 v1 v2 v3 v4 : Value) (st : SrSt) (vo vc : Value) : Prop where
  blk : w.heap[s]? = some (.cells #[v0, v1, v2, v3, v4, .slice (some ⟨go, 0, none⟩) n n, .slice (some ⟨gl, 0, none⟩) n n, .slice (some ⟨gp, 0, none⟩) n n, vo, vc, .int .i64 st.met] 56 (0, 0))
  ord : OB w go st.order
  low : OB w gl st.low
  part : OB w gp st.part
  nord : st.order.length = n
  nlow : st.low.length = n
  npart : st.part.length = n
  opn : Kd.R (Kd.int .i64) 3 w w0.heap.size (fun k => k ≠ go ∧ k ≠ gl ∧ k ≠ gp) vo st.opn
  cls : Kd.R k64 64 w w0.heap.size (fun _ => True) vc st.calls
  bel : Below w0.heap.size w0 w
  bs : w0.heap.size ≤ s
  bo : w0.heap.size ≤ go
  bl : w0.heap.size ≤ gl
  bp : w0.heap.size ≤ gp
  ol : go ≠ gl
  op_ : go ≠ gp
  lp : gl ≠ gp
section
variable {w0 w w' : World} {s go gl gp n : Nat} {v0 v1 v2 v3 v4 vo vc : Value} {st : SrSt}
theorem SrAt.drewN (h : SrAt w0 w s go gl gp n v0 v1 v2 v3 v4 st vo vc) (m : Nat) : SrAt w0 (w.drewN m) s go gl gp n v0 v1 v2 v3 v4 st vo vc :=
  ⟨h.blk, h.ord, h.low, h.part, h.nord, h.nlow, h.npart, Kd.R_drewN h.opn m, Kd.R_drewN h.cls m, pw_below_drewN h.bel m, h.bs, h.bo, h.bl, h.bp, h.ol, h.op_, h.lp⟩
/-- A number of 'order' is set. -/
theorem SrAt.setOrd (h : SrAt w0 w s go gl gp n v0 v1 v2 v3 v4 st vo vc) (i x : Int) : SrAt w0 (w.setCell ⟨go, i.toNat, none⟩ (.int .i64 x)) s go gl gp n v0 v1 v2 v3 v4 { st with order := st.order.set i.toNat x } vo vc :=
  ⟨blk_far (p := ⟨go, i.toNat, none⟩) h.blk (blk_ne h.blk h.ord (by decide)) _, h.ord.put i x, h.low.of (Below.heap_setCell w ⟨go, i.toNat, none⟩ _ gl h.ol.symm), h.part.of (Below.heap_setCell w ⟨go, i.toNat, none⟩ _ gp h.op_.symm), by rw [List.length_set]; exact h.nord, h.nlow, h.npart,
    Kd.R_far (p := ⟨go, i.toNat, none⟩) h.opn (fun k hk => hk.1) _, Kd.R_set h.cls h.ord (by decide) _ _, h.bel.setCell (p := ⟨go, i.toNat, none⟩) h.bo _, h.bs, h.bo, h.bl, h.bp, h.ol, h.op_, h.lp⟩
theorem SrAt.setLow (h : SrAt w0 w s go gl gp n v0 v1 v2 v3 v4 st vo vc) (i x : Int) : SrAt w0 (w.setCell ⟨gl, i.toNat, none⟩ (.int .i64 x)) s go gl gp n v0 v1 v2 v3 v4 { st with low := st.low.set i.toNat x } vo vc :=
  ⟨blk_far (p := ⟨gl, i.toNat, none⟩) h.blk (blk_ne h.blk h.low (by decide)) _, h.ord.of (Below.heap_setCell w ⟨gl, i.toNat, none⟩ _ go h.ol), h.low.put i x, h.part.of (Below.heap_setCell w ⟨gl, i.toNat, none⟩ _ gp h.lp.symm), h.nord, by rw [List.length_set]; exact h.nlow, h.npart,
    Kd.R_far (p := ⟨gl, i.toNat, none⟩) h.opn (fun k hk => hk.2.1) _, Kd.R_set h.cls h.low (by decide) _ _, h.bel.setCell (p := ⟨gl, i.toNat, none⟩) h.bl _, h.bs, h.bo, h.bl, h.bp, h.ol, h.op_, h.lp⟩
theorem SrAt.setPart (h : SrAt w0 w s go gl gp n v0 v1 v2 v3 v4 st vo vc) (i x : Int) : SrAt w0 (w.setCell ⟨gp, i.toNat, none⟩ (.int .i64 x)) s go gl gp n v0 v1 v2 v3 v4 { st with part := st.part.set i.toNat x } vo vc :=
  ⟨blk_far (p := ⟨gp, i.toNat, none⟩) h.blk (blk_ne h.blk h.part (by decide)) _, h.ord.of (Below.heap_setCell w ⟨gp, i.toNat, none⟩ _ go h.op_), h.low.of (Below.heap_setCell w ⟨gp, i.toNat, none⟩ _ gl h.lp), h.part.put i x, h.nord, h.nlow, by rw [List.length_set]; exact h.npart,
    Kd.R_far (p := ⟨gp, i.toNat, none⟩) h.opn (fun k hk => hk.2.2) _, Kd.R_set h.cls h.part (by decide) _ _, h.bel.setCell (p := ⟨gp, i.toNat, none⟩) h.bp _, h.bs, h.bo, h.bl, h.bp, h.ol, h.op_, h.lp⟩
theorem SrAt.setMet (h : SrAt w0 w s go gl gp n v0 v1 v2 v3 v4 st vo vc) (x : Int) : SrAt w0 (w.setCell ⟨s, 10, none⟩ (.int .i64 x)) s go gl gp n v0 v1 v2 v3 v4 { st with met := x } vo vc :=
  ⟨blk_put h.blk 10 _ rfl, h.ord.of (Below.heap_setCell w ⟨s, 10, none⟩ _ go (blk_ne h.ord h.blk (by decide))), h.low.of (Below.heap_setCell w ⟨s, 10, none⟩ _ gl (blk_ne h.low h.blk (by decide))), h.part.of (Below.heap_setCell w ⟨s, 10, none⟩ _ gp (blk_ne h.part h.blk (by decide))), h.nord, h.nlow, h.npart,
    Kd.R_set h.opn h.blk (by decide) _ _, Kd.R_set h.cls h.blk (by decide) _ _, h.bel.setCell (p := ⟨s, 10, none⟩) h.bs _, h.bs, h.bo, h.bl, h.bp, h.ol, h.op_, h.lp⟩
/-- The open places' row is another one. -/
theorem SrAt.putOpn (h : SrAt w0 w s go gl gp n v0 v1 v2 v3 v4 st vo vc) {v : Value} {xs : List Int} (hr : Kd.R (Kd.int .i64) 3 w w0.heap.size (fun k => k ≠ go ∧ k ≠ gl ∧ k ≠ gp) v xs) : SrAt w0 (w.setCell ⟨s, 8, none⟩ v) s go gl gp n v0 v1 v2 v3 v4 { st with opn := xs } v vc :=
  ⟨blk_put h.blk 8 _ rfl, h.ord.of (Below.heap_setCell w ⟨s, 8, none⟩ _ go (blk_ne h.ord h.blk (by decide))), h.low.of (Below.heap_setCell w ⟨s, 8, none⟩ _ gl (blk_ne h.low h.blk (by decide))), h.part.of (Below.heap_setCell w ⟨s, 8, none⟩ _ gp (blk_ne h.part h.blk (by decide))), h.nord, h.nlow, h.npart,
    Kd.R_set hr h.blk (by decide) _ _, Kd.R_set h.cls h.blk (by decide) _ _, h.bel.setCell (p := ⟨s, 8, none⟩) h.bs _, h.bs, h.bo, h.bl, h.bp, h.ol, h.op_, h.lp⟩
theorem SrAt.putCls (h : SrAt w0 w s go gl gp n v0 v1 v2 v3 v4 st vo vc) {v : Value} {xs : List S64} (hr : Kd.R k64 64 w w0.heap.size (fun _ => True) v xs) : SrAt w0 (w.setCell ⟨s, 9, none⟩ v) s go gl gp n v0 v1 v2 v3 v4 { st with calls := xs } vo v :=
  ⟨blk_put h.blk 9 _ rfl, h.ord.of (Below.heap_setCell w ⟨s, 9, none⟩ _ go (blk_ne h.ord h.blk (by decide))), h.low.of (Below.heap_setCell w ⟨s, 9, none⟩ _ gl (blk_ne h.low h.blk (by decide))), h.part.of (Below.heap_setCell w ⟨s, 9, none⟩ _ gp (blk_ne h.part h.blk (by decide))), h.nord, h.nlow, h.npart,
    Kd.R_set h.opn h.blk (by decide) _ _, Kd.R_set hr h.blk (by decide) _ _, h.bel.setCell (p := ⟨s, 9, none⟩) h.bs _, h.bs, h.bo, h.bl, h.bp, h.ol, h.op_, h.lp⟩
theorem SrAt.drew (h : SrAt w0 w s go gl gp n v0 v1 v2 v3 v4 st vo vc) : SrAt w0 w.drew s go gl gp n v0 v1 v2 v3 v4 st vo vc :=
  ⟨h.blk, h.ord, h.low, h.part, h.nord, h.nlow, h.npart, Kd.R_drew h.opn, Kd.R_drew h.cls, h.bel.drew, h.bs, h.bo, h.bl, h.bp, h.ol, h.op_, h.lp⟩
theorem SrAt.ltO (h : SrAt w0 w s go gl gp n v0 v1 v2 v3 v4 st vo vc) : ∀ k, w.heap.size ≤ k → k ≠ go ∧ k ≠ gl ∧ k ≠ gp := by
  intro k hk
  have h1 := blk_lt h.ord
  have h2 := blk_lt h.low
  have h3 := blk_lt h.part
  omega
/-- What an append to the open places leaves in memory. -/
theorem SrAt.grownOpn (h : SrAt w0 w s go gl gp n v0 v1 v2 v3 v4 st vo vc) (hg : w.grownBy w' vo.ownBlock) : w'.heap[s]? = some (.cells #[v0, v1, v2, v3, v4, .slice (some ⟨go, 0, none⟩) n n, .slice (some ⟨gl, 0, none⟩) n n, .slice (some ⟨gp, 0, none⟩) n n, vo, vc, .int .i64 st.met] 56 (0, 0)) :=
  blk_grown h.blk hg (Kd.R_ne h.opn h.blk (by decide))
theorem SrAt.appOpn (h : SrAt w0 w s go gl gp n v0 v1 v2 v3 v4 st vo vc) {v : Value} {xs : List Int} (hr : Kd.R (Kd.int .i64) 3 w' w0.heap.size (fun k => k ≠ go ∧ k ≠ gl ∧ k ≠ gp) v xs) (hb : Below w0.heap.size w0 w') (hg : w.grownBy w' vo.ownBlock) : SrAt w0 (w'.setCell ⟨s, 8, none⟩ v) s go gl gp n v0 v1 v2 v3 v4 { st with opn := xs } v vc :=
  have k := h.grownOpn hg
  have o1 := blk_grown h.ord hg (Kd.R_away h.opn (fun k hk => hk.1))
  have o2 := blk_grown h.low hg (Kd.R_away h.opn (fun k hk => hk.2.1))
  have o3 := blk_grown h.part hg (Kd.R_away h.opn (fun k hk => hk.2.2))
  have c1 := Kd.R_over h.cls h.opn (by decide) hg
  ⟨blk_put k 8 _ rfl, OB.of o1 (Below.heap_setCell w' ⟨s, 8, none⟩ _ go (blk_ne o1 k (by decide))), OB.of o2 (Below.heap_setCell w' ⟨s, 8, none⟩ _ gl (blk_ne o2 k (by decide))), OB.of o3 (Below.heap_setCell w' ⟨s, 8, none⟩ _ gp (blk_ne o3 k (by decide))), h.nord, h.nlow, h.npart,
    Kd.R_set hr k (by decide) _ _, Kd.R_set c1 k (by decide) _ _, hb.setCell (p := ⟨s, 8, none⟩) h.bs _, h.bs, h.bo, h.bl, h.bp, h.ol, h.op_, h.lp⟩
theorem SrAt.grownCls (h : SrAt w0 w s go gl gp n v0 v1 v2 v3 v4 st vo vc) (hg : w.grownBy w' vc.ownBlock) : w'.heap[s]? = some (.cells #[v0, v1, v2, v3, v4, .slice (some ⟨go, 0, none⟩) n n, .slice (some ⟨gl, 0, none⟩) n n, .slice (some ⟨gp, 0, none⟩) n n, vo, vc, .int .i64 st.met] 56 (0, 0)) :=
  blk_grown h.blk hg (Kd.R_ne h.cls h.blk (by decide))
theorem SrAt.appCls (h : SrAt w0 w s go gl gp n v0 v1 v2 v3 v4 st vo vc) {v : Value} {xs : List S64} (hr : Kd.R k64 64 w' w0.heap.size (fun _ => True) v xs) (hb : Below w0.heap.size w0 w') (hg : w.grownBy w' vc.ownBlock) : SrAt w0 (w'.setCell ⟨s, 9, none⟩ v) s go gl gp n v0 v1 v2 v3 v4 { st with calls := xs } vo v :=
  have k := h.grownCls hg
  have o1 := blk_grown h.ord hg (Kd.R_ne h.cls h.ord (by decide))
  have o2 := blk_grown h.low hg (Kd.R_ne h.cls h.low (by decide))
  have o3 := blk_grown h.part hg (Kd.R_ne h.cls h.part (by decide))
  have c1 := Kd.R_over h.opn h.cls (by decide) hg
  ⟨blk_put k 9 _ rfl, OB.of o1 (Below.heap_setCell w' ⟨s, 9, none⟩ _ go (blk_ne o1 k (by decide))), OB.of o2 (Below.heap_setCell w' ⟨s, 9, none⟩ _ gl (blk_ne o2 k (by decide))), OB.of o3 (Below.heap_setCell w' ⟨s, 9, none⟩ _ gp (blk_ne o3 k (by decide))), h.nord, h.nlow, h.npart,
    Kd.R_set c1 k (by decide) _ _, Kd.R_set hr k (by decide) _ _, hb.setCell (p := ⟨s, 9, none⟩) h.bs _, h.bs, h.bo, h.bl, h.bp, h.ol, h.op_, h.lp⟩
end

end Go.Proofs.Ytpkigkmkolbiiaa.P
end
section
namespace Go.Proofs.Ytpkigkmkolbiiaa.P
open Go.RowKit Go.Proofs.YtpkigkmkolbiiaaW.PrintWords Go.Proofs.YtpkigkmkolbiiaaW.PrintLast Go.Proofs.YtpkigkmkolbiiaaW.PrintMore Go.Proofs.Ytpkigkmkolbiiaa.G
attribute [local go_sem] max2_int min2_int max_two min_two max_three min_three max_four min_four   -- for this text's walks alone
set_option linter.unusedVariables false
set_option linter.unusedSimpArgs false

--IMPORT FSearchAt
--IMPORT Derived.WalkSpells
--IMPORT Derived.StillTailTactics
/-! ### search_enter: function 19 -/
def search_enter.st (st : SrSt) (i : Int) : SrSt := { order := st.order.set i.toNat (wrap64 (st.met + 1)), low := st.low.set i.toNat (wrap64 (st.met + 1)), part := st.part, opn := st.opn ++ [i], calls := st.calls ++ [⟨i, 0⟩], met := wrap64 (st.met + 1) }
set_option maxHeartbeats 8000000 in
set_option maxRecDepth 100000 in
theorem search_enter.calls (w0 : World) (s go gl gp n : Nat) (v0 v1 v2 v3 v4 vo vc : Value) (st : SrSt) (i : Int) (h0 : 0 ≤ i) (h1 : i < (n : Int)) (ho : st.opn.length ≤ 1000000) (hc : st.calls.length ≤ 1000000) (w : World) (hv : SrAt w0 w s go gl gp n v0 v1 v2 v3 v4 st vo vc) :
    Calls Try.prog 19 #[.pointer (some ⟨s, 0, none⟩), .int .i64 i] w fun e w' => e = .returned (.tuple #[]) ∧ ∃ vo' vc', SrAt w0 w' s go gl gp n v0 v1 v2 v3 v4 (search_enter.st st i) vo' vc' := by
  have info := (by kernel_rfl : (Try.prog.info? 3).map (fun i => (i.zero, i.size, i.bytes)) = some (some (.int .i64 0), 1, 8))
  have infoF := (by kernel_rfl : (Try.prog.info? 64).map (fun i => (i.zero, i.size, i.bytes)) = some (some (.agg #[(.int .i64 0), (.int .i64 0)]), 2, 16))
  have HV := Aside0.mk hv
  have LO := Aside0.mk ho
  have LC := Aside0.mk hc
  clear hv ho hc
  obtain ⟨Ao, co, rfl⟩ := Kd.R_slice HV.out.opn
  obtain ⟨Ac, cc, rfl⟩ := Kd.R_slice HV.out.cls
  have hm : w.cell? ⟨s, 10, none⟩ = some (.int .i64 st.met) := (blk_cell HV.out.blk 10).trans rfl
  have fm := blk_frozen HV.out.blk 10
  have q0 := eq_true h0
  have q1 := eq_true h1
  have P0 := Aside0.mk h0
  have P1 := Aside0.mk h1
  clear h0 h1
  go_enter Try.func19, Try.ntmps19
  go_wp2_with (first | ((with_reducible refine gate_store (t := 3) (p := 10) (v := .tmp 8) rfl ?_); go_must (refine store_event (t := 3) (p := 10) (v := .tmp 8) (w1 := (w.setCell ⟨s, 10, none⟩ (.int .i64 (wrap64 (st.met + 1))))) ?hg ?ho ?hn ?hr ?_; (case ho => rfl); (case hg => rfl); (case hn => rfl); (case hr => first | (go_simp; done) | (go_simp; rfl)); intro w1 hw; have HV1 := Aside0.mk (show SrAt w0 w1 s go gl gp n v0 v1 v2 v3 v4 { st with met := wrap64 (st.met + 1) } _ _ by rw [hw]; exact HV.out.setMet _); clear hw)))
  have h15 : w1.cell? ⟨s, 5, none⟩ = some (.slice (some ⟨go, 0, none⟩) n n) := (blk_cell HV1.out.blk 5).trans rfl
  have h16 : w1.cell? ⟨s, 6, none⟩ = some (.slice (some ⟨gl, 0, none⟩) n n) := (blk_cell HV1.out.blk 6).trans rfl
  have h110 : w1.cell? ⟨s, 10, none⟩ = some (.int .i64 (wrap64 (st.met + 1))) := (blk_cell HV1.out.blk 10).trans rfl
  have ho1 := HV1.out.ord.cell i P0.out (by rw [HV1.out.nord]; exact P1.out)
  have hl1 := HV1.out.low.cell i P0.out (by rw [HV1.out.nlow]; exact P1.out)
  have fo1 := blk_frozen HV1.out.ord i.toNat
  have fl1 := blk_frozen HV1.out.low i.toNat
  have nol := HV1.out.ol
  have nlo := nol.symm
  have nso := blk_ne HV1.out.blk HV1.out.ord (by decide)
  have nsl := blk_ne HV1.out.blk HV1.out.low (by decide)
  go_region
  generalize hq2 : ((w1.setCell ⟨go, i.toNat, none⟩ (.int .i64 (wrap64 (st.met + 1)))).setCell ⟨gl, i.toNat, none⟩ (.int .i64 (wrap64 (st.met + 1)))).drew = w2
  have HV2 := Aside0.mk (show SrAt w0 w2 s go gl gp n v0 v1 v2 v3 v4 { order := st.order.set i.toNat (wrap64 (st.met + 1)), low := st.low.set i.toNat (wrap64 (st.met + 1)), part := st.part, opn := st.opn, calls := st.calls, met := wrap64 (st.met + 1) } (.slice Ao st.opn.length co) (.slice Ac st.calls.length cc) by rw [← hq2]; exact ((HV1.out.setOrd i _).setLow i _).drew)
  clear hq2 h15 h16 h110 ho1 hl1 fo1 fl1
  have h28 : w2.cell? ⟨s, 8, none⟩ = some (.slice Ao st.opn.length co) := (blk_cell HV2.out.blk 8).trans rfl
  go_wp2_with (first | ((with_reducible refine gate_builtin (b := .append) (xs := #[.tmp 35, .tmp 37]) rfl ?_); at_builtin; go_must (refine Kd.R_append (Kd.int .i64) (w0 := w0) w0.heap.size rfl (.tmp 35) (.tmp 37) 23 3 (.int .i64 0) 8 rfl Try.underlying23 info rfl (by decide) (by omega) (.slice Ao st.opn.length co) st.opn i [.int .i64 i] (fun k => k ≠ go ∧ k ≠ gl ∧ k ≠ gp) (fun _ => False) rfl rfl ?aP (fun _ hk => hk.elim) ?aF ?aO ?aB ?aS ?aL ?_; (case aP => exact rfl); (case aF => exact HV2.out.ltO); (case aO => exact HV2.out.opn); (case aB => exact HV2.out.bel); (case aS => exact below_size HV2.out.bel); (case aL => have := LO.out; omega); intro vo' w3 ho hb hg hat; obtain ⟨Ao', co', rfl⟩ := Kd.R_slice ho; have HR := Aside0.mk ho; have HB := Aside0.mk hb; have HG := Aside0.mk hg; clear ho hb hg hat; have h38 : w3.cell? ⟨s, 8, none⟩ = some (.slice Ao st.opn.length co) := (blk_cell (HV2.out.grownOpn HG.out) 8).trans rfl; have f38 := blk_frozen (HV2.out.grownOpn HG.out) 8)) | ((with_reducible refine gate_store (t := 23) (p := 40) (v := .tmp 38) rfl ?_); go_must (refine store_event (t := 23) (p := 40) (v := .tmp 38) (w1 := (w3.setCell ⟨s, 8, none⟩ (.slice Ao' (st.opn ++ [i]).length co'))) ?hg ?ho ?hn ?hr ?_; (case ho => rfl); (case hg => rfl); (case hn => rfl); (case hr => first | (go_simp; done) | (go_simp; rfl)); intro w4 hw; have HV4 := Aside0.mk (show SrAt w0 w4 s go gl gp n v0 v1 v2 v3 v4 { order := st.order.set i.toNat (wrap64 (st.met + 1)), low := st.low.set i.toNat (wrap64 (st.met + 1)), part := st.part, opn := st.opn ++ [i], calls := st.calls, met := wrap64 (st.met + 1) } _ (.slice Ac st.calls.length cc) by rw [hw]; exact HV2.out.appOpn HR.out HB.out HG.out); clear hw; have h49 : w4.cell? ⟨s, 9, none⟩ = some (.slice Ac st.calls.length cc) := (blk_cell HV4.out.blk 9).trans rfl)) | ((with_reducible refine gate_builtin (b := .append) (xs := #[.tmp 45, .tmp 48]) rfl ?_); at_builtin; go_must (refine Kd.R_append k64 (w0 := w0) w0.heap.size rfl (.tmp 45) (.tmp 48) 54 64 (.agg #[(.int .i64 0), (.int .i64 0)]) 16 rfl Try.underlying54 infoF rfl (by decide) (by omega) (.slice Ac st.calls.length cc) st.calls (⟨i, 0⟩ : S64) [.int .i64 i, .int .i64 0] (fun _ => True) (fun _ => False) rfl rfl ?aP (fun _ hk => hk.elim) ?aF ?aO ?aB ?aS ?aL ?_; (case aP => exact k64_mkM _ _ _ (⟨i, 0⟩ : S64)); (case aF => exact (fun _ _ => trivial)); (case aO => exact HV4.out.cls); (case aB => exact HV4.out.bel); (case aS => exact below_size HV4.out.bel); (case aL => have := LC.out; omega); intro vc' w5 ho hb hg hat; obtain ⟨Ac', cc', rfl⟩ := Kd.R_slice ho; replace ho : Kd.R k64 64 w5 w0.heap.size (fun _ => True) (.slice Ac' (st.calls.length + 1) cc') (st.calls ++ [(⟨i, 0⟩ : S64)]) := (by rw [List.length_append] at ho; exact ho); have HRc := Aside0.mk ho; have HBc := Aside0.mk hb; have HGc := Aside0.mk hg; clear ho hb hg hat; have h59 : w5.cell? ⟨s, 9, none⟩ = some (.slice Ac st.calls.length cc) := (blk_cell (HV4.out.grownCls HGc.out) 9).trans rfl; have f59 := blk_frozen (HV4.out.grownCls HGc.out) 9)))
  go_end0
  exact ⟨rfl, _, _, HV4.out.appCls HRc.out HBc.out HGc.out⟩

end Go.Proofs.Ytpkigkmkolbiiaa.P
end
section
namespace Go.Proofs.Ytpkigkmkolbiiaa.Q
open Go.RowKit Go.Proofs.YtpkigkmkolbiiaaW.PrintWords Go.Proofs.YtpkigkmkolbiiaaW.PrintMore Go.Proofs.Ytpkigkmkolbiiaa.P
set_option linter.unusedVariables false
inductive Rch (nx : List (List Int)) : Int → Int → Prop
  | refl (a : Int) : Rch nx a a
  | tail {a b c : Int} : Rch nx a b → c ∈ rd_L1 nx b → Rch nx a c
theorem Rch.trans {nx : List (List Int)} {a b c : Int} (h : Rch nx a b) (h2 : Rch nx b c) : Rch nx a c := by
  induction h2 with
  | refl => exact h
  | tail _ hc ih => exact ih.tail hc
def sn (seen : List Bool) (j : Int) : Prop := rdOf false seen j = true
structure Gr (n : Nat) (nx : List (List Int)) : Prop where
  len : nx.length = n
  le : n ≤ 20000
  ok : ∀ a : Int, 0 ≤ a → a < n → ∀ b ∈ rd_L1 nx a, 0 ≤ b ∧ b < n
  len2 : ∀ a : Int, (rd_L1 nx a).length < 4611686018427387904
theorem Rch.rng {n : Nat} {nx : List (List Int)} (g : Gr n nx) {a b : Int} (h : Rch nx a b) (h0 : 0 ≤ a) (h1 : a < n) : 0 ≤ b ∧ b < n := by
  induction h with
  | refl => exact ⟨h0, h1⟩
  | tail _ hc ih => exact g.ok _ ih.1 ih.2 _ hc
structure Wl (n : Nat) (nx : List (List Int)) (S : Int → Prop) (seen : List Bool) (pend : List Int) (y : Int) (rest : List Int) : Prop where
  sl : seen.length = n
  frm : ∀ j : Int, 0 ≤ j → j < n → sn seen j → ∃ s, S s ∧ Rch nx s j
  pnd : ∀ x ∈ pend, 0 ≤ x ∧ x < n ∧ sn seen x
  cls : ∀ j : Int, 0 ≤ j → j < n → sn seen j → ∀ b ∈ rd_L1 nx j, sn seen b ∨ j ∈ pend ∨ (j = y ∧ b ∈ rest)
theorem sn_set {seen : List Bool} {b : Int} (h0 : 0 ≤ b) (h1 : b < seen.length) (j : Int) (hj : 0 ≤ j) : sn (seen.set b.toNat true) j ↔ j = b ∨ sn seen j := by
  unfold sn rdOf
  rw [List.getD_eq_getElem?_getD, List.getD_eq_getElem?_getD, List.getElem?_set]
  by_cases c : b.toNat = j.toNat
  · have e : j = b := by omega
    rw [if_pos c, if_pos (by omega)]
    simp [e]
  · have e : j ≠ b := by omega
    rw [if_neg c]
    simp [e]
theorem sn_true {seen : List Bool} {j : Int} (h : sn seen j) : j.toNat < seen.length := by
  unfold sn rdOf at h
  rw [List.getD_eq_getElem?_getD] at h
  by_cases c : j.toNat < seen.length
  · exact c
  · rw [List.getElem?_eq_none (by omega)] at h
    exact absurd h (by simp)
theorem cnt_set {seen : List Bool} {b : Int} (h1 : b.toNat < seen.length) (h : ¬ sn seen b) : (seen.set b.toNat true).count false + 1 = seen.count false := by
  have e : seen[b.toNat] = false := by
    unfold sn rdOf at h
    rw [List.getD_eq_getElem?_getD, List.getElem?_eq_getElem h1] at h
    simpa using h
  have hp : 0 < seen.count false := List.count_pos_iff.2 (by rw [← e]; exact List.getElem_mem h1)
  rw [List.count_set h1, e]
  simp
  omega
section
variable {n : Nat} {nx : List (List Int)} {S : Int → Prop} {seen : List Bool} {pend pend' : List Int} {y b : Int} {rest : List Int}
theorem Wl.skip (h : Wl n nx S seen pend y (b :: rest)) (hb : sn seen b) : Wl n nx S seen pend y rest := by
  refine ⟨h.sl, h.frm, h.pnd, fun j h0 h1 hj c hc => ?_⟩
  rcases h.cls j h0 h1 hj c hc with h | h | ⟨e, h⟩
  · exact .inl h
  · exact .inr (.inl h)
  · rcases List.mem_cons.mp h with rfl | h
    · exact .inl hb
    · exact .inr (.inr ⟨e, h⟩)
theorem Wl.put (h : Wl n nx S seen pend y (b :: rest)) (h0 : 0 ≤ b) (h1 : b < n) (hr : ∃ s, S s ∧ Rch nx s b) (g : Gr n nx) (hp : ∀ x, x ∈ pend' ↔ x = b ∨ x ∈ pend) : Wl n nx S (seen.set b.toNat true) pend' y rest := by
  have hl : b < seen.length := by rw [h.sl]; exact h1
  refine ⟨by rw [List.length_set]; exact h.sl, fun j j0 j1 hj => ?_, fun x hx => ?_, fun j j0 j1 hj c hc => ?_⟩
  · rcases (sn_set h0 hl j j0).1 hj with rfl | hj
    · exact hr
    · exact h.frm j j0 j1 hj
  · rcases (hp x).1 hx with rfl | hx
    · exact ⟨h0, h1, (sn_set h0 hl _ h0).2 (.inl rfl)⟩
    · obtain ⟨x0, x1, xs⟩ := h.pnd x hx
      exact ⟨x0, x1, (sn_set h0 hl x x0).2 (.inr xs)⟩
  · have hc0 := (g.ok j j0 j1 c hc).1
    rcases (sn_set h0 hl j j0).1 hj with rfl | hj
    · exact .inr (.inl ((hp _).2 (.inl rfl)))
    · rcases h.cls j j0 j1 hj c hc with h | h | ⟨e, h⟩
      · exact .inl ((sn_set h0 hl c hc0).2 (.inr h))
      · exact .inr (.inl ((hp _).2 (.inr h)))
      · rcases List.mem_cons.mp h with rfl | h
        · exact .inl ((sn_set h0 hl _ hc0).2 (.inl rfl))
        · exact .inr (.inr ⟨e, h⟩)
theorem Wl.pop (h : Wl n nx S seen pend y []) (x : Int) (hp : ∀ z, z ∈ pend → z = x ∨ z ∈ pend') (hp2 : ∀ z ∈ pend', z ∈ pend) : Wl n nx S seen pend' x (rd_L1 nx x) := by
  refine ⟨h.sl, h.frm, fun z hz => h.pnd z (hp2 z hz), fun j j0 j1 hj c hc => ?_⟩
  rcases h.cls j j0 j1 hj c hc with h | h | ⟨_, h⟩
  · exact .inl h
  · rcases hp j h with rfl | h
    · exact .inr (.inr ⟨rfl, hc⟩)
    · exact .inr (.inl h)
  · cases h
theorem Wl.done (h : Wl n nx S seen [] y []) (g : Gr n nx) (hS : ∀ s, S s → 0 ≤ s ∧ s < n ∧ sn seen s) (j : Int) (j0 : 0 ≤ j) (j1 : j < n) : sn seen j ↔ ∃ s, S s ∧ Rch nx s j := by
  refine ⟨h.frm j j0 j1, ?_⟩
  rintro ⟨s, hs, hr⟩
  obtain ⟨s0, s1, ss⟩ := hS s hs
  suffices hh : ∀ b, Rch nx s b → sn seen b from hh j hr
  intro b hb
  induction hb with
  | refl => exact ss
  | tail hb hc ih =>
    obtain ⟨b0, b1⟩ := hb.rng g s0 s1
    rcases h.cls _ b0 b1 ih _ hc with h | h | ⟨_, h⟩
    · exact h
    · cases h
    · cases h
end
theorem rdL_eq {nx : List (List Int)} {i : Nat} (h : i < nx.length) : rd_L1 nx (i : Int) = nx[i] := by
  unfold rd_L1
  rw [Int.toNat_natCast, List.getD_eq_getElem?_getD, List.getElem?_eq_getElem h]
  rfl
theorem sn_dec (seen : List Bool) (j : Int) : sn seen j ∨ ¬ sn seen j := by
  unfold sn
  cases rdOf false seen j <;> simp
end Go.Proofs.Ytpkigkmkolbiiaa.Q
end
section
namespace Go.Proofs.Ytpkigkmkolbiiaa.Q
open Go.RowKit Go.Proofs.YtpkigkmkolbiiaaW.PrintWords Go.Proofs.YtpkigkmkolbiiaaW.PrintMore Go.Proofs.Ytpkigkmkolbiiaa.P
set_option linter.unusedVariables false
structure Gs (n : Nat) (sp : List S45) (f : Int) (nx : List (List Int)) (ms : List Int) (many : Int) : Prop where
  gr : Gr n nx
  sp : sp.length = n
  f0 : 0 ≤ f
  f1 : f ≤ n
  ml : ms.length = n
  m0 : 0 ≤ many
  m1 : many ≤ 6
  mr : ∀ i : Int, 0 ≤ i → i < n → 0 ≤ rd ms i ∧ rd ms i < shl .i64 1 many
section
variable {n : Nat} {sp : List S45} {f : Int} {nx : List (List Int)} {ms : List Int} {many : Int}
theorem check_is (g : Gs n sp f nx ms many) : Ev (fun k => scc_Check.f k sp f nx ms many) 0 := by
  have hn := g.gr.le
  have hnl := g.gr.len
  have hsp := g.sp
  have hml := g.ml
  have hf0 := g.f0
  have hf1 := g.f1
  have hm0 := g.m0
  have hm1 := g.m1
  have h0 : ∀ (d i : Nat), i + d = n → Ev (fun k => scc_Check.l0 k (n : Int) nx (n : Int) (i : Int) sp f nx ms many) 0 := by
    intro d
    induction d with
    | zero =>
      intro i hi
      refine Ev.step (f := fun _ => some 0) (fun k => ?_) (Ev.now _)
      simp only [scc_Check.l0]
      rw [if_neg (by omega)]
    | succ d ih =>
      intro i hi
      have h1 : ∀ (e q : Nat), q + e = (rd_L1 nx (i : Int)).length → Ev (fun k => scc_Check.l1 k (n : Int) (i : Int) nx (n : Int) (i : Int) (rd_L1 nx (i : Int)) ((rd_L1 nx (i : Int)).length : Int) (q : Int) sp f nx ms many) 0 := by
        have hl2 := g.gr.len2 (i : Int)
        have hok := g.gr.ok (i : Int) (by omega) (by omega)
        generalize rd_L1 nx (i : Int) = l at *
        intro e
        induction e with
        | zero =>
          intro q hq
          refine Ev.step (f := fun k => scc_Check.l0 k (n : Int) nx (n : Int) ((i + 1 : Nat) : Int) sp f nx ms many) (fun k => ?_) (ih (i + 1) (by omega))
          have hmr := g.mr (i : Int) (by omega) (by omega)
          simp only [scc_Check.l1]
          rw [if_neg (by omega), if_pos (by omega), if_pos (by omega), if_neg (by omega), if_pos hm0, if_neg (by omega), w64 (n := (i : Int) + 1) (by omega) (by omega)]
          rfl
        | succ e ihe =>
          intro q hq
          have hql : q < l.length := by omega
          obtain ⟨b0, b1⟩ := hok l[q] (List.getElem_mem hql)
          refine Ev.step (f := fun k => scc_Check.l1 k (n : Int) (i : Int) nx (n : Int) (i : Int) l (l.length : Int) ((q + 1 : Nat) : Int) sp f nx ms many) (fun k => ?_) (ihe (q + 1) (by omega))
          simp only [scc_Check.l1]
          rw [if_pos (by omega), if_pos (by omega), if_pos (by omega), rd_eq hql, if_neg (by omega), if_neg (by omega), w64 (n := (q : Int) + 1) (by omega) (by omega)]
          rfl
      refine Ev.step (f := fun k => scc_Check.l1 k (n : Int) (i : Int) nx (n : Int) (i : Int) (rd_L1 nx (i : Int)) ((rd_L1 nx (i : Int)).length : Int) ((0 : Nat) : Int) sp f nx ms many) (fun k => ?_) (h1 (rd_L1 nx (i : Int)).length 0 (Nat.zero_add _))
      simp only [scc_Check.l0]
      rw [if_pos (by omega), if_pos (by omega), if_pos (by omega)]
      rfl
  refine Ev.congr (f := fun k => scc_Check.j0 k (n : Int) false sp f nx ms many) (fun k => ?_) (Ev.step (f := fun k => scc_Check.l0 k (n : Int) nx (n : Int) ((0 : Nat) : Int) sp f nx ms many) (fun k => ?_) (h0 n 0 (by omega)))
  · unfold scc_Check.f
    rw [hsp, hnl, hml, if_neg (by omega), if_pos rfl, if_pos rfl, if_neg (by omega), if_neg (by omega), if_neg (by omega), decide_eq_false (by omega)]
  · simp only [scc_Check.j0]
    rw [if_neg (by decide), hnl]
    rfl
theorem Wl.weak {S : Int → Prop} {seen : List Bool} {pend : List Int} {y : Int} (h : Wl n nx S seen pend y []) (y' : Int) (r : List Int) : Wl n nx S seen pend y' r :=
  ⟨h.sl, h.frm, h.pnd, fun j h0 h1 hj b hb => (h.cls j h0 h1 hj b hb).imp id (fun h => h.imp id (fun h => absurd h.2 (by simp)))⟩
section
variable {S : Int → Prop} (g : Gr n nx)
include g
theorem vis_is {seen : List Bool} {pend : List Int} {y b : Int} {rest : List Int} (hw : Wl n nx S seen pend y (b :: rest)) (b0 : 0 ≤ b) (b1 : b < n) (hfb : ∃ s, S s ∧ Rch nx s b) (hlen : pend.length + seen.count false ≤ n) :
    ∃ seen' pend', scc_Reached.vis (seen, pend) b = some (seen', pend') ∧ Wl n nx S seen' pend' y rest ∧ pend'.length + seen'.count false ≤ n ∧ 2 * seen'.count false + pend'.length ≤ 2 * seen.count false + pend.length ∧ sn seen' b ∧ ∀ j : Int, 0 ≤ j → sn seen j → sn seen' j := by
  have hn := g.le
  have hsl := hw.sl
  unfold scc_Reached.vis
  rcases sn_dec seen b with hb | hb
  · refine ⟨seen, pend, ?_, hw.skip hb, hlen, Nat.le_refl _, hb, fun _ _ h => h⟩
    rw [if_pos b0, if_pos (by simp only; omega), if_pos (show rdOf false seen b = true from hb)]
  · have hct := cnt_set (by omega) hb
    refine ⟨seen.set b.toNat true, pend ++ [b], ?_, hw.put b0 b1 hfb g (fun z => by rw [List.mem_append, List.mem_singleton]; exact or_comm), by rw [List.length_append, List.length_singleton]; omega, by rw [List.length_append, List.length_singleton]; omega, (sn_set b0 (by omega) b b0).2 (.inl rfl), fun j j0 h => (sn_set b0 (by omega) j j0).2 (.inr h)⟩
    rw [if_pos b0, if_pos (by simp only; omega), if_neg (show ¬ rdOf false seen b = true from hb), if_pos (by simp only; omega)]
theorem next_is (l : List Int) (hl2 : l.length < 4611686018427387904) (hfl : ∀ b ∈ l, 0 ≤ b ∧ b < n ∧ ∃ s, S s ∧ Rch nx s b) (y : Int) : ∀ (d q : Nat) (seen : List Bool) (pend : List Int), q + d = l.length → Wl n nx S seen pend y (l.drop q) → pend.length + seen.count false ≤ n →
    ∃ seen' pend', Ev (fun k => scc_Reached.nextL k l (q : Int) (seen, pend)) (seen', pend') ∧ Wl n nx S seen' pend' y [] ∧ pend'.length + seen'.count false ≤ n ∧ 2 * seen'.count false + pend'.length ≤ 2 * seen.count false + pend.length ∧ ∀ j : Int, 0 ≤ j → sn seen j → sn seen' j := by
  intro d
  induction d with
  | zero =>
    intro q seen pend hq hw hlen
    obtain rfl : q = l.length := by omega
    rw [List.drop_length] at hw
    refine ⟨seen, pend, Ev.step (f := fun _ => some (seen, pend)) (fun k => ?_) (Ev.now _), hw, hlen, Nat.le_refl _, fun _ _ h => h⟩
    simp only [scc_Reached.nextL]
    rw [if_neg (by omega)]
  | succ d ih =>
    intro q seen pend hq hw hlen
    have hql : q < l.length := by omega
    rw [List.drop_eq_getElem_cons hql] at hw
    obtain ⟨b0, b1, hfb⟩ := hfl l[q] (List.getElem_mem hql)
    obtain ⟨s1, p1, hv, hw1, hl1, hm1, _, hmono⟩ := vis_is g hw b0 b1 hfb hlen
    obtain ⟨s2, p2, he, hw2, hlen2, hm2, hmono2⟩ := ih (q + 1) s1 p1 (by omega) hw1 hl1
    refine ⟨s2, p2, Ev.step (f := fun k => scc_Reached.nextL k l ((q + 1 : Nat) : Int) (s1, p1)) (fun k => ?_) he, hw2, hlen2, by omega, fun j j0 h => hmono2 j j0 (hmono j j0 h)⟩
    simp only [scc_Reached.nextL]
    rw [if_pos (by omega), if_pos (by omega), rd_eq hql, hv, Option.bind_some, w64 (n := (q : Int) + 1) (by omega) (by omega)]
    rfl
theorem main_is : ∀ (M : Nat) (seen : List Bool) (pend : List Int) (y : Int), 2 * seen.count false + pend.length ≤ M → Wl n nx S seen pend y [] → pend.length + seen.count false ≤ n → (∀ s, S s → 0 ≤ s ∧ s < n ∧ sn seen s) →
    ∃ L, (∃ K, ∀ k m, K ≤ k → K ≤ m → scc_Reached.mainL k m nx (seen, pend) = some L) ∧ L.length = n ∧ ∀ j : Int, 0 ≤ j → j < n → (sn L j ↔ ∃ s, S s ∧ Rch nx s j) := by
  intro M
  induction M with
  | zero =>
    intro seen pend y hM hw hlen hS
    obtain rfl : pend = [] := List.eq_nil_of_length_eq_zero (by omega)
    refine ⟨seen, ⟨1, fun k m hk hm => ?_⟩, hw.sl, hw.done g hS⟩
    obtain ⟨k, rfl⟩ : ∃ j, k = j + 1 := ⟨k - 1, by omega⟩
    simp [scc_Reached.mainL]
  | succ M ih =>
    intro seen pend y hM hw hlen hS
    rcases G.snoc_cases pend with rfl | ⟨ps, x, rfl⟩
    · refine ⟨seen, ⟨1, fun k m hk hm => ?_⟩, hw.sl, hw.done g hS⟩
      obtain ⟨k, rfl⟩ : ∃ j, k = j + 1 := ⟨k - 1, by omega⟩
      simp [scc_Reached.mainL]
    · obtain ⟨x0, x1, xs⟩ := hw.pnd x (by simp)
      obtain ⟨s, hs, hr⟩ := hw.frm x x0 x1 xs
      have hnl := g.len
      rw [List.length_append, List.length_singleton] at hM hlen
      have hpop := hw.pop (pend' := ps) x (fun z hz => by rw [List.mem_append, List.mem_singleton] at hz; exact hz.symm) (fun z hz => by rw [List.mem_append]; exact .inl hz)
      obtain ⟨s1, p1, ⟨K1, hK1⟩, hw1, hl1, hm1, hmono⟩ := next_is g (rd_L1 nx x) (g.len2 x) (fun b hb => ⟨(g.ok x x0 x1 b hb).1, (g.ok x x0 x1 b hb).2, s, hs, hr.tail hb⟩) x _ 0 seen ps (Nat.zero_add _) (by rw [List.drop_zero]; exact hpop) (by omega)
      obtain ⟨L, ⟨K2, hK2⟩, hL⟩ := ih s1 p1 x (by omega) hw1 hl1 (fun s hs => ⟨(hS s hs).1, (hS s hs).2.1, hmono s (hS s hs).1 (hS s hs).2.2⟩)
      refine ⟨L, ⟨max K1 K2 + 1, fun k m hk hm => ?_⟩, hL⟩
      obtain ⟨k, rfl⟩ : ∃ j, k = j + 1 := ⟨k - 1, by omega⟩
      simp only [scc_Reached.mainL, List.getLast?_append, List.getLast?_singleton, Option.some_or, List.dropLast_concat]
      rw [if_pos x0, if_pos (by omega)]
      have h1 := hK1 m (by omega)
      simp only [rd_L1] at h1
      rw [show (0 : Int) = ((0 : Nat) : Int) from rfl, h1, Option.bind_some]
      exact hK2 k m (by omega) (by omega)
theorem init_is (f : Int) (hf : f ≤ n) (hS : ∀ s, S s ↔ 0 ≤ s ∧ s < f) : ∀ (d i : Nat) (seen : List Bool) (pend : List Int) (y : Int), (i : Int) + d = f → Wl n nx S seen pend y [] → pend.length + seen.count false ≤ n → (∀ s : Int, 0 ≤ s → s < i → sn seen s) →
    ∃ seen' pend', Ev (fun k => scc_Reached.initL k f (i : Int) (seen, pend)) (seen', pend') ∧ Wl n nx S seen' pend' (-1) [] ∧ pend'.length + seen'.count false ≤ n ∧ ∀ s : Int, 0 ≤ s → s < f → sn seen' s := by
  have hn := g.le
  intro d
  induction d with
  | zero =>
    intro i seen pend y hi hw hlen hs
    refine ⟨seen, pend, Ev.step (f := fun _ => some (seen, pend)) (fun k => ?_) (Ev.now _), hw.weak _ _, hlen, fun s h0 h1 => hs s h0 (by omega)⟩
    simp only [scc_Reached.initL]
    rw [if_neg (by omega)]
  | succ d ih =>
    intro i seen pend y hi hw hlen hs
    obtain ⟨s1, p1, hv, hw1, hl1, _, hb, hmono⟩ := vis_is g (hw.weak (-1) [(i : Int)]) (by omega) (by omega) ⟨(i : Int), (hS _).2 ⟨by omega, by omega⟩, .refl _⟩ hlen
    obtain ⟨s2, p2, he, hw2, hlen2, hs2⟩ := ih (i + 1) s1 p1 (-1) (by omega) hw1 hl1 (fun s s0 s1 => by
      by_cases c : s = (i : Int)
      · rw [c]; exact hb
      · exact hmono s s0 (hs s s0 (by omega)))
    refine ⟨s2, p2, Ev.step (f := fun k => scc_Reached.initL k f ((i + 1 : Nat) : Int) (s1, p1)) (fun k => ?_) he, hw2, hlen2, hs2⟩
    simp only [scc_Reached.initL]
    rw [if_pos (by omega), hv, Option.bind_some, w64 (n := (i : Int) + 1) (by omega) (by omega)]
    rfl
end
theorem no_seen (j : Int) : ¬ sn (List.replicate n false) j := fun h => by
  have hl := sn_true h
  unfold sn rdOf at h
  rw [List.getD_eq_getElem?_getD, List.getElem?_eq_getElem hl] at h
  simp at h
theorem reached_is (g : Gs n sp f nx ms many) : ∃ L, Ev (fun k => scc_Reached.f k sp f nx ms many) (L, 0) ∧ L.length = n ∧ ∀ j : Int, 0 ≤ j → j < n → (sn L j ↔ ∃ s, (0 ≤ s ∧ s < f) ∧ Rch nx s j) := by
  have hf0 := g.f0
  have hf1 := g.f1
  have hn := g.gr.le
  have hw : Wl n nx (fun s => 0 ≤ s ∧ s < f) (List.replicate n false) [] (-1) [] :=
    ⟨List.length_replicate, fun j _ _ h => absurd h (no_seen j), fun x hx => absurd hx (by simp), fun j _ _ h => absurd h (no_seen j)⟩
  obtain ⟨s1, p1, he1, hw1, hl1, hs1⟩ := init_is g.gr f hf1 (fun s => Iff.rfl) f.toNat 0 (List.replicate n false) [] (-1) (by omega) hw (by simp) (fun s h0 h1 => by omega)
  obtain ⟨L, ⟨K, hK⟩, hL⟩ := main_is g.gr _ s1 p1 (-1) (Nat.le_refl _) hw1 hl1 (fun s hs => ⟨hs.1, by omega, hs1 s hs.1 hs.2⟩)
  refine ⟨L, ?_, hL⟩
  unfold scc_Reached.f
  refine Ev.bind (check_is g) ?_
  simp only [if_true]
  rw [g.sp]
  simp only [if_pos (show n ≤ 281474976710656 by omega)]
  refine Ev.bind he1 ?_
  exact ⟨K, fun k hk => by simp only [hK k k hk hk, Option.bind_some]⟩
end
end Go.Proofs.Ytpkigkmkolbiiaa.Q
end
section
namespace Go.Proofs.Ytpkigkmkolbiiaa.Q
open Go.RowKit Go.Proofs.YtpkigkmkolbiiaaW.PrintWords Go.Proofs.YtpkigkmkolbiiaaW.PrintMore Go.Proofs.Ytpkigkmkolbiiaa.P
set_option linter.unusedVariables false
theorem shl_lo {y : Int} (h0 : 0 ≤ y) (h1 : y ≤ 6) : 1 ≤ shl .i64 1 y ∧ shl .i64 1 y ≤ 64 := by
  have h : y = 0 ∨ y = 1 ∨ y = 2 ∨ y = 3 ∨ y = 4 ∨ y = 5 ∨ y = 6 := by omega
  rcases h with rfl | rfl | rfl | rfl | rfl | rfl | rfl <;> decide
structure Gp (n i : Nat) (sp : List S45) (nx : List (List Int)) (ms : List Int) (many : Int) : Prop where
  sl : sp.length = i
  nl : nx.length = i
  ml : ms.length = i
  nr : ∀ l ∈ nx, l.length ≤ 6 ∧ ∀ b ∈ l, 0 ≤ b ∧ b < n
  mr : ∀ m ∈ ms, 0 ≤ m ∧ m < shl .i64 1 many
theorem Gp.more {n i : Nat} {sp : List S45} {nx : List (List Int)} {ms : List Int} {many : Int} (h : Gp n i sp nx ms many) (s : S45) {l : List Int} (hl : l.length ≤ 6 ∧ ∀ b ∈ l, 0 ≤ b ∧ b < n) {m : Int} (hm : 0 ≤ m ∧ m < shl .i64 1 many) : Gp n (i + 1) (sp ++ [s]) (nx ++ [l]) (ms ++ [m]) many := by
  refine ⟨by rw [List.length_append, h.sl]; rfl, by rw [List.length_append, h.nl]; rfl, by rw [List.length_append, h.ml]; rfl, fun x hx => ?_, fun x hx => ?_⟩
  · rcases List.mem_append.mp hx with hx | hx
    · exact h.nr x hx
    · obtain rfl := List.mem_singleton.mp hx
      exact hl
  · rcases List.mem_append.mp hx with hx | hx
    · exact h.mr x hx
    · obtain rfl := List.mem_singleton.mp hx
      exact hm
theorem Gp.gs {n : Nat} {sp : List S45} {nx : List (List Int)} {ms : List Int} {many f : Int} (h : Gp n n sp nx ms many) (hn : n ≤ 20000) (f0 : 0 ≤ f) (f1 : f ≤ n) (m0 : 0 ≤ many) (m1 : many ≤ 6) : Gs n sp f nx ms many := by
  have hmem : ∀ a : Int, rd_L1 nx a = [] ∨ rd_L1 nx a ∈ nx := fun a => by
    unfold rd_L1
    rw [List.getD_eq_getElem?_getD]
    by_cases c : a.toNat < nx.length
    · rw [List.getElem?_eq_getElem c]
      exact .inr (List.getElem_mem c)
    · rw [List.getElem?_eq_none (by omega)]
      exact .inl rfl
  refine ⟨⟨h.nl, hn, fun a a0 a1 b hb => ?_, fun a => ?_⟩, h.sl, f0, f1, h.ml, m0, m1, fun i i0 i1 => ?_⟩
  · rcases hmem a with e | e
    · rw [e] at hb
      exact absurd hb (by simp)
    · exact (h.nr _ e).2 b hb
  · rcases hmem a with e | e
    · rw [e]
      simp
    · have := (h.nr _ e).1
      omega
  · have hl := h.ml
    have hi : i.toNat < ms.length := by omega
    have e : rd ms i = ms[i.toNat] := by
      unfold rd
      rw [List.getD_eq_getElem?_getD, List.getElem?_eq_getElem hi]
      rfl
    rw [e]
    exact h.mr _ (List.getElem_mem hi)
theorem graph_is6 (rows : List (List Int)) (sets : List Int) (ft mt : Int) (hrows : ∀ y ∈ rows, (y.length ≤ maxLen ∧ ∀ z ∈ y, (Lit.int .i64 z).wf = true)) (hrl : rows.length ≤ maxLen) (hsets : ∀ y ∈ sets, (Lit.int .i64 y).wf = true) (hf : (Lit.int .i64 ft).wf = true) (hm : (Lit.int .i64 mt).wf = true) :
    ∃ sp f nx ms many, Ev (fun k => foretellkeep_Graph.f k rows sets ft mt) (sp, f, nx, ms, many) ∧ Gs (min rows.length 20) sp f nx ms many ∧ many < 4 ∧ (rows.length = 0 ∨ 1 ≤ f) ∧ ∀ l ∈ nx, l.length ≤ 6 := by
  have hmx : maxLen = 9223372036854775807 := rfl
  have m0 := pk_lo mt (m := 4) (by decide)
  have m1 := pk_hi mt (m := 4) (by decide)
  obtain ⟨sh0, sh1⟩ := shl_lo (y := pk mt 4) m0 (by omega)
  generalize hmany : pk mt 4 = many at m0 m1 sh0 sh1
  have hn : mn (rows.length : Int) 20 = ((min rows.length 20 : Nat) : Int) := by rw [mn_eq]; omega
  generalize hnn : min rows.length 20 = n at hn
  have hloop : ∀ (d i : Nat) (sp : List S45) (nx : List (List Int)) (ms : List Int) (f : Int), i + d = n → Gp n i sp nx ms many →
      ∃ sp' nx' ms', Ev (fun k => foretellkeep_Graph.l0 k (n : Int) (i : Int) rows sets ft mt sp f nx ms many) (sp', f, nx', ms', many) ∧ Gp n n sp' nx' ms' many := by
    intro d
    induction d with
    | zero =>
      intro i sp nx ms f hi hg
      obtain rfl : i = n := by omega
      refine ⟨sp, nx, ms, Ev.step (f := fun _ => some (sp, f, nx, ms, many)) (fun k => ?_) (Ev.now _), hg⟩
      simp only [foretellkeep_Graph.l0]
      rw [if_neg (by omega)]
    | succ d ih =>
      intro i sp nx ms f hi hg
      have hil : i < rows.length := by omega
      have hrow := hrows rows[i] (List.getElem_mem hil)
      have hrd : rd_L1 rows (i : Int) = rows[i] := rdL_eq hil
      generalize rows[i] = row at hrow hrd
      have hs := hg.sl
      have hnl := hg.nl
      have hml := hg.ml
      have hn20 : n ≤ 20 := by omega
      have hend : ∀ (l : List Int) (q : Nat), ¬ (q < row.length ∧ q < 6) → (l.length ≤ 6 ∧ ∀ b ∈ l, 0 ≤ b ∧ b < n) → ∃ sp' nx' ms', Ev (fun k => foretellkeep_Graph.l1 k (n : Int) (i : Int) l (q : Int) rows sets ft mt sp f nx ms many) (sp', f, nx', ms', many) ∧ Gp n n sp' nx' ms' many := by
        intro l q hq hl
        by_cases hsl : i < sets.length
        · have hp := picked_is (n := rd sets (i : Int)) (m := shl .i64 1 many) (by rw [rd_eq hsl]; exact hsets _ (List.getElem_mem hsl)) (by omega)
          have p0 := pk_lo (rd sets (i : Int)) (m := shl .i64 1 many) (by omega)
          have p1 := pk_hi (rd sets (i : Int)) (m := shl .i64 1 many) (by omega)
          generalize pk (rd sets (i : Int)) (shl .i64 1 many) = m at hp p0 p1
          obtain ⟨sp', nx', ms', he, hg'⟩ := ih (i + 1) (sp ++ [⟨(i : Int), 0⟩]) (nx ++ [l]) (ms ++ [m]) f (by omega) (hg.more _ hl ⟨p0, p1⟩)
          refine ⟨sp', nx', ms', Ev.step (f := fun k => foretellkeep_Graph.l0 k (n : Int) ((i + 1 : Nat) : Int) rows sets ft mt (sp ++ [⟨(i : Int), 0⟩]) f (nx ++ [l]) (ms ++ [m]) many) (fun k => ?_) he, hg'⟩
          simp only [foretellkeep_Graph.l1, hrd]
          rw [if_pos (by omega), if_pos (by omega), hp, Option.bind_some]
          rw [if_pos (show ((i : Int) < (sets.length : Int)) by omega), if_pos m0, if_pos (show sp.length < 8796093022208 by omega), if_pos (show nx.length < 5864062014805 by omega), if_pos (show ms.length < 17592186044416 by omega), w64 (n := (i : Int) + 1) (by omega) (by omega)]
          by_cases c1 : (q : Int) < (row.length : Int)
          · rw [if_pos c1, if_neg (by omega)]
            rfl
          · rw [if_neg c1]
            rfl
        · obtain ⟨sp', nx', ms', he, hg'⟩ := ih (i + 1) (sp ++ [⟨(i : Int), 0⟩]) (nx ++ [l]) (ms ++ [0]) f (by omega) (hg.more _ hl ⟨Int.le_refl _, by omega⟩)
          refine ⟨sp', nx', ms', Ev.step (f := fun k => foretellkeep_Graph.l0 k (n : Int) ((i + 1 : Nat) : Int) rows sets ft mt (sp ++ [⟨(i : Int), 0⟩]) f (nx ++ [l]) (ms ++ [0]) many) (fun k => ?_) he, hg'⟩
          simp only [foretellkeep_Graph.l1, hrd]
          rw [if_pos (by omega), if_pos (by omega)]
          rw [if_neg (show ¬ ((i : Int) < (sets.length : Int)) by omega), if_pos (show sp.length < 8796093022208 by omega), if_pos (show nx.length < 5864062014805 by omega), if_pos (show ms.length < 17592186044416 by omega), w64 (n := (i : Int) + 1) (by omega) (by omega)]
          by_cases c1 : (q : Int) < (row.length : Int)
          · rw [if_pos c1, if_neg (by omega)]
            rfl
          · rw [if_neg c1]
            rfl
      have hin : ∀ (e q : Nat) (l : List Int), q + e = 6 → l.length = q → (∀ b ∈ l, 0 ≤ b ∧ b < n) → ∃ sp' nx' ms', Ev (fun k => foretellkeep_Graph.l1 k (n : Int) (i : Int) l (q : Int) rows sets ft mt sp f nx ms many) (sp', f, nx', ms', many) ∧ Gp n n sp' nx' ms' many := by
        intro e
        induction e with
        | zero =>
          intro q l hq hll hb
          exact hend l q (by omega) ⟨by omega, hb⟩
        | succ e ihe =>
          intro q l hq hll hb
          by_cases hql : q < row.length
          · have hp := picked_is (n := rd row (q : Int)) (m := (n : Int)) (by rw [rd_eq hql]; exact hrow.2 _ (List.getElem_mem hql)) (by omega)
            have p0 := pk_lo (rd row (q : Int)) (m := (n : Int)) (by omega)
            have p1 := pk_hi (rd row (q : Int)) (m := (n : Int)) (by omega)
            generalize pk (rd row (q : Int)) (n : Int) = b at hp p0 p1
            obtain ⟨sp', nx', ms', he, hg'⟩ := ihe (q + 1) (l ++ [b]) (by omega) (by rw [List.length_append, hll]; rfl) (fun x hx => by
              rcases List.mem_append.mp hx with hx | hx
              · exact hb x hx
              · obtain rfl := List.mem_singleton.mp hx
                exact ⟨p0, p1⟩)
            refine ⟨sp', nx', ms', Ev.step (f := fun k => foretellkeep_Graph.l1 k (n : Int) (i : Int) (l ++ [b]) ((q + 1 : Nat) : Int) rows sets ft mt sp f nx ms many) (fun k => ?_) he, hg'⟩
            simp only [foretellkeep_Graph.l1, hrd]
            rw [if_pos (by omega), if_pos (by omega), if_pos (show (q : Int) < (row.length : Int) by omega), if_pos (show (q : Int) < 6 by omega), if_pos (by omega), hp, Option.bind_some, if_pos (by omega), w64 (n := (q : Int) + 1) (by omega) (by omega)]
            rfl
          · exact hend l q (by omega) ⟨by omega, hb⟩
      obtain ⟨sp', nx', ms', he, hg'⟩ := hin 6 0 [] rfl rfl (fun b hb => absurd hb (by simp))
      refine ⟨sp', nx', ms', Ev.step (f := fun k => foretellkeep_Graph.l1 k (n : Int) (i : Int) [] ((0 : Nat) : Int) rows sets ft mt sp f nx ms many) (fun k => ?_) he, hg'⟩
      simp only [foretellkeep_Graph.l0]
      rw [if_pos (by omega)]
      rfl
  have hz : Gp n 0 [] [] [] many := ⟨rfl, rfl, rfl, fun l hl => absurd hl (by simp), fun l hl => absurd hl (by simp)⟩
  by_cases hn0 : 0 < n
  · have hp := picked_is (n := ft) (m := (n : Int)) hf (by omega)
    have p0 := pk_lo ft (m := (n : Int)) (by omega)
    have p1 := pk_hi ft (m := (n : Int)) (by omega)
    generalize pk ft (n : Int) = fs at hp p0 p1
    obtain ⟨sp', nx', ms', he, hg'⟩ := hloop n 0 [] [] [] (fs + 1) (by omega) hz
    refine ⟨sp', fs + 1, nx', ms', many, ?_, hg'.gs (by omega) (by omega) (by omega) m0 (by omega), m1, .inr (by omega), fun l hl => (hg'.nr l hl).1⟩
    refine Ev.congr (f := fun k => foretellkeep_Graph.j0 k (n : Int) rows sets ft mt (fs + 1) many) (fun k => ?_) (Ev.step (f := fun k => foretellkeep_Graph.l0 k (n : Int) ((0 : Nat) : Int) rows sets ft mt [] (fs + 1) [] [] many) (fun k => ?_) he)
    · unfold foretellkeep_Graph.f
      rw [picked_is hm (by decide), Option.bind_some, hmany, hn, if_pos (by omega), hp, Option.bind_some, w64 (n := fs + 1) (by omega) (by omega)]
    · simp only [foretellkeep_Graph.j0]
      rfl
  · obtain ⟨sp', nx', ms', he, hg'⟩ := hloop n 0 [] [] [] 0 (by omega) hz
    refine ⟨sp', 0, nx', ms', many, ?_, hg'.gs (by omega) (by omega) (by omega) m0 (by omega), m1, .inl (by omega), fun l hl => (hg'.nr l hl).1⟩
    refine Ev.congr (f := fun k => foretellkeep_Graph.j0 k (n : Int) rows sets ft mt 0 many) (fun k => ?_) (Ev.step (f := fun k => foretellkeep_Graph.l0 k (n : Int) ((0 : Nat) : Int) rows sets ft mt [] 0 [] [] many) (fun k => ?_) he)
    · unfold foretellkeep_Graph.f
      rw [picked_is hm (by decide), Option.bind_some, hmany, hn, if_neg (by omega)]
    · simp only [foretellkeep_Graph.j0]
      rfl
end Go.Proofs.Ytpkigkmkolbiiaa.Q
end
