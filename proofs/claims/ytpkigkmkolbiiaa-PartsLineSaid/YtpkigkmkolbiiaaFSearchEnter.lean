-- a walk, laid out by a program of this repo over the seat's translation
import Derived.Test.YtpkigkmkolbiiaaF0
import Derived.Test.YtpkigkmkolbiiaaFSearchAt
import Derived.WalkSpells
import Derived.StillTailTactics
namespace Go.Proofs.Ytpkigkmkolbiiaa.P
open Go.RowKit Go.Proofs.YtpkigkmkolbiiaaW.PrintWords Go.Proofs.YtpkigkmkolbiiaaW.PrintLast Go.Proofs.YtpkigkmkolbiiaaW.PrintMore Go.Proofs.Ytpkigkmkolbiiaa.G
attribute [local go_sem] max2_int min2_int max_two min_two max_three min_three max_four min_four   -- for this text's walks alone
set_option linter.unusedVariables false
set_option linter.unusedSimpArgs false

--IMPORT FSearchAt
--IMPORT Derived.WalkSpells
--IMPORT Derived.StillTailTactics
/-! ### search_enter: function 19 -/
def search_enter.st (st : SrSt) (i : Int) : SrSt := { order := st.order.set i.toNat (wrap64 (st.met + 1)), low := st.low.set i.toNat (wrap64 (st.met + 1)), part := st.part, opn := st.opn ++ [i], calls := st.calls ++ [⟨i, 0⟩], met := wrap64 (st.met + 1) }
set_option maxHeartbeats 8000000 in
set_option maxRecDepth 100000 in
theorem search_enter.calls (w0 : World) (s go gl gp n : Nat) (v0 v1 v2 v3 v4 vo vc : Value) (st : SrSt) (i : Int) (h0 : 0 ≤ i) (h1 : i < (n : Int)) (ho : st.opn.length ≤ 1000000) (hc : st.calls.length ≤ 1000000) (w : World) (hv : SrAt w0 w s go gl gp n v0 v1 v2 v3 v4 st vo vc) :
    Calls Try.prog 19 #[.pointer (some ⟨s, 0, none⟩), .int .i64 i] w fun e w' => e = .returned (.tuple #[]) ∧ ∃ vo' vc', SrAt w0 w' s go gl gp n v0 v1 v2 v3 v4 (search_enter.st st i) vo' vc' := by
  have info := (by kernel_rfl : (Try.prog.info? 3).map (fun i => (i.zero, i.size, i.bytes)) = some (some (.int .i64 0), 1, 8))
  have infoF := (by kernel_rfl : (Try.prog.info? 64).map (fun i => (i.zero, i.size, i.bytes)) = some (some (.agg #[(.int .i64 0), (.int .i64 0)]), 2, 16))
  have HV := Aside0.mk hv
  have LO := Aside0.mk ho
  have LC := Aside0.mk hc
  clear hv ho hc
  obtain ⟨Ao, co, rfl⟩ := Kd.R_slice HV.out.opn
  obtain ⟨Ac, cc, rfl⟩ := Kd.R_slice HV.out.cls
  have hm : w.cell? ⟨s, 10, none⟩ = some (.int .i64 st.met) := (blk_cell HV.out.blk 10).trans rfl
  have fm := blk_frozen HV.out.blk 10
  have q0 := eq_true h0
  have q1 := eq_true h1
  have P0 := Aside0.mk h0
  have P1 := Aside0.mk h1
  clear h0 h1
  go_enter Try.func19, Try.ntmps19
  go_wp2_with (first | ((with_reducible refine gate_store (t := 3) (p := 10) (v := .tmp 8) rfl ?_); go_must (refine store_event (t := 3) (p := 10) (v := .tmp 8) (w1 := (w.setCell ⟨s, 10, none⟩ (.int .i64 (wrap64 (st.met + 1))))) ?hg ?ho ?hn ?hr ?_; (case ho => rfl); (case hg => rfl); (case hn => rfl); (case hr => first | (go_simp; done) | (go_simp; rfl)); intro w1 hw; have HV1 := Aside0.mk (show SrAt w0 w1 s go gl gp n v0 v1 v2 v3 v4 { st with met := wrap64 (st.met + 1) } _ _ by rw [hw]; exact HV.out.setMet _); clear hw)))
  have h15 : w1.cell? ⟨s, 5, none⟩ = some (.slice (some ⟨go, 0, none⟩) n n) := (blk_cell HV1.out.blk 5).trans rfl
  have h16 : w1.cell? ⟨s, 6, none⟩ = some (.slice (some ⟨gl, 0, none⟩) n n) := (blk_cell HV1.out.blk 6).trans rfl
  have h110 : w1.cell? ⟨s, 10, none⟩ = some (.int .i64 (wrap64 (st.met + 1))) := (blk_cell HV1.out.blk 10).trans rfl
  have ho1 := HV1.out.ord.cell i P0.out (by rw [HV1.out.nord]; exact P1.out)
  have hl1 := HV1.out.low.cell i P0.out (by rw [HV1.out.nlow]; exact P1.out)
  have fo1 := blk_frozen HV1.out.ord i.toNat
  have fl1 := blk_frozen HV1.out.low i.toNat
  have nol := HV1.out.ol
  have nlo := nol.symm
  have nso := blk_ne HV1.out.blk HV1.out.ord (by decide)
  have nsl := blk_ne HV1.out.blk HV1.out.low (by decide)
  go_region
  generalize hq2 : ((w1.setCell ⟨go, i.toNat, none⟩ (.int .i64 (wrap64 (st.met + 1)))).setCell ⟨gl, i.toNat, none⟩ (.int .i64 (wrap64 (st.met + 1)))).drew = w2
  have HV2 := Aside0.mk (show SrAt w0 w2 s go gl gp n v0 v1 v2 v3 v4 { order := st.order.set i.toNat (wrap64 (st.met + 1)), low := st.low.set i.toNat (wrap64 (st.met + 1)), part := st.part, opn := st.opn, calls := st.calls, met := wrap64 (st.met + 1) } (.slice Ao st.opn.length co) (.slice Ac st.calls.length cc) by rw [← hq2]; exact ((HV1.out.setOrd i _).setLow i _).drew)
  clear hq2 h15 h16 h110 ho1 hl1 fo1 fl1
  have h28 : w2.cell? ⟨s, 8, none⟩ = some (.slice Ao st.opn.length co) := (blk_cell HV2.out.blk 8).trans rfl
  go_wp2_with (first | ((with_reducible refine gate_builtin (b := .append) (xs := #[.tmp 35, .tmp 37]) rfl ?_); at_builtin; go_must (refine Kd.R_append (Kd.int .i64) (w0 := w0) w0.heap.size rfl (.tmp 35) (.tmp 37) 23 3 (.int .i64 0) 8 rfl Try.underlying23 info rfl (by decide) (by omega) (.slice Ao st.opn.length co) st.opn i [.int .i64 i] (fun k => k ≠ go ∧ k ≠ gl ∧ k ≠ gp) (fun _ => False) rfl rfl ?aP (fun _ hk => hk.elim) ?aF ?aO ?aB ?aS ?aL ?_; (case aP => exact rfl); (case aF => exact HV2.out.ltO); (case aO => exact HV2.out.opn); (case aB => exact HV2.out.bel); (case aS => exact below_size HV2.out.bel); (case aL => have := LO.out; omega); intro vo' w3 ho hb hg hat; obtain ⟨Ao', co', rfl⟩ := Kd.R_slice ho; have HR := Aside0.mk ho; have HB := Aside0.mk hb; have HG := Aside0.mk hg; clear ho hb hg hat; have h38 : w3.cell? ⟨s, 8, none⟩ = some (.slice Ao st.opn.length co) := (blk_cell (HV2.out.grownOpn HG.out) 8).trans rfl; have f38 := blk_frozen (HV2.out.grownOpn HG.out) 8)) | ((with_reducible refine gate_store (t := 23) (p := 40) (v := .tmp 38) rfl ?_); go_must (refine store_event (t := 23) (p := 40) (v := .tmp 38) (w1 := (w3.setCell ⟨s, 8, none⟩ (.slice Ao' (st.opn ++ [i]).length co'))) ?hg ?ho ?hn ?hr ?_; (case ho => rfl); (case hg => rfl); (case hn => rfl); (case hr => first | (go_simp; done) | (go_simp; rfl)); intro w4 hw; have HV4 := Aside0.mk (show SrAt w0 w4 s go gl gp n v0 v1 v2 v3 v4 { order := st.order.set i.toNat (wrap64 (st.met + 1)), low := st.low.set i.toNat (wrap64 (st.met + 1)), part := st.part, opn := st.opn ++ [i], calls := st.calls, met := wrap64 (st.met + 1) } _ (.slice Ac st.calls.length cc) by rw [hw]; exact HV2.out.appOpn HR.out HB.out HG.out); clear hw; have h49 : w4.cell? ⟨s, 9, none⟩ = some (.slice Ac st.calls.length cc) := (blk_cell HV4.out.blk 9).trans rfl)) | ((with_reducible refine gate_builtin (b := .append) (xs := #[.tmp 45, .tmp 48]) rfl ?_); at_builtin; go_must (refine Kd.R_append k64 (w0 := w0) w0.heap.size rfl (.tmp 45) (.tmp 48) 54 64 (.agg #[(.int .i64 0), (.int .i64 0)]) 16 rfl Try.underlying54 infoF rfl (by decide) (by omega) (.slice Ac st.calls.length cc) st.calls (⟨i, 0⟩ : S64) [.int .i64 i, .int .i64 0] (fun _ => True) (fun _ => False) rfl rfl ?aP (fun _ hk => hk.elim) ?aF ?aO ?aB ?aS ?aL ?_; (case aP => exact k64_mkM _ _ _ (⟨i, 0⟩ : S64)); (case aF => exact (fun _ _ => trivial)); (case aO => exact HV4.out.cls); (case aB => exact HV4.out.bel); (case aS => exact below_size HV4.out.bel); (case aL => have := LC.out; omega); intro vc' w5 ho hb hg hat; obtain ⟨Ac', cc', rfl⟩ := Kd.R_slice ho; replace ho : Kd.R k64 64 w5 w0.heap.size (fun _ => True) (.slice Ac' (st.calls.length + 1) cc') (st.calls ++ [(⟨i, 0⟩ : S64)]) := (by rw [List.length_append] at ho; exact ho); have HRc := Aside0.mk ho; have HBc := Aside0.mk hb; have HGc := Aside0.mk hg; clear ho hb hg hat; have h59 : w5.cell? ⟨s, 9, none⟩ = some (.slice Ac st.calls.length cc) := (blk_cell (HV4.out.grownCls HGc.out) 9).trans rfl; have f59 := blk_frozen (HV4.out.grownCls HGc.out) 9)))
  go_end0
  exact ⟨rfl, _, _, HV4.out.appCls HRc.out HBc.out HGc.out⟩

end Go.Proofs.Ytpkigkmkolbiiaa.P
