-- PACKED by pack.py of this repo: FSearchGoOn
import Derived.WalkSpells
import Derived.StillTailTactics
import Derived.IntWalk
import Derived.Test.YtpkigkmkolbiiaaK2
import Derived.Test.YtpkigkmkolbiiaaK8
import Derived.Test.YtpkigkmkolbiiaaK9
import Derived.Test.YtpkigkmkolbiiaaK7
section
namespace Go.Proofs.Ytpkigkmkolbiiaa.P
open Go.RowKit Go.Proofs.YtpkigkmkolbiiaaW.PrintWords Go.Proofs.YtpkigkmkolbiiaaW.PrintLast Go.Proofs.YtpkigkmkolbiiaaW.PrintMore Go.Proofs.Ytpkigkmkolbiiaa.G
attribute [local go_sem] max2_int min2_int max_two min_two max_three min_three max_four min_four   -- for this text's walks alone
set_option linter.unusedVariables false
set_option linter.unusedSimpArgs false

--IMPORT FSearchLeave
--IMPORT Derived.WalkSpells
--IMPORT Derived.StillTailTactics
--IMPORT Derived.IntWalk
/-! ### search_goOn: function 20 -/
/-- What a search keeps while it goes on. -/
def SrOk (g : List (List Int)) (n : Nat) (st : SrSt) : Prop :=
  (∀ k ∈ st.opn, 0 ≤ k ∧ k < (n : Int)) ∧ st.opn.length ≤ 1000000 ∧ st.calls.length ≤ 1000000 ∧ (∀ u ∈ st.calls, 0 ≤ u.f0 ∧ u.f0 < (n : Int) ∧ 0 ≤ u.f1 ∧ u.f1 ≤ ((g.getD u.f0.toNat []).length : Int)) ∧ g.length = n ∧ (∀ l ∈ g, l.length ≤ 1000000000000 ∧ ∀ k ∈ l, 0 ≤ k ∧ k < (n : Int))
def search_goOn.go (g : List (List Int)) (st : SrSt) (ys : List S64) (y : S64) : Option SrSt :=
  if y.f1 = ((g.getD y.f0.toNat []).length : Int) then search_leave.f ys st y.f0
  else if rd st.order (rd (g.getD y.f0.toNat []) y.f1) = 0 then some (search_enter.st { st with calls := ys ++ [⟨y.f0, y.f1 + 1⟩] } (rd (g.getD y.f0.toNat []) y.f1))
  else if rd st.part (rd (g.getD y.f0.toNat []) y.f1) < 0 then some { st with calls := ys ++ [⟨y.f0, y.f1 + 1⟩], low := st.low.set y.f0.toNat (mn (rd st.low y.f0) (rd st.order (rd (g.getD y.f0.toNat []) y.f1))) }
  else some { st with calls := ys ++ [⟨y.f0, y.f1 + 1⟩] }
instance (g : List (List Int)) (n : Nat) (st : SrSt) : Decidable (SrOk g n st) := by unfold SrOk; exact inferInstance
def search_goOn.f (g : List (List Int)) (n : Nat) (st : SrSt) : Option SrSt :=
  if SrOk g n st then
    match st.calls.getLast? with
    | none => none
    | some y => search_goOn.go g st st.calls.dropLast y
  else none
section
variable {w0 w w' : World} {s go gl gp n : Nat} {v0 v1 v2 v3 v4 vo vc : Value} {st : SrSt}
theorem SrAt.frame0 {gc m c : Nat} (h : SrAt w0 w s go gl gp n v0 v1 v2 v3 v4 st vo (.slice (some ⟨gc, 0, none⟩) m c)) (ys : List S64) (y : S64) (hc : st.calls = ys ++ [y]) : w.cell? ⟨gc, ys.length * 2, none⟩ = some (.int .i64 y.f0) := by
  have hm : m = st.calls.length := (Kd.R_reads' h.cls).1
  have hlen : st.calls.length = ys.length + 1 := by rw [hc]; simp
  obtain ⟨ad, ead, hu0, hu1⟩ := at_T64 (Kd.R_reads' h.cls).2.2 (ys.length : Int) (by omega) (by omega)
  obtain rfl : ad = ⟨gc, 0, none⟩ := by injection ead with h_; exact h_.symm
  have hrd : rd_T64 st.calls (ys.length : Int) = y := by rw [hc]; simp [rd_T64]
  rw [hrd, Int.toNat_natCast, addr_at] at hu0
  exact hu0
theorem SrAt.frame1 {gc m c : Nat} (h : SrAt w0 w s go gl gp n v0 v1 v2 v3 v4 st vo (.slice (some ⟨gc, 0, none⟩) m c)) (ys : List S64) (y : S64) (hc : st.calls = ys ++ [y]) : w.cell? ⟨gc, ys.length * 2 + 1, none⟩ = some (.int .i64 y.f1) := by
  have hm : m = st.calls.length := (Kd.R_reads' h.cls).1
  have hlen : st.calls.length = ys.length + 1 := by rw [hc]; simp
  obtain ⟨ad, ead, hu0, hu1⟩ := at_T64 (Kd.R_reads' h.cls).2.2 (ys.length : Int) (by omega) (by omega)
  obtain rfl : ad = ⟨gc, 0, none⟩ := by injection ead with h_; exact h_.symm
  have hrd : rd_T64 st.calls (ys.length : Int) = y := by rw [hc]; simp [rd_T64]
  rw [hrd, Int.toNat_natCast, addr_at] at hu1
  exact hu1
/-- The last frame goes on. -/
theorem SrAt.setNext {gc m c : Nat} (h : SrAt w0 w s go gl gp n v0 v1 v2 v3 v4 st vo (.slice (some ⟨gc, 0, none⟩) m c)) (ys : List S64) (y : S64) (hc : st.calls = ys ++ [y]) (v : Int) :
    SrAt w0 (w.setCell ⟨gc, ys.length * 2 + 1, none⟩ (.int .i64 v)) s go gl gp n v0 v1 v2 v3 v4 { st with calls := ys ++ [⟨y.f0, v⟩] } vo (.slice (some ⟨gc, 0, none⟩) m c) := by
  have hm : m = st.calls.length := (Kd.R_reads' h.cls).1
  have hlen : st.calls.length = ys.length + 1 := by rw [hc]; simp
  obtain ⟨g', cap6, he6, _, _, cgt, hgt⟩ := Kd.R_form h.cls (by omega)
  cases he6
  obtain ⟨ad, ead, hu0, hu1⟩ := at_T64 (Kd.R_reads' h.cls).2.2 (ys.length : Int) (by omega) (by omega)
  obtain rfl : ad = ⟨gc, 0, none⟩ := by injection ead with h_; exact h_.symm
  have hrd : rd_T64 st.calls (ys.length : Int) = y := by rw [hc]; simp [rd_T64]
  rw [hrd, Int.toNat_natCast, addr_at] at hu0 hu1
  have hset : st.calls.set ((ys.length : Int)).toNat (⟨y.f0, v⟩ : S64) = ys ++ [⟨y.f0, v⟩] := by rw [hc, Int.toNat_natCast]; simp
  have hr := (Kd.R_seg (okp := fun _ => False) h.cls (ys.length : Int) (by omega) (by omega) (c := [.int .i64 y.f0, .int .i64 y.f1]) (seg := [.int .i64 v]) (j := 1) rfl (by
    intro j u hj
    rw [Int.toNat_natCast]
    match j, hj with
    | 0, hj => exact hu0.trans hj
    | 1, hj => exact hu1.trans hj) (show 2 ≤ 2 from Nat.le_refl 2) (x' := (⟨y.f0, v⟩ : S64)) (k64_mkM _ _ _ (⟨y.f0, v⟩ : S64)) (fun _ hk => hk.elim)).1
  rw [hset, Int.toNat_natCast] at hr
  have n1 : s ≠ gc := blk_ne h.blk hgt (by decide)
  have n2 : go ≠ gc := blk_ne h.ord hgt (by decide)
  have n3 : gl ≠ gc := blk_ne h.low hgt (by decide)
  have n4 : gp ≠ gc := blk_ne h.part hgt (by decide)
  exact ⟨blk_far (p := ⟨gc, ys.length * 2 + 1, none⟩) h.blk n1 _, h.ord.of (Below.heap_setCell w ⟨gc, _, none⟩ _ go n2), h.low.of (Below.heap_setCell w ⟨gc, _, none⟩ _ gl n3), h.part.of (Below.heap_setCell w ⟨gc, _, none⟩ _ gp n4), h.nord, h.nlow, h.npart,
    Kd.R_set h.opn hgt (by decide) _ _, hr, h.bel.setCell (p := ⟨gc, _, none⟩) (Kd.R_base h.cls gc rfl) _, h.bs, h.bo, h.bl, h.bp, h.ol, h.op_, h.lp⟩
end
set_option maxHeartbeats 8000000 in
set_option maxRecDepth 100000 in
theorem search_goOn.calls (w0 : World) (s go gl gp n : Nat) (v0 v1 v3 v4 vo vc : Value) (A2 : Option Addr) (c2 : Nat) (g : List (List Int)) (hr2 : Kd.C (Kd.slice 3 (Kd.int .i64)) w0 A2 g.length g) (st : SrSt) (w : World) (hv : SrAt w0 w s go gl gp n v0 v1 (.slice A2 g.length c2) v3 v4 st vo vc) (r : SrSt) (h : search_goOn.f g n st = some r) :
    Calls Try.prog 20 #[.pointer (some ⟨s, 0, none⟩)] w fun e w' => e = .returned (.tuple #[]) ∧ ∃ vo' vc', SrAt w0 w' s go gl gp n v0 v1 (.slice A2 g.length c2) v3 v4 r vo' vc' := by
  unfold search_goOn.f at h
  split at h
  case isFalse => exact absurd h (by simp)
  rename_i hok
  obtain ⟨hop, hol, hcl, hca, hgn, hge⟩ := hok
  rcases snoc_cases st.calls with hn | ⟨ys, y, hcs⟩
  · rw [hn] at h
    exact absurd h (by simp)
  rw [hcs, List.getLast?_concat, List.dropLast_concat] at h
  simp only [] at h
  have hy := hca y (by rw [hcs]; simp)
  have hys : ∀ u ∈ ys, 0 ≤ u.f0 ∧ u.f0 < (n : Int) := fun u hu => by
    have := hca u (by rw [hcs]; exact List.mem_append_left _ hu)
    exact ⟨this.1, this.2.1⟩
  have hcy : ys.length + 1 ≤ 1000000 := by rw [hcs] at hcl; simpa using hcl
  have HOP := Aside0.mk hop
  have HOL := Aside0.mk hol
  have HY := Aside0.mk hy
  have HYS := Aside0.mk hys
  have HCY := Aside0.mk hcy
  have HGN := Aside0.mk hgn
  have HGE := Aside0.mk hge
  have HV := Aside0.mk hv
  have HCS := Aside0.mk hcs
  have HR2 := Aside0.mk hr2
  clear hop hol hcl hca hgn hge hy hys hcy hv hcs hr2
  obtain ⟨Ac, cc, rfl⟩ := Kd.R_slice HV.out.cls
  have hlen : st.calls.length = ys.length + 1 := by rw [HCS.out]; simp
  replace HV : Aside0 (SrAt w0 w s go gl gp n v0 v1 (.slice A2 g.length c2) v3 v4 st vo (.slice Ac (ys.length + 1) cc)) := ⟨by rw [← hlen]; exact HV.out⟩
  obtain ⟨gc, cap6, he6, _, _, cgt, hgt⟩ := Kd.R_form HV.out.cls (by omega)
  have hAe : Ac = some ⟨gc, 0, none⟩ := by injection he6
  subst hAe
  clear he6 hgt
  clear hlen
  -- the row of what it leads to
  obtain ⟨adr, ccr, er, hclr, ⟨Ar, cr, rfl, hlr, hCr⟩, hcell⟩ := Kd.C_get HR2.out ([] : List Int) y.f0 HY.out.1 (by rw [HGN.out]; exact HY.out.2.1)
  subst er
  have hx := hcell 0 _ rfl
  simp only [show (Kd.slice 3 (Kd.int .i64)).sz = 1 from rfl, Nat.mul_one, Nat.add_zero] at hx
  have HCr := Aside0.mk hCr
  have hg0 : g.getD y.f0.toNat [] ∈ g := by
    have hlt : y.f0.toNat < g.length := by have := HY.out; rw [HGN.out]; omega
    rw [List.getD_eq_getElem?_getD, List.getElem?_eq_getElem hlt]
    exact List.getElem_mem hlt
  have hgl := HGE.out _ hg0
  have HX := Aside0.mk hx
  clear hcell hclr hx hCr hg0
  unfold search_goOn.go at h
  generalize hl : g.getD y.f0.toNat [] = l at *
  have HGL := Aside0.mk hgl
  have HLR := Aside0.mk hlr
  clear hgl hlr
  have h9 : w.cell? ⟨s, 9, none⟩ = some (.slice (some ⟨gc, 0, none⟩) (ys.length + 1) cc) := (blk_cell HV.out.blk 9).trans rfl
  have h2 : w.cell? ⟨s, 2, none⟩ = some (.slice (some adr) g.length c2) := (blk_cell HV.out.blk 2).trans rfl
  have hu0 : w.cell? ⟨gc, ys.length * 2, none⟩ = some (.int .i64 y.f0) := SrAt.frame0 HV.out ys y HCS.out
  have hu2 : w.cell? ⟨gc, ys.length * 2 + 1, none⟩ = some (.int .i64 y.f1) := SrAt.frame1 HV.out ys y HCS.out
  have hxw : w.cell? (adr.add y.f0.toNat) = some (.slice Ar l.length cr) := (HV.out.bel.cell (World.block_lt_of_cell? w0 _ HX.out)).trans HX.out
  have y0 := eq_true HY.out.1
  have y1 : (y.f0 < (g.length : Int)) = True := eq_true (by rw [HGN.out]; exact HY.out.2.1)
  have hyl : (ys.length : Int) ≤ 1000000 := by have := HCY.out; omega
  by_cases c1 : y.f1 = (l.length : Int)
  · rw [if_pos c1] at h
    have c1' : (y.f1 == (l.length : Int)) = true := by simp [c1]
    have HR := Aside0.mk h
    clear h c1
    go_enter Try.func20, Try.ntmps20
    go_wp2
    go_quiet (fail)
    generalize hq : World.drewN w _ = w1
    have HV1 := Aside0.mk (show SrAt w0 w1 s go gl gp n v0 v1 (.slice (some adr) g.length c2) v3 v4 st vo (.slice (some ⟨gc, 0, none⟩) (ys.length + 1) cc) by rw [← hq]; exact HV.out.drewN _)
    clear hq h9 h2 hu0 hu2 hxw
    have h9 : w1.cell? ⟨s, 9, none⟩ = some (.slice (some ⟨gc, 0, none⟩) (ys.length + 1) cc) := (blk_cell HV1.out.blk 9).trans rfl
    have h2 : w1.cell? ⟨s, 2, none⟩ = some (.slice (some adr) g.length c2) := (blk_cell HV1.out.blk 2).trans rfl
    have hu0 : w1.cell? ⟨gc, ys.length * 2, none⟩ = some (.int .i64 y.f0) := SrAt.frame0 HV1.out ys y HCS.out
    have hu2 : w1.cell? ⟨gc, ys.length * 2 + 1, none⟩ = some (.int .i64 y.f1) := SrAt.frame1 HV1.out ys y HCS.out
    have hxw : w1.cell? (adr.add y.f0.toNat) = some (.slice Ar l.length cr) := (HV1.out.bel.cell (World.block_lt_of_cell? w0 _ HX.out)).trans HX.out
    go_wp2
    go_quiet (fail)
    generalize hq : World.drewN w1 _ = w2
    have HV2 := Aside0.mk (show SrAt w0 w2 s go gl gp n v0 v1 (.slice (some adr) g.length c2) v3 v4 st vo (.slice (some ⟨gc, 0, none⟩) (ys.length + 1) cc) by rw [← hq]; exact HV1.out.drewN _)
    clear hq h9 h2 hu0 hu2 hxw
    have h9 : w2.cell? ⟨s, 9, none⟩ = some (.slice (some ⟨gc, 0, none⟩) (ys.length + 1) cc) := (blk_cell HV2.out.blk 9).trans rfl
    have h2 : w2.cell? ⟨s, 2, none⟩ = some (.slice (some adr) g.length c2) := (blk_cell HV2.out.blk 2).trans rfl
    have hu0 : w2.cell? ⟨gc, ys.length * 2, none⟩ = some (.int .i64 y.f0) := SrAt.frame0 HV2.out ys y HCS.out
    have hu2 : w2.cell? ⟨gc, ys.length * 2 + 1, none⟩ = some (.int .i64 y.f1) := SrAt.frame1 HV2.out ys y HCS.out
    have hxw : w2.cell? (adr.add y.f0.toNat) = some (.slice Ar l.length cr) := (HV2.out.bel.cell (World.block_lt_of_cell? w0 _ HX.out)).trans HX.out
    have HFIN := Aside0.mk (search_leave.calls w0 s go gl gp n v0 v1 (.slice (some adr) g.length c2) v3 v4 vo (.slice (some ⟨gc, 0, none⟩) (ys.length + 1) cc) st ys y y.f0 HY.out.1 HY.out.2.1 HYS.out HOP.out HOL.out (by omega) HCS.out w2 HV2.out r HR.out)
    go_wp2_with (go_at_call 29; go_must (refine HFIN.out.mono ?_; rintro e w3 ⟨rfl, hv⟩; have HV3 := Aside0.mk hv; clear hv))
    refine bodyPost_ret (results_none rfl _ _ _) rfl ⟨rfl, HV3.out⟩
  · rw [if_neg c1] at h
    have c1' : (y.f1 == (l.length : Int)) = false := by simp [c1]
    have hlt : y.f1 < (l.length : Int) := by have := HY.out; omega
    have hk := HGL.out.2 (rd l y.f1) (by
      have hh : y.f1.toNat < l.length := by have := HY.out; omega
      unfold rd
      rw [List.getD_eq_getElem?_getD, List.getElem?_eq_getElem hh]
      exact List.getElem_mem hh)
    obtain ⟨adk, eak, hxk0⟩ := Kd.at_int HCr.out y.f1 HY.out.2.2.1 hlt
    subst eak
    clear c1
    generalize hkk : rd l y.f1 = k at *
    have HXK := Aside0.mk hxk0
    have HK := Aside0.mk hk
    have k0 := eq_true hk.1
    have k1 := eq_true hk.2
    have HR := Aside0.mk h
    have y2 := eq_true HY.out.2.2.1
    have y3 := eq_true hlt
    have y5 : y.f1 ≤ 1000000000000 := by have := HGL.out.1; omega
    clear hk hxk0 hkk h hlt
    have hxk : w.cell? (adk.add y.f1.toNat) = some (.int .i64 k) := (HV.out.bel.cell (World.block_lt_of_cell? w0 _ HXK.out)).trans HXK.out
    have e1 : IntKind.i64.wrap (y.f1 + 1) = y.f1 + 1 := by have := HY.out; have := of_eq_true y3; exact IntWalk.i64_in _ (by omega)
    go_enter Try.func20, Try.ntmps20
    go_wp2
    go_quiet (fail)
    generalize hq : World.drewN w _ = w1
    have HV1 := Aside0.mk (show SrAt w0 w1 s go gl gp n v0 v1 (.slice (some adr) g.length c2) v3 v4 st vo (.slice (some ⟨gc, 0, none⟩) (ys.length + 1) cc) by rw [← hq]; exact HV.out.drewN _)
    clear hq h9 h2 hu0 hu2 hxw hxk
    have h9 : w1.cell? ⟨s, 9, none⟩ = some (.slice (some ⟨gc, 0, none⟩) (ys.length + 1) cc) := (blk_cell HV1.out.blk 9).trans rfl
    have h2 : w1.cell? ⟨s, 2, none⟩ = some (.slice (some adr) g.length c2) := (blk_cell HV1.out.blk 2).trans rfl
    have hu0 : w1.cell? ⟨gc, ys.length * 2, none⟩ = some (.int .i64 y.f0) := SrAt.frame0 HV1.out ys y HCS.out
    have hu2 : w1.cell? ⟨gc, ys.length * 2 + 1, none⟩ = some (.int .i64 y.f1) := SrAt.frame1 HV1.out ys y HCS.out
    have hxw : w1.cell? (adr.add y.f0.toNat) = some (.slice (some adk) l.length cr) := (HV1.out.bel.cell (World.block_lt_of_cell? w0 _ HX.out)).trans HX.out
    have hxk : w1.cell? (adk.add y.f1.toNat) = some (.int .i64 k) := (HV1.out.bel.cell (World.block_lt_of_cell? w0 _ HXK.out)).trans HXK.out
    go_wp2
    go_quiet (fail)
    generalize hq : World.drewN w1 _ = w2
    have HV2 := Aside0.mk (show SrAt w0 w2 s go gl gp n v0 v1 (.slice (some adr) g.length c2) v3 v4 st vo (.slice (some ⟨gc, 0, none⟩) (ys.length + 1) cc) by rw [← hq]; exact HV1.out.drewN _)
    clear hq h9 h2 hu0 hu2 hxw hxk
    have h9 : w2.cell? ⟨s, 9, none⟩ = some (.slice (some ⟨gc, 0, none⟩) (ys.length + 1) cc) := (blk_cell HV2.out.blk 9).trans rfl
    have h2 : w2.cell? ⟨s, 2, none⟩ = some (.slice (some adr) g.length c2) := (blk_cell HV2.out.blk 2).trans rfl
    have hu0 : w2.cell? ⟨gc, ys.length * 2, none⟩ = some (.int .i64 y.f0) := SrAt.frame0 HV2.out ys y HCS.out
    have hu2 : w2.cell? ⟨gc, ys.length * 2 + 1, none⟩ = some (.int .i64 y.f1) := SrAt.frame1 HV2.out ys y HCS.out
    have hxw : w2.cell? (adr.add y.f0.toNat) = some (.slice (some adk) l.length cr) := (HV2.out.bel.cell (World.block_lt_of_cell? w0 _ HX.out)).trans HX.out
    have hxk : w2.cell? (adk.add y.f1.toNat) = some (.int .i64 k) := (HV2.out.bel.cell (World.block_lt_of_cell? w0 _ HXK.out)).trans HXK.out
    go_wp2
    go_quiet (fail)
    generalize hq : World.drewN w2 _ = w3
    have HV3 := Aside0.mk (show SrAt w0 w3 s go gl gp n v0 v1 (.slice (some adr) g.length c2) v3 v4 st vo (.slice (some ⟨gc, 0, none⟩) (ys.length + 1) cc) by rw [← hq]; exact HV2.out.drewN _)
    clear hq h9 h2 hu0 hu2 hxw hxk
    have hu2 : w3.cell? ⟨gc, ys.length * 2 + 1, none⟩ = some (.int .i64 y.f1) := SrAt.frame1 HV3.out ys y HCS.out
    have fu2 : w3.frozen? ⟨gc, ys.length * 2 + 1, none⟩ = false := by
      obtain ⟨cells, hh⟩ := Kd.R_typed HV3.out.cls gc rfl
      exact blk_frozen hh _
    go_upto_if 62 with ((with_reducible refine gate_store (t := 3) (p := 61) (v := .tmp 59) rfl ?_); go_must (refine store_event (t := 3) (p := 61) (v := .tmp 59) (w1 := (w3.setCell ⟨gc, ys.length * 2 + 1, none⟩ (.int .i64 (y.f1 + 1)))) ?hg ?ho ?hn ?hr ?_; (case ho => rfl); (case hg => rfl); (case hn => rfl); (case hr => first | (go_simp; done) | (go_simp; rfl)); intro w4 hw; have HV4 := Aside0.mk (show SrAt w0 w4 s go gl gp n v0 v1 (.slice (some adr) g.length c2) v3 v4 { st with calls := ys ++ [⟨y.f0, y.f1 + 1⟩] } vo (.slice (some ⟨gc, 0, none⟩) (ys.length + 1) cc) by rw [hw]; exact HV3.out.setNext ys y HCS.out _); clear hw; have h5 : w4.cell? ⟨s, 5, none⟩ = some (.slice (some ⟨go, 0, none⟩) n n) := (blk_cell HV4.out.blk 5).trans rfl; have hok := HV4.out.ord.cell k HK.out.1 (by rw [HV4.out.nord]; exact HK.out.2)))
    by_cases d1 : rd st.order k = 0
    · have d1' : (rd st.order k == 0) = true := by simp [d1]
      have hr := HR.out
      rw [if_pos d1] at hr
      obtain rfl := Option.some.inj hr
      clear hr d1
      go_wp2_with (go_at_call 19; go_must (refine (search_enter.calls w0 s go gl gp n v0 v1 (.slice (some adr) g.length c2) v3 v4 vo (.slice (some ⟨gc, 0, none⟩) (ys.length + 1) cc) ({ st with calls := ys ++ [⟨y.f0, y.f1 + 1⟩] } : SrSt) k HK.out.1 HK.out.2 HOL.out (by show (ys ++ [(⟨y.f0, y.f1 + 1⟩ : S64)]).length ≤ 1000000; rw [List.length_append]; exact HCY.out) w4 HV4.out).mono ?_; rintro e w5 ⟨rfl, hv⟩; have HV5 := Aside0.mk hv; clear hv))
      go_end0
      exact ⟨rfl, HV5.out⟩
    · have d1' : (rd st.order k == 0) = false := by simp [d1]
      have hr := HR.out
      rw [if_neg d1] at hr
      clear d1
      have h7 : w4.cell? ⟨s, 7, none⟩ = some (.slice (some ⟨gp, 0, none⟩) n n) := (blk_cell HV4.out.blk 7).trans rfl
      have hpk := HV4.out.part.cell k HK.out.1 (by rw [HV4.out.npart]; exact HK.out.2)
      by_cases d2 : rd st.part k < 0
      · have d2' : decide (rd st.part k < 0) = true := decide_eq_true d2
        rw [if_pos d2] at hr
        obtain rfl := Option.some.inj hr
        clear hr d2
        have h6 : w4.cell? ⟨s, 6, none⟩ = some (.slice (some ⟨gl, 0, none⟩) n n) := (blk_cell HV4.out.blk 6).trans rfl
        have hu0 : w4.cell? ⟨gc, ys.length * 2, none⟩ = some (.int .i64 y.f0) := SrAt.frame0 HV4.out ys ⟨y.f0, y.f1 + 1⟩ rfl
        have hlo := HV4.out.low.cell y.f0 HY.out.1 (by rw [HV4.out.nlow]; exact HY.out.2.1)
        have y4 : (y.f0 < (n : Int)) = True := eq_true HY.out.2.1
        go_wp2
        go_still_tail 27, (by kernel_rfl)
        change wpList _ _ _ _ _ w4.drew
        generalize hmn : (if rd st.order k < rd st.low y.f0 then rd st.order k else rd st.low y.f0) = vm
        have HMN := Aside0.mk (show vm = mn (rd st.low y.f0) (rd st.order k) from hmn.symm)
        clear hmn
        generalize hq3 : w4.drew = w5
        have HV5 := Aside0.mk (show SrAt w0 w5 s go gl gp n v0 v1 (.slice (some adr) g.length c2) v3 v4 { st with calls := ys ++ [⟨y.f0, y.f1 + 1⟩] } vo (.slice (some ⟨gc, 0, none⟩) (ys.length + 1) cc) by rw [← hq3]; exact HV4.out.drew)
        clear hq3 h6 h7 h5 hu0 hlo hpk hok
        have hlu := HV5.out.low.cell y.f0 HY.out.1 (by rw [HV5.out.nlow]; exact HY.out.2.1)
        have flu := blk_frozen HV5.out.low y.f0.toNat
        go_wp2
        go_end0
        exact ⟨rfl, _, _, by rw [← HMN.out]; exact HV5.out.setLow y.f0 vm⟩
      · have d2' : decide (rd st.part k < 0) = false := decide_eq_false d2
        rw [if_neg d2] at hr
        obtain rfl := Option.some.inj hr
        clear hr d2
        go_wp2
        go_end0
        exact ⟨rfl, _, _, HV4.out⟩

end Go.Proofs.Ytpkigkmkolbiiaa.P
end
