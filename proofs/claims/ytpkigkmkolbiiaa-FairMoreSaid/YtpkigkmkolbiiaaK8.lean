-- PACKED by pack.py of this repo: FSearchGoOn QGraph QReached QKeepGraph
import Derived.WalkSpells
import Derived.StillTailTactics
import Derived.IntWalk
import Derived.Test.YtpkigkmkolbiiaaK2
import Derived.Test.YtpkigkmkolbiiaaK3
import Derived.Test.YtpkigkmkolbiiaaK7
import Derived.Test.YtpkigkmkolbiiaaK6
import Derived.Test.YtpkigkmkolbiiaaK4
section
namespace Go.Proofs.Ytpkigkmkolbiiaa.P
open Go.RowKit Go.Proofs.YtpkigkmkolbiiaaW.PrintWords Go.Proofs.YtpkigkmkolbiiaaW.PrintLast Go.Proofs.YtpkigkmkolbiiaaW.PrintMore Go.Proofs.Ytpkigkmkolbiiaa.G
attribute [local go_sem] max2_int min2_int max_two min_two max_three min_three max_four min_four   -- for this text's walks alone
set_option linter.unusedVariables false
set_option linter.unusedSimpArgs false

--IMPORT FSearchLeave
--IMPORT Derived.WalkSpells
--IMPORT Derived.StillTailTactics
--IMPORT Derived.IntWalk
/-! ### search_goOn: function 20 -/
/-- What a search keeps while it goes on. -/
def SrOk (g : List (List Int)) (n : Nat) (st : SrSt) : Prop :=
  (∀ k ∈ st.opn, 0 ≤ k ∧ k < (n : Int)) ∧ st.opn.length ≤ 1000000 ∧ st.calls.length ≤ 1000000 ∧ (∀ u ∈ st.calls, 0 ≤ u.f0 ∧ u.f0 < (n : Int) ∧ 0 ≤ u.f1 ∧ u.f1 ≤ ((g.getD u.f0.toNat []).length : Int)) ∧ g.length = n ∧ (∀ l ∈ g, l.length ≤ 1000000000000 ∧ ∀ k ∈ l, 0 ≤ k ∧ k < (n : Int))
def search_goOn.go (g : List (List Int)) (st : SrSt) (ys : List S64) (y : S64) : Option SrSt :=
  if y.f1 = ((g.getD y.f0.toNat []).length : Int) then search_leave.f ys st y.f0
  else if rd st.order (rd (g.getD y.f0.toNat []) y.f1) = 0 then some (search_enter.st { st with calls := ys ++ [⟨y.f0, y.f1 + 1⟩] } (rd (g.getD y.f0.toNat []) y.f1))
  else if rd st.part (rd (g.getD y.f0.toNat []) y.f1) < 0 then some { st with calls := ys ++ [⟨y.f0, y.f1 + 1⟩], low := st.low.set y.f0.toNat (mn (rd st.low y.f0) (rd st.order (rd (g.getD y.f0.toNat []) y.f1))) }
  else some { st with calls := ys ++ [⟨y.f0, y.f1 + 1⟩] }
instance (g : List (List Int)) (n : Nat) (st : SrSt) : Decidable (SrOk g n st) := by unfold SrOk; exact inferInstance
def search_goOn.f (g : List (List Int)) (n : Nat) (st : SrSt) : Option SrSt :=
  if SrOk g n st then
    match st.calls.getLast? with
    | none => none
    | some y => search_goOn.go g st st.calls.dropLast y
  else none
section
variable {w0 w w' : World} {s go gl gp n : Nat} {v0 v1 v2 v3 v4 vo vc : Value} {st : SrSt}
theorem SrAt.frame0 {gc m c : Nat} (h : SrAt w0 w s go gl gp n v0 v1 v2 v3 v4 st vo (.slice (some ⟨gc, 0, none⟩) m c)) (ys : List S64) (y : S64) (hc : st.calls = ys ++ [y]) : w.cell? ⟨gc, ys.length * 2, none⟩ = some (.int .i64 y.f0) := by
  have hm : m = st.calls.length := (Kd.R_reads' h.cls).1
  have hlen : st.calls.length = ys.length + 1 := by rw [hc]; simp
  obtain ⟨ad, ead, hu0, hu1⟩ := at_T64 (Kd.R_reads' h.cls).2.2 (ys.length : Int) (by omega) (by omega)
  obtain rfl : ad = ⟨gc, 0, none⟩ := by injection ead with h_; exact h_.symm
  have hrd : rd_T64 st.calls (ys.length : Int) = y := by rw [hc]; simp [rd_T64]
  rw [hrd, Int.toNat_natCast, addr_at] at hu0
  exact hu0
theorem SrAt.frame1 {gc m c : Nat} (h : SrAt w0 w s go gl gp n v0 v1 v2 v3 v4 st vo (.slice (some ⟨gc, 0, none⟩) m c)) (ys : List S64) (y : S64) (hc : st.calls = ys ++ [y]) : w.cell? ⟨gc, ys.length * 2 + 1, none⟩ = some (.int .i64 y.f1) := by
  have hm : m = st.calls.length := (Kd.R_reads' h.cls).1
  have hlen : st.calls.length = ys.length + 1 := by rw [hc]; simp
  obtain ⟨ad, ead, hu0, hu1⟩ := at_T64 (Kd.R_reads' h.cls).2.2 (ys.length : Int) (by omega) (by omega)
  obtain rfl : ad = ⟨gc, 0, none⟩ := by injection ead with h_; exact h_.symm
  have hrd : rd_T64 st.calls (ys.length : Int) = y := by rw [hc]; simp [rd_T64]
  rw [hrd, Int.toNat_natCast, addr_at] at hu1
  exact hu1
/-- The last frame goes on. -/
theorem SrAt.setNext {gc m c : Nat} (h : SrAt w0 w s go gl gp n v0 v1 v2 v3 v4 st vo (.slice (some ⟨gc, 0, none⟩) m c)) (ys : List S64) (y : S64) (hc : st.calls = ys ++ [y]) (v : Int) :
    SrAt w0 (w.setCell ⟨gc, ys.length * 2 + 1, none⟩ (.int .i64 v)) s go gl gp n v0 v1 v2 v3 v4 { st with calls := ys ++ [⟨y.f0, v⟩] } vo (.slice (some ⟨gc, 0, none⟩) m c) := by
  have hm : m = st.calls.length := (Kd.R_reads' h.cls).1
  have hlen : st.calls.length = ys.length + 1 := by rw [hc]; simp
  obtain ⟨g', cap6, he6, _, _, cgt, hgt⟩ := Kd.R_form h.cls (by omega)
  cases he6
  obtain ⟨ad, ead, hu0, hu1⟩ := at_T64 (Kd.R_reads' h.cls).2.2 (ys.length : Int) (by omega) (by omega)
  obtain rfl : ad = ⟨gc, 0, none⟩ := by injection ead with h_; exact h_.symm
  have hrd : rd_T64 st.calls (ys.length : Int) = y := by rw [hc]; simp [rd_T64]
  rw [hrd, Int.toNat_natCast, addr_at] at hu0 hu1
  have hset : st.calls.set ((ys.length : Int)).toNat (⟨y.f0, v⟩ : S64) = ys ++ [⟨y.f0, v⟩] := by rw [hc, Int.toNat_natCast]; simp
  have hr := (Kd.R_seg (okp := fun _ => False) h.cls (ys.length : Int) (by omega) (by omega) (c := [.int .i64 y.f0, .int .i64 y.f1]) (seg := [.int .i64 v]) (j := 1) rfl (by
    intro j u hj
    rw [Int.toNat_natCast]
    match j, hj with
    | 0, hj => exact hu0.trans hj
    | 1, hj => exact hu1.trans hj) (show 2 ≤ 2 from Nat.le_refl 2) (x' := (⟨y.f0, v⟩ : S64)) (k64_mkM _ _ _ (⟨y.f0, v⟩ : S64)) (fun _ hk => hk.elim)).1
  rw [hset, Int.toNat_natCast] at hr
  have n1 : s ≠ gc := blk_ne h.blk hgt (by decide)
  have n2 : go ≠ gc := blk_ne h.ord hgt (by decide)
  have n3 : gl ≠ gc := blk_ne h.low hgt (by decide)
  have n4 : gp ≠ gc := blk_ne h.part hgt (by decide)
  exact ⟨blk_far (p := ⟨gc, ys.length * 2 + 1, none⟩) h.blk n1 _, h.ord.of (Below.heap_setCell w ⟨gc, _, none⟩ _ go n2), h.low.of (Below.heap_setCell w ⟨gc, _, none⟩ _ gl n3), h.part.of (Below.heap_setCell w ⟨gc, _, none⟩ _ gp n4), h.nord, h.nlow, h.npart,
    Kd.R_set h.opn hgt (by decide) _ _, hr, h.bel.setCell (p := ⟨gc, _, none⟩) (Kd.R_base h.cls gc rfl) _, h.bs, h.bo, h.bl, h.bp, h.ol, h.op_, h.lp⟩
end
set_option maxHeartbeats 8000000 in
set_option maxRecDepth 100000 in
theorem search_goOn.calls (w0 : World) (s go gl gp n : Nat) (v0 v1 v3 v4 vo vc : Value) (A2 : Option Addr) (c2 : Nat) (g : List (List Int)) (hr2 : Kd.C (Kd.slice 3 (Kd.int .i64)) w0 A2 g.length g) (st : SrSt) (w : World) (hv : SrAt w0 w s go gl gp n v0 v1 (.slice A2 g.length c2) v3 v4 st vo vc) (r : SrSt) (h : search_goOn.f g n st = some r) :
    Calls Try.prog 20 #[.pointer (some ⟨s, 0, none⟩)] w fun e w' => e = .returned (.tuple #[]) ∧ ∃ vo' vc', SrAt w0 w' s go gl gp n v0 v1 (.slice A2 g.length c2) v3 v4 r vo' vc' := by
  unfold search_goOn.f at h
  split at h
  case isFalse => exact absurd h (by simp)
  rename_i hok
  obtain ⟨hop, hol, hcl, hca, hgn, hge⟩ := hok
  rcases snoc_cases st.calls with hn | ⟨ys, y, hcs⟩
  · rw [hn] at h
    exact absurd h (by simp)
  rw [hcs, List.getLast?_concat, List.dropLast_concat] at h
  simp only [] at h
  have hy := hca y (by rw [hcs]; simp)
  have hys : ∀ u ∈ ys, 0 ≤ u.f0 ∧ u.f0 < (n : Int) := fun u hu => by
    have := hca u (by rw [hcs]; exact List.mem_append_left _ hu)
    exact ⟨this.1, this.2.1⟩
  have hcy : ys.length + 1 ≤ 1000000 := by rw [hcs] at hcl; simpa using hcl
  have HOP := Aside0.mk hop
  have HOL := Aside0.mk hol
  have HY := Aside0.mk hy
  have HYS := Aside0.mk hys
  have HCY := Aside0.mk hcy
  have HGN := Aside0.mk hgn
  have HGE := Aside0.mk hge
  have HV := Aside0.mk hv
  have HCS := Aside0.mk hcs
  have HR2 := Aside0.mk hr2
  clear hop hol hcl hca hgn hge hy hys hcy hv hcs hr2
  obtain ⟨Ac, cc, rfl⟩ := Kd.R_slice HV.out.cls
  have hlen : st.calls.length = ys.length + 1 := by rw [HCS.out]; simp
  replace HV : Aside0 (SrAt w0 w s go gl gp n v0 v1 (.slice A2 g.length c2) v3 v4 st vo (.slice Ac (ys.length + 1) cc)) := ⟨by rw [← hlen]; exact HV.out⟩
  obtain ⟨gc, cap6, he6, _, _, cgt, hgt⟩ := Kd.R_form HV.out.cls (by omega)
  have hAe : Ac = some ⟨gc, 0, none⟩ := by injection he6
  subst hAe
  clear he6 hgt
  clear hlen
  -- the row of what it leads to
  obtain ⟨adr, ccr, er, hclr, ⟨Ar, cr, rfl, hlr, hCr⟩, hcell⟩ := Kd.C_get HR2.out ([] : List Int) y.f0 HY.out.1 (by rw [HGN.out]; exact HY.out.2.1)
  subst er
  have hx := hcell 0 _ rfl
  simp only [show (Kd.slice 3 (Kd.int .i64)).sz = 1 from rfl, Nat.mul_one, Nat.add_zero] at hx
  have HCr := Aside0.mk hCr
  have hg0 : g.getD y.f0.toNat [] ∈ g := by
    have hlt : y.f0.toNat < g.length := by have := HY.out; rw [HGN.out]; omega
    rw [List.getD_eq_getElem?_getD, List.getElem?_eq_getElem hlt]
    exact List.getElem_mem hlt
  have hgl := HGE.out _ hg0
  have HX := Aside0.mk hx
  clear hcell hclr hx hCr hg0
  unfold search_goOn.go at h
  generalize hl : g.getD y.f0.toNat [] = l at *
  have HGL := Aside0.mk hgl
  have HLR := Aside0.mk hlr
  clear hgl hlr
  have h9 : w.cell? ⟨s, 9, none⟩ = some (.slice (some ⟨gc, 0, none⟩) (ys.length + 1) cc) := (blk_cell HV.out.blk 9).trans rfl
  have h2 : w.cell? ⟨s, 2, none⟩ = some (.slice (some adr) g.length c2) := (blk_cell HV.out.blk 2).trans rfl
  have hu0 : w.cell? ⟨gc, ys.length * 2, none⟩ = some (.int .i64 y.f0) := SrAt.frame0 HV.out ys y HCS.out
  have hu2 : w.cell? ⟨gc, ys.length * 2 + 1, none⟩ = some (.int .i64 y.f1) := SrAt.frame1 HV.out ys y HCS.out
  have hxw : w.cell? (adr.add y.f0.toNat) = some (.slice Ar l.length cr) := (HV.out.bel.cell (World.block_lt_of_cell? w0 _ HX.out)).trans HX.out
  have y0 := eq_true HY.out.1
  have y1 : (y.f0 < (g.length : Int)) = True := eq_true (by rw [HGN.out]; exact HY.out.2.1)
  have hyl : (ys.length : Int) ≤ 1000000 := by have := HCY.out; omega
  by_cases c1 : y.f1 = (l.length : Int)
  · rw [if_pos c1] at h
    have c1' : (y.f1 == (l.length : Int)) = true := by simp [c1]
    have HR := Aside0.mk h
    clear h c1
    go_enter Try.func20, Try.ntmps20
    go_wp2
    go_quiet (fail)
    generalize hq : World.drewN w _ = w1
    have HV1 := Aside0.mk (show SrAt w0 w1 s go gl gp n v0 v1 (.slice (some adr) g.length c2) v3 v4 st vo (.slice (some ⟨gc, 0, none⟩) (ys.length + 1) cc) by rw [← hq]; exact HV.out.drewN _)
    clear hq h9 h2 hu0 hu2 hxw
    have h9 : w1.cell? ⟨s, 9, none⟩ = some (.slice (some ⟨gc, 0, none⟩) (ys.length + 1) cc) := (blk_cell HV1.out.blk 9).trans rfl
    have h2 : w1.cell? ⟨s, 2, none⟩ = some (.slice (some adr) g.length c2) := (blk_cell HV1.out.blk 2).trans rfl
    have hu0 : w1.cell? ⟨gc, ys.length * 2, none⟩ = some (.int .i64 y.f0) := SrAt.frame0 HV1.out ys y HCS.out
    have hu2 : w1.cell? ⟨gc, ys.length * 2 + 1, none⟩ = some (.int .i64 y.f1) := SrAt.frame1 HV1.out ys y HCS.out
    have hxw : w1.cell? (adr.add y.f0.toNat) = some (.slice Ar l.length cr) := (HV1.out.bel.cell (World.block_lt_of_cell? w0 _ HX.out)).trans HX.out
    go_wp2
    go_quiet (fail)
    generalize hq : World.drewN w1 _ = w2
    have HV2 := Aside0.mk (show SrAt w0 w2 s go gl gp n v0 v1 (.slice (some adr) g.length c2) v3 v4 st vo (.slice (some ⟨gc, 0, none⟩) (ys.length + 1) cc) by rw [← hq]; exact HV1.out.drewN _)
    clear hq h9 h2 hu0 hu2 hxw
    have h9 : w2.cell? ⟨s, 9, none⟩ = some (.slice (some ⟨gc, 0, none⟩) (ys.length + 1) cc) := (blk_cell HV2.out.blk 9).trans rfl
    have h2 : w2.cell? ⟨s, 2, none⟩ = some (.slice (some adr) g.length c2) := (blk_cell HV2.out.blk 2).trans rfl
    have hu0 : w2.cell? ⟨gc, ys.length * 2, none⟩ = some (.int .i64 y.f0) := SrAt.frame0 HV2.out ys y HCS.out
    have hu2 : w2.cell? ⟨gc, ys.length * 2 + 1, none⟩ = some (.int .i64 y.f1) := SrAt.frame1 HV2.out ys y HCS.out
    have hxw : w2.cell? (adr.add y.f0.toNat) = some (.slice Ar l.length cr) := (HV2.out.bel.cell (World.block_lt_of_cell? w0 _ HX.out)).trans HX.out
    have HFIN := Aside0.mk (search_leave.calls w0 s go gl gp n v0 v1 (.slice (some adr) g.length c2) v3 v4 vo (.slice (some ⟨gc, 0, none⟩) (ys.length + 1) cc) st ys y y.f0 HY.out.1 HY.out.2.1 HYS.out HOP.out HOL.out (by omega) HCS.out w2 HV2.out r HR.out)
    go_wp2_with (go_at_call 29; go_must (refine HFIN.out.mono ?_; rintro e w3 ⟨rfl, hv⟩; have HV3 := Aside0.mk hv; clear hv))
    refine bodyPost_ret (results_none rfl _ _ _) rfl ⟨rfl, HV3.out⟩
  · rw [if_neg c1] at h
    have c1' : (y.f1 == (l.length : Int)) = false := by simp [c1]
    have hlt : y.f1 < (l.length : Int) := by have := HY.out; omega
    have hk := HGL.out.2 (rd l y.f1) (by
      have hh : y.f1.toNat < l.length := by have := HY.out; omega
      unfold rd
      rw [List.getD_eq_getElem?_getD, List.getElem?_eq_getElem hh]
      exact List.getElem_mem hh)
    obtain ⟨adk, eak, hxk0⟩ := Kd.at_int HCr.out y.f1 HY.out.2.2.1 hlt
    subst eak
    clear c1
    generalize hkk : rd l y.f1 = k at *
    have HXK := Aside0.mk hxk0
    have HK := Aside0.mk hk
    have k0 := eq_true hk.1
    have k1 := eq_true hk.2
    have HR := Aside0.mk h
    have y2 := eq_true HY.out.2.2.1
    have y3 := eq_true hlt
    have y5 : y.f1 ≤ 1000000000000 := by have := HGL.out.1; omega
    clear hk hxk0 hkk h hlt
    have hxk : w.cell? (adk.add y.f1.toNat) = some (.int .i64 k) := (HV.out.bel.cell (World.block_lt_of_cell? w0 _ HXK.out)).trans HXK.out
    have e1 : IntKind.i64.wrap (y.f1 + 1) = y.f1 + 1 := by have := HY.out; have := of_eq_true y3; exact IntWalk.i64_in _ (by omega)
    go_enter Try.func20, Try.ntmps20
    go_wp2
    go_quiet (fail)
    generalize hq : World.drewN w _ = w1
    have HV1 := Aside0.mk (show SrAt w0 w1 s go gl gp n v0 v1 (.slice (some adr) g.length c2) v3 v4 st vo (.slice (some ⟨gc, 0, none⟩) (ys.length + 1) cc) by rw [← hq]; exact HV.out.drewN _)
    clear hq h9 h2 hu0 hu2 hxw hxk
    have h9 : w1.cell? ⟨s, 9, none⟩ = some (.slice (some ⟨gc, 0, none⟩) (ys.length + 1) cc) := (blk_cell HV1.out.blk 9).trans rfl
    have h2 : w1.cell? ⟨s, 2, none⟩ = some (.slice (some adr) g.length c2) := (blk_cell HV1.out.blk 2).trans rfl
    have hu0 : w1.cell? ⟨gc, ys.length * 2, none⟩ = some (.int .i64 y.f0) := SrAt.frame0 HV1.out ys y HCS.out
    have hu2 : w1.cell? ⟨gc, ys.length * 2 + 1, none⟩ = some (.int .i64 y.f1) := SrAt.frame1 HV1.out ys y HCS.out
    have hxw : w1.cell? (adr.add y.f0.toNat) = some (.slice (some adk) l.length cr) := (HV1.out.bel.cell (World.block_lt_of_cell? w0 _ HX.out)).trans HX.out
    have hxk : w1.cell? (adk.add y.f1.toNat) = some (.int .i64 k) := (HV1.out.bel.cell (World.block_lt_of_cell? w0 _ HXK.out)).trans HXK.out
    go_wp2
    go_quiet (fail)
    generalize hq : World.drewN w1 _ = w2
    have HV2 := Aside0.mk (show SrAt w0 w2 s go gl gp n v0 v1 (.slice (some adr) g.length c2) v3 v4 st vo (.slice (some ⟨gc, 0, none⟩) (ys.length + 1) cc) by rw [← hq]; exact HV1.out.drewN _)
    clear hq h9 h2 hu0 hu2 hxw hxk
    have h9 : w2.cell? ⟨s, 9, none⟩ = some (.slice (some ⟨gc, 0, none⟩) (ys.length + 1) cc) := (blk_cell HV2.out.blk 9).trans rfl
    have h2 : w2.cell? ⟨s, 2, none⟩ = some (.slice (some adr) g.length c2) := (blk_cell HV2.out.blk 2).trans rfl
    have hu0 : w2.cell? ⟨gc, ys.length * 2, none⟩ = some (.int .i64 y.f0) := SrAt.frame0 HV2.out ys y HCS.out
    have hu2 : w2.cell? ⟨gc, ys.length * 2 + 1, none⟩ = some (.int .i64 y.f1) := SrAt.frame1 HV2.out ys y HCS.out
    have hxw : w2.cell? (adr.add y.f0.toNat) = some (.slice (some adk) l.length cr) := (HV2.out.bel.cell (World.block_lt_of_cell? w0 _ HX.out)).trans HX.out
    have hxk : w2.cell? (adk.add y.f1.toNat) = some (.int .i64 k) := (HV2.out.bel.cell (World.block_lt_of_cell? w0 _ HXK.out)).trans HXK.out
    go_wp2
    go_quiet (fail)
    generalize hq : World.drewN w2 _ = w3
    have HV3 := Aside0.mk (show SrAt w0 w3 s go gl gp n v0 v1 (.slice (some adr) g.length c2) v3 v4 st vo (.slice (some ⟨gc, 0, none⟩) (ys.length + 1) cc) by rw [← hq]; exact HV2.out.drewN _)
    clear hq h9 h2 hu0 hu2 hxw hxk
    have hu2 : w3.cell? ⟨gc, ys.length * 2 + 1, none⟩ = some (.int .i64 y.f1) := SrAt.frame1 HV3.out ys y HCS.out
    have fu2 : w3.frozen? ⟨gc, ys.length * 2 + 1, none⟩ = false := by
      obtain ⟨cells, hh⟩ := Kd.R_typed HV3.out.cls gc rfl
      exact blk_frozen hh _
    go_upto_if 62 with ((with_reducible refine gate_store (t := 3) (p := 61) (v := .tmp 59) rfl ?_); go_must (refine store_event (t := 3) (p := 61) (v := .tmp 59) (w1 := (w3.setCell ⟨gc, ys.length * 2 + 1, none⟩ (.int .i64 (y.f1 + 1)))) ?hg ?ho ?hn ?hr ?_; (case ho => rfl); (case hg => rfl); (case hn => rfl); (case hr => first | (go_simp; done) | (go_simp; rfl)); intro w4 hw; have HV4 := Aside0.mk (show SrAt w0 w4 s go gl gp n v0 v1 (.slice (some adr) g.length c2) v3 v4 { st with calls := ys ++ [⟨y.f0, y.f1 + 1⟩] } vo (.slice (some ⟨gc, 0, none⟩) (ys.length + 1) cc) by rw [hw]; exact HV3.out.setNext ys y HCS.out _); clear hw; have h5 : w4.cell? ⟨s, 5, none⟩ = some (.slice (some ⟨go, 0, none⟩) n n) := (blk_cell HV4.out.blk 5).trans rfl; have hok := HV4.out.ord.cell k HK.out.1 (by rw [HV4.out.nord]; exact HK.out.2)))
    by_cases d1 : rd st.order k = 0
    · have d1' : (rd st.order k == 0) = true := by simp [d1]
      have hr := HR.out
      rw [if_pos d1] at hr
      obtain rfl := Option.some.inj hr
      clear hr d1
      go_wp2_with (go_at_call 19; go_must (refine (search_enter.calls w0 s go gl gp n v0 v1 (.slice (some adr) g.length c2) v3 v4 vo (.slice (some ⟨gc, 0, none⟩) (ys.length + 1) cc) ({ st with calls := ys ++ [⟨y.f0, y.f1 + 1⟩] } : SrSt) k HK.out.1 HK.out.2 HOL.out (by show (ys ++ [(⟨y.f0, y.f1 + 1⟩ : S64)]).length ≤ 1000000; rw [List.length_append]; exact HCY.out) w4 HV4.out).mono ?_; rintro e w5 ⟨rfl, hv⟩; have HV5 := Aside0.mk hv; clear hv))
      go_end0
      exact ⟨rfl, HV5.out⟩
    · have d1' : (rd st.order k == 0) = false := by simp [d1]
      have hr := HR.out
      rw [if_neg d1] at hr
      clear d1
      have h7 : w4.cell? ⟨s, 7, none⟩ = some (.slice (some ⟨gp, 0, none⟩) n n) := (blk_cell HV4.out.blk 7).trans rfl
      have hpk := HV4.out.part.cell k HK.out.1 (by rw [HV4.out.npart]; exact HK.out.2)
      by_cases d2 : rd st.part k < 0
      · have d2' : decide (rd st.part k < 0) = true := decide_eq_true d2
        rw [if_pos d2] at hr
        obtain rfl := Option.some.inj hr
        clear hr d2
        have h6 : w4.cell? ⟨s, 6, none⟩ = some (.slice (some ⟨gl, 0, none⟩) n n) := (blk_cell HV4.out.blk 6).trans rfl
        have hu0 : w4.cell? ⟨gc, ys.length * 2, none⟩ = some (.int .i64 y.f0) := SrAt.frame0 HV4.out ys ⟨y.f0, y.f1 + 1⟩ rfl
        have hlo := HV4.out.low.cell y.f0 HY.out.1 (by rw [HV4.out.nlow]; exact HY.out.2.1)
        have y4 : (y.f0 < (n : Int)) = True := eq_true HY.out.2.1
        go_wp2
        go_still_tail 27, (by kernel_rfl)
        change wpList _ _ _ _ _ w4.drew
        generalize hmn : (if rd st.order k < rd st.low y.f0 then rd st.order k else rd st.low y.f0) = vm
        have HMN := Aside0.mk (show vm = mn (rd st.low y.f0) (rd st.order k) from hmn.symm)
        clear hmn
        generalize hq3 : w4.drew = w5
        have HV5 := Aside0.mk (show SrAt w0 w5 s go gl gp n v0 v1 (.slice (some adr) g.length c2) v3 v4 { st with calls := ys ++ [⟨y.f0, y.f1 + 1⟩] } vo (.slice (some ⟨gc, 0, none⟩) (ys.length + 1) cc) by rw [← hq3]; exact HV4.out.drew)
        clear hq3 h6 h7 h5 hu0 hlo hpk hok
        have hlu := HV5.out.low.cell y.f0 HY.out.1 (by rw [HV5.out.nlow]; exact HY.out.2.1)
        have flu := blk_frozen HV5.out.low y.f0.toNat
        go_wp2
        go_end0
        exact ⟨rfl, _, _, by rw [← HMN.out]; exact HV5.out.setLow y.f0 vm⟩
      · have d2' : decide (rd st.part k < 0) = false := decide_eq_false d2
        rw [if_neg d2] at hr
        obtain rfl := Option.some.inj hr
        clear hr d2
        go_wp2
        go_end0
        exact ⟨rfl, _, _, HV4.out⟩

end Go.Proofs.Ytpkigkmkolbiiaa.P
end
section
namespace Go.Proofs.Ytpkigkmkolbiiaa.Q
open Go.RowKit Go.Proofs.YtpkigkmkolbiiaaW.PrintWords Go.Proofs.YtpkigkmkolbiiaaW.PrintMore Go.Proofs.Ytpkigkmkolbiiaa.P
set_option linter.unusedVariables false
inductive Rch (nx : List (List Int)) : Int → Int → Prop
  | refl (a : Int) : Rch nx a a
  | tail {a b c : Int} : Rch nx a b → c ∈ rd_L1 nx b → Rch nx a c
theorem Rch.trans {nx : List (List Int)} {a b c : Int} (h : Rch nx a b) (h2 : Rch nx b c) : Rch nx a c := by
  induction h2 with
  | refl => exact h
  | tail _ hc ih => exact ih.tail hc
def sn (seen : List Bool) (j : Int) : Prop := rdOf false seen j = true
structure Gr (n : Nat) (nx : List (List Int)) : Prop where
  len : nx.length = n
  le : n ≤ 20000
  ok : ∀ a : Int, 0 ≤ a → a < n → ∀ b ∈ rd_L1 nx a, 0 ≤ b ∧ b < n
  len2 : ∀ a : Int, (rd_L1 nx a).length < 4611686018427387904
theorem Rch.rng {n : Nat} {nx : List (List Int)} (g : Gr n nx) {a b : Int} (h : Rch nx a b) (h0 : 0 ≤ a) (h1 : a < n) : 0 ≤ b ∧ b < n := by
  induction h with
  | refl => exact ⟨h0, h1⟩
  | tail _ hc ih => exact g.ok _ ih.1 ih.2 _ hc
structure Wl (n : Nat) (nx : List (List Int)) (S : Int → Prop) (seen : List Bool) (pend : List Int) (y : Int) (rest : List Int) : Prop where
  sl : seen.length = n
  frm : ∀ j : Int, 0 ≤ j → j < n → sn seen j → ∃ s, S s ∧ Rch nx s j
  pnd : ∀ x ∈ pend, 0 ≤ x ∧ x < n ∧ sn seen x
  cls : ∀ j : Int, 0 ≤ j → j < n → sn seen j → ∀ b ∈ rd_L1 nx j, sn seen b ∨ j ∈ pend ∨ (j = y ∧ b ∈ rest)
theorem sn_set {seen : List Bool} {b : Int} (h0 : 0 ≤ b) (h1 : b < seen.length) (j : Int) (hj : 0 ≤ j) : sn (seen.set b.toNat true) j ↔ j = b ∨ sn seen j := by
  unfold sn rdOf
  rw [List.getD_eq_getElem?_getD, List.getD_eq_getElem?_getD, List.getElem?_set]
  by_cases c : b.toNat = j.toNat
  · have e : j = b := by omega
    rw [if_pos c, if_pos (by omega)]
    simp [e]
  · have e : j ≠ b := by omega
    rw [if_neg c]
    simp [e]
theorem sn_true {seen : List Bool} {j : Int} (h : sn seen j) : j.toNat < seen.length := by
  unfold sn rdOf at h
  rw [List.getD_eq_getElem?_getD] at h
  by_cases c : j.toNat < seen.length
  · exact c
  · rw [List.getElem?_eq_none (by omega)] at h
    exact absurd h (by simp)
theorem cnt_set {seen : List Bool} {b : Int} (h1 : b.toNat < seen.length) (h : ¬ sn seen b) : (seen.set b.toNat true).count false + 1 = seen.count false := by
  have e : seen[b.toNat] = false := by
    unfold sn rdOf at h
    rw [List.getD_eq_getElem?_getD, List.getElem?_eq_getElem h1] at h
    simpa using h
  have hp : 0 < seen.count false := List.count_pos_iff.2 (by rw [← e]; exact List.getElem_mem h1)
  rw [List.count_set h1, e]
  simp
  omega
section
variable {n : Nat} {nx : List (List Int)} {S : Int → Prop} {seen : List Bool} {pend pend' : List Int} {y b : Int} {rest : List Int}
theorem Wl.skip (h : Wl n nx S seen pend y (b :: rest)) (hb : sn seen b) : Wl n nx S seen pend y rest := by
  refine ⟨h.sl, h.frm, h.pnd, fun j h0 h1 hj c hc => ?_⟩
  rcases h.cls j h0 h1 hj c hc with h | h | ⟨e, h⟩
  · exact .inl h
  · exact .inr (.inl h)
  · rcases List.mem_cons.mp h with rfl | h
    · exact .inl hb
    · exact .inr (.inr ⟨e, h⟩)
theorem Wl.put (h : Wl n nx S seen pend y (b :: rest)) (h0 : 0 ≤ b) (h1 : b < n) (hr : ∃ s, S s ∧ Rch nx s b) (g : Gr n nx) (hp : ∀ x, x ∈ pend' ↔ x = b ∨ x ∈ pend) : Wl n nx S (seen.set b.toNat true) pend' y rest := by
  have hl : b < seen.length := by rw [h.sl]; exact h1
  refine ⟨by rw [List.length_set]; exact h.sl, fun j j0 j1 hj => ?_, fun x hx => ?_, fun j j0 j1 hj c hc => ?_⟩
  · rcases (sn_set h0 hl j j0).1 hj with rfl | hj
    · exact hr
    · exact h.frm j j0 j1 hj
  · rcases (hp x).1 hx with rfl | hx
    · exact ⟨h0, h1, (sn_set h0 hl _ h0).2 (.inl rfl)⟩
    · obtain ⟨x0, x1, xs⟩ := h.pnd x hx
      exact ⟨x0, x1, (sn_set h0 hl x x0).2 (.inr xs)⟩
  · have hc0 := (g.ok j j0 j1 c hc).1
    rcases (sn_set h0 hl j j0).1 hj with rfl | hj
    · exact .inr (.inl ((hp _).2 (.inl rfl)))
    · rcases h.cls j j0 j1 hj c hc with h | h | ⟨e, h⟩
      · exact .inl ((sn_set h0 hl c hc0).2 (.inr h))
      · exact .inr (.inl ((hp _).2 (.inr h)))
      · rcases List.mem_cons.mp h with rfl | h
        · exact .inl ((sn_set h0 hl _ hc0).2 (.inl rfl))
        · exact .inr (.inr ⟨e, h⟩)
theorem Wl.pop (h : Wl n nx S seen pend y []) (x : Int) (hp : ∀ z, z ∈ pend → z = x ∨ z ∈ pend') (hp2 : ∀ z ∈ pend', z ∈ pend) : Wl n nx S seen pend' x (rd_L1 nx x) := by
  refine ⟨h.sl, h.frm, fun z hz => h.pnd z (hp2 z hz), fun j j0 j1 hj c hc => ?_⟩
  rcases h.cls j j0 j1 hj c hc with h | h | ⟨_, h⟩
  · exact .inl h
  · rcases hp j h with rfl | h
    · exact .inr (.inr ⟨rfl, hc⟩)
    · exact .inr (.inl h)
  · cases h
theorem Wl.done (h : Wl n nx S seen [] y []) (g : Gr n nx) (hS : ∀ s, S s → 0 ≤ s ∧ s < n ∧ sn seen s) (j : Int) (j0 : 0 ≤ j) (j1 : j < n) : sn seen j ↔ ∃ s, S s ∧ Rch nx s j := by
  refine ⟨h.frm j j0 j1, ?_⟩
  rintro ⟨s, hs, hr⟩
  obtain ⟨s0, s1, ss⟩ := hS s hs
  suffices hh : ∀ b, Rch nx s b → sn seen b from hh j hr
  intro b hb
  induction hb with
  | refl => exact ss
  | tail hb hc ih =>
    obtain ⟨b0, b1⟩ := hb.rng g s0 s1
    rcases h.cls _ b0 b1 ih _ hc with h | h | ⟨_, h⟩
    · exact h
    · cases h
    · cases h
end
theorem rdL_eq {nx : List (List Int)} {i : Nat} (h : i < nx.length) : rd_L1 nx (i : Int) = nx[i] := by
  unfold rd_L1
  rw [Int.toNat_natCast, List.getD_eq_getElem?_getD, List.getElem?_eq_getElem h]
  rfl
theorem sn_dec (seen : List Bool) (j : Int) : sn seen j ∨ ¬ sn seen j := by
  unfold sn
  cases rdOf false seen j <;> simp
end Go.Proofs.Ytpkigkmkolbiiaa.Q
end
section
namespace Go.Proofs.Ytpkigkmkolbiiaa.Q
open Go.RowKit Go.Proofs.YtpkigkmkolbiiaaW.PrintWords Go.Proofs.YtpkigkmkolbiiaaW.PrintMore Go.Proofs.Ytpkigkmkolbiiaa.P
set_option linter.unusedVariables false
structure Gs (n : Nat) (sp : List S45) (f : Int) (nx : List (List Int)) (ms : List Int) (many : Int) : Prop where
  gr : Gr n nx
  sp : sp.length = n
  f0 : 0 ≤ f
  f1 : f ≤ n
  ml : ms.length = n
  m0 : 0 ≤ many
  m1 : many ≤ 6
  mr : ∀ i : Int, 0 ≤ i → i < n → 0 ≤ rd ms i ∧ rd ms i < shl .i64 1 many
section
variable {n : Nat} {sp : List S45} {f : Int} {nx : List (List Int)} {ms : List Int} {many : Int}
theorem check_is (g : Gs n sp f nx ms many) : Ev (fun k => scc_Check.f k sp f nx ms many) 0 := by
  have hn := g.gr.le
  have hnl := g.gr.len
  have hsp := g.sp
  have hml := g.ml
  have hf0 := g.f0
  have hf1 := g.f1
  have hm0 := g.m0
  have hm1 := g.m1
  have h0 : ∀ (d i : Nat), i + d = n → Ev (fun k => scc_Check.l0 k (n : Int) nx (n : Int) (i : Int) sp f nx ms many) 0 := by
    intro d
    induction d with
    | zero =>
      intro i hi
      refine Ev.step (f := fun _ => some 0) (fun k => ?_) (Ev.now _)
      simp only [scc_Check.l0]
      rw [if_neg (by omega)]
    | succ d ih =>
      intro i hi
      have h1 : ∀ (e q : Nat), q + e = (rd_L1 nx (i : Int)).length → Ev (fun k => scc_Check.l1 k (n : Int) (i : Int) nx (n : Int) (i : Int) (rd_L1 nx (i : Int)) ((rd_L1 nx (i : Int)).length : Int) (q : Int) sp f nx ms many) 0 := by
        have hl2 := g.gr.len2 (i : Int)
        have hok := g.gr.ok (i : Int) (by omega) (by omega)
        generalize rd_L1 nx (i : Int) = l at *
        intro e
        induction e with
        | zero =>
          intro q hq
          refine Ev.step (f := fun k => scc_Check.l0 k (n : Int) nx (n : Int) ((i + 1 : Nat) : Int) sp f nx ms many) (fun k => ?_) (ih (i + 1) (by omega))
          have hmr := g.mr (i : Int) (by omega) (by omega)
          simp only [scc_Check.l1]
          rw [if_neg (by omega), if_pos (by omega), if_pos (by omega), if_neg (by omega), if_pos hm0, if_neg (by omega), w64 (n := (i : Int) + 1) (by omega) (by omega)]
          rfl
        | succ e ihe =>
          intro q hq
          have hql : q < l.length := by omega
          obtain ⟨b0, b1⟩ := hok l[q] (List.getElem_mem hql)
          refine Ev.step (f := fun k => scc_Check.l1 k (n : Int) (i : Int) nx (n : Int) (i : Int) l (l.length : Int) ((q + 1 : Nat) : Int) sp f nx ms many) (fun k => ?_) (ihe (q + 1) (by omega))
          simp only [scc_Check.l1]
          rw [if_pos (by omega), if_pos (by omega), if_pos (by omega), rd_eq hql, if_neg (by omega), if_neg (by omega), w64 (n := (q : Int) + 1) (by omega) (by omega)]
          rfl
      refine Ev.step (f := fun k => scc_Check.l1 k (n : Int) (i : Int) nx (n : Int) (i : Int) (rd_L1 nx (i : Int)) ((rd_L1 nx (i : Int)).length : Int) ((0 : Nat) : Int) sp f nx ms many) (fun k => ?_) (h1 (rd_L1 nx (i : Int)).length 0 (Nat.zero_add _))
      simp only [scc_Check.l0]
      rw [if_pos (by omega), if_pos (by omega), if_pos (by omega)]
      rfl
  refine Ev.congr (f := fun k => scc_Check.j0 k (n : Int) false sp f nx ms many) (fun k => ?_) (Ev.step (f := fun k => scc_Check.l0 k (n : Int) nx (n : Int) ((0 : Nat) : Int) sp f nx ms many) (fun k => ?_) (h0 n 0 (by omega)))
  · unfold scc_Check.f
    rw [hsp, hnl, hml, if_neg (by omega), if_pos rfl, if_pos rfl, if_neg (by omega), if_neg (by omega), if_neg (by omega), decide_eq_false (by omega)]
  · simp only [scc_Check.j0]
    rw [if_neg (by decide), hnl]
    rfl
theorem Wl.weak {S : Int → Prop} {seen : List Bool} {pend : List Int} {y : Int} (h : Wl n nx S seen pend y []) (y' : Int) (r : List Int) : Wl n nx S seen pend y' r :=
  ⟨h.sl, h.frm, h.pnd, fun j h0 h1 hj b hb => (h.cls j h0 h1 hj b hb).imp id (fun h => h.imp id (fun h => absurd h.2 (by simp)))⟩
section
variable {S : Int → Prop} (g : Gr n nx)
include g
theorem vis_is {seen : List Bool} {pend : List Int} {y b : Int} {rest : List Int} (hw : Wl n nx S seen pend y (b :: rest)) (b0 : 0 ≤ b) (b1 : b < n) (hfb : ∃ s, S s ∧ Rch nx s b) (hlen : pend.length + seen.count false ≤ n) :
    ∃ seen' pend', scc_Reached.vis (seen, pend) b = some (seen', pend') ∧ Wl n nx S seen' pend' y rest ∧ pend'.length + seen'.count false ≤ n ∧ 2 * seen'.count false + pend'.length ≤ 2 * seen.count false + pend.length ∧ sn seen' b ∧ ∀ j : Int, 0 ≤ j → sn seen j → sn seen' j := by
  have hn := g.le
  have hsl := hw.sl
  unfold scc_Reached.vis
  rcases sn_dec seen b with hb | hb
  · refine ⟨seen, pend, ?_, hw.skip hb, hlen, Nat.le_refl _, hb, fun _ _ h => h⟩
    rw [if_pos b0, if_pos (by simp only; omega), if_pos (show rdOf false seen b = true from hb)]
  · have hct := cnt_set (by omega) hb
    refine ⟨seen.set b.toNat true, pend ++ [b], ?_, hw.put b0 b1 hfb g (fun z => by rw [List.mem_append, List.mem_singleton]; exact or_comm), by rw [List.length_append, List.length_singleton]; omega, by rw [List.length_append, List.length_singleton]; omega, (sn_set b0 (by omega) b b0).2 (.inl rfl), fun j j0 h => (sn_set b0 (by omega) j j0).2 (.inr h)⟩
    rw [if_pos b0, if_pos (by simp only; omega), if_neg (show ¬ rdOf false seen b = true from hb), if_pos (by simp only; omega)]
theorem next_is (l : List Int) (hl2 : l.length < 4611686018427387904) (hfl : ∀ b ∈ l, 0 ≤ b ∧ b < n ∧ ∃ s, S s ∧ Rch nx s b) (y : Int) : ∀ (d q : Nat) (seen : List Bool) (pend : List Int), q + d = l.length → Wl n nx S seen pend y (l.drop q) → pend.length + seen.count false ≤ n →
    ∃ seen' pend', Ev (fun k => scc_Reached.nextL k l (q : Int) (seen, pend)) (seen', pend') ∧ Wl n nx S seen' pend' y [] ∧ pend'.length + seen'.count false ≤ n ∧ 2 * seen'.count false + pend'.length ≤ 2 * seen.count false + pend.length ∧ ∀ j : Int, 0 ≤ j → sn seen j → sn seen' j := by
  intro d
  induction d with
  | zero =>
    intro q seen pend hq hw hlen
    obtain rfl : q = l.length := by omega
    rw [List.drop_length] at hw
    refine ⟨seen, pend, Ev.step (f := fun _ => some (seen, pend)) (fun k => ?_) (Ev.now _), hw, hlen, Nat.le_refl _, fun _ _ h => h⟩
    simp only [scc_Reached.nextL]
    rw [if_neg (by omega)]
  | succ d ih =>
    intro q seen pend hq hw hlen
    have hql : q < l.length := by omega
    rw [List.drop_eq_getElem_cons hql] at hw
    obtain ⟨b0, b1, hfb⟩ := hfl l[q] (List.getElem_mem hql)
    obtain ⟨s1, p1, hv, hw1, hl1, hm1, _, hmono⟩ := vis_is g hw b0 b1 hfb hlen
    obtain ⟨s2, p2, he, hw2, hlen2, hm2, hmono2⟩ := ih (q + 1) s1 p1 (by omega) hw1 hl1
    refine ⟨s2, p2, Ev.step (f := fun k => scc_Reached.nextL k l ((q + 1 : Nat) : Int) (s1, p1)) (fun k => ?_) he, hw2, hlen2, by omega, fun j j0 h => hmono2 j j0 (hmono j j0 h)⟩
    simp only [scc_Reached.nextL]
    rw [if_pos (by omega), if_pos (by omega), rd_eq hql, hv, Option.bind_some, w64 (n := (q : Int) + 1) (by omega) (by omega)]
    rfl
theorem main_is : ∀ (M : Nat) (seen : List Bool) (pend : List Int) (y : Int), 2 * seen.count false + pend.length ≤ M → Wl n nx S seen pend y [] → pend.length + seen.count false ≤ n → (∀ s, S s → 0 ≤ s ∧ s < n ∧ sn seen s) →
    ∃ L, (∃ K, ∀ k m, K ≤ k → K ≤ m → scc_Reached.mainL k m nx (seen, pend) = some L) ∧ L.length = n ∧ ∀ j : Int, 0 ≤ j → j < n → (sn L j ↔ ∃ s, S s ∧ Rch nx s j) := by
  intro M
  induction M with
  | zero =>
    intro seen pend y hM hw hlen hS
    obtain rfl : pend = [] := List.eq_nil_of_length_eq_zero (by omega)
    refine ⟨seen, ⟨1, fun k m hk hm => ?_⟩, hw.sl, hw.done g hS⟩
    obtain ⟨k, rfl⟩ : ∃ j, k = j + 1 := ⟨k - 1, by omega⟩
    simp [scc_Reached.mainL]
  | succ M ih =>
    intro seen pend y hM hw hlen hS
    rcases G.snoc_cases pend with rfl | ⟨ps, x, rfl⟩
    · refine ⟨seen, ⟨1, fun k m hk hm => ?_⟩, hw.sl, hw.done g hS⟩
      obtain ⟨k, rfl⟩ : ∃ j, k = j + 1 := ⟨k - 1, by omega⟩
      simp [scc_Reached.mainL]
    · obtain ⟨x0, x1, xs⟩ := hw.pnd x (by simp)
      obtain ⟨s, hs, hr⟩ := hw.frm x x0 x1 xs
      have hnl := g.len
      rw [List.length_append, List.length_singleton] at hM hlen
      have hpop := hw.pop (pend' := ps) x (fun z hz => by rw [List.mem_append, List.mem_singleton] at hz; exact hz.symm) (fun z hz => by rw [List.mem_append]; exact .inl hz)
      obtain ⟨s1, p1, ⟨K1, hK1⟩, hw1, hl1, hm1, hmono⟩ := next_is g (rd_L1 nx x) (g.len2 x) (fun b hb => ⟨(g.ok x x0 x1 b hb).1, (g.ok x x0 x1 b hb).2, s, hs, hr.tail hb⟩) x _ 0 seen ps (Nat.zero_add _) (by rw [List.drop_zero]; exact hpop) (by omega)
      obtain ⟨L, ⟨K2, hK2⟩, hL⟩ := ih s1 p1 x (by omega) hw1 hl1 (fun s hs => ⟨(hS s hs).1, (hS s hs).2.1, hmono s (hS s hs).1 (hS s hs).2.2⟩)
      refine ⟨L, ⟨max K1 K2 + 1, fun k m hk hm => ?_⟩, hL⟩
      obtain ⟨k, rfl⟩ : ∃ j, k = j + 1 := ⟨k - 1, by omega⟩
      simp only [scc_Reached.mainL, List.getLast?_append, List.getLast?_singleton, Option.some_or, List.dropLast_concat]
      rw [if_pos x0, if_pos (by omega)]
      have h1 := hK1 m (by omega)
      simp only [rd_L1] at h1
      rw [show (0 : Int) = ((0 : Nat) : Int) from rfl, h1, Option.bind_some]
      exact hK2 k m (by omega) (by omega)
theorem init_is (f : Int) (hf : f ≤ n) (hS : ∀ s, S s ↔ 0 ≤ s ∧ s < f) : ∀ (d i : Nat) (seen : List Bool) (pend : List Int) (y : Int), (i : Int) + d = f → Wl n nx S seen pend y [] → pend.length + seen.count false ≤ n → (∀ s : Int, 0 ≤ s → s < i → sn seen s) →
    ∃ seen' pend', Ev (fun k => scc_Reached.initL k f (i : Int) (seen, pend)) (seen', pend') ∧ Wl n nx S seen' pend' (-1) [] ∧ pend'.length + seen'.count false ≤ n ∧ ∀ s : Int, 0 ≤ s → s < f → sn seen' s := by
  have hn := g.le
  intro d
  induction d with
  | zero =>
    intro i seen pend y hi hw hlen hs
    refine ⟨seen, pend, Ev.step (f := fun _ => some (seen, pend)) (fun k => ?_) (Ev.now _), hw.weak _ _, hlen, fun s h0 h1 => hs s h0 (by omega)⟩
    simp only [scc_Reached.initL]
    rw [if_neg (by omega)]
  | succ d ih =>
    intro i seen pend y hi hw hlen hs
    obtain ⟨s1, p1, hv, hw1, hl1, _, hb, hmono⟩ := vis_is g (hw.weak (-1) [(i : Int)]) (by omega) (by omega) ⟨(i : Int), (hS _).2 ⟨by omega, by omega⟩, .refl _⟩ hlen
    obtain ⟨s2, p2, he, hw2, hlen2, hs2⟩ := ih (i + 1) s1 p1 (-1) (by omega) hw1 hl1 (fun s s0 s1 => by
      by_cases c : s = (i : Int)
      · rw [c]; exact hb
      · exact hmono s s0 (hs s s0 (by omega)))
    refine ⟨s2, p2, Ev.step (f := fun k => scc_Reached.initL k f ((i + 1 : Nat) : Int) (s1, p1)) (fun k => ?_) he, hw2, hlen2, hs2⟩
    simp only [scc_Reached.initL]
    rw [if_pos (by omega), hv, Option.bind_some, w64 (n := (i : Int) + 1) (by omega) (by omega)]
    rfl
end
theorem no_seen (j : Int) : ¬ sn (List.replicate n false) j := fun h => by
  have hl := sn_true h
  unfold sn rdOf at h
  rw [List.getD_eq_getElem?_getD, List.getElem?_eq_getElem hl] at h
  simp at h
theorem reached_is (g : Gs n sp f nx ms many) : ∃ L, Ev (fun k => scc_Reached.f k sp f nx ms many) (L, 0) ∧ L.length = n ∧ ∀ j : Int, 0 ≤ j → j < n → (sn L j ↔ ∃ s, (0 ≤ s ∧ s < f) ∧ Rch nx s j) := by
  have hf0 := g.f0
  have hf1 := g.f1
  have hn := g.gr.le
  have hw : Wl n nx (fun s => 0 ≤ s ∧ s < f) (List.replicate n false) [] (-1) [] :=
    ⟨List.length_replicate, fun j _ _ h => absurd h (no_seen j), fun x hx => absurd hx (by simp), fun j _ _ h => absurd h (no_seen j)⟩
  obtain ⟨s1, p1, he1, hw1, hl1, hs1⟩ := init_is g.gr f hf1 (fun s => Iff.rfl) f.toNat 0 (List.replicate n false) [] (-1) (by omega) hw (by simp) (fun s h0 h1 => by omega)
  obtain ⟨L, ⟨K, hK⟩, hL⟩ := main_is g.gr _ s1 p1 (-1) (Nat.le_refl _) hw1 hl1 (fun s hs => ⟨hs.1, by omega, hs1 s hs.1 hs.2⟩)
  refine ⟨L, ?_, hL⟩
  unfold scc_Reached.f
  refine Ev.bind (check_is g) ?_
  simp only [if_true]
  rw [g.sp]
  simp only [if_pos (show n ≤ 281474976710656 by omega)]
  refine Ev.bind he1 ?_
  exact ⟨K, fun k hk => by simp only [hK k k hk hk, Option.bind_some]⟩
end
end Go.Proofs.Ytpkigkmkolbiiaa.Q
end
section
namespace Go.Proofs.Ytpkigkmkolbiiaa.Q
open Go.RowKit Go.Proofs.YtpkigkmkolbiiaaW.PrintWords Go.Proofs.YtpkigkmkolbiiaaW.PrintMore Go.Proofs.Ytpkigkmkolbiiaa.P
set_option linter.unusedVariables false
theorem shl_lo {y : Int} (h0 : 0 ≤ y) (h1 : y ≤ 6) : 1 ≤ shl .i64 1 y ∧ shl .i64 1 y ≤ 64 := by
  have h : y = 0 ∨ y = 1 ∨ y = 2 ∨ y = 3 ∨ y = 4 ∨ y = 5 ∨ y = 6 := by omega
  rcases h with rfl | rfl | rfl | rfl | rfl | rfl | rfl <;> decide
structure Gp (n i : Nat) (sp : List S45) (nx : List (List Int)) (ms : List Int) (many : Int) : Prop where
  sl : sp.length = i
  nl : nx.length = i
  ml : ms.length = i
  nr : ∀ l ∈ nx, l.length ≤ 6 ∧ ∀ b ∈ l, 0 ≤ b ∧ b < n
  mr : ∀ m ∈ ms, 0 ≤ m ∧ m < shl .i64 1 many
theorem Gp.more {n i : Nat} {sp : List S45} {nx : List (List Int)} {ms : List Int} {many : Int} (h : Gp n i sp nx ms many) (s : S45) {l : List Int} (hl : l.length ≤ 6 ∧ ∀ b ∈ l, 0 ≤ b ∧ b < n) {m : Int} (hm : 0 ≤ m ∧ m < shl .i64 1 many) : Gp n (i + 1) (sp ++ [s]) (nx ++ [l]) (ms ++ [m]) many := by
  refine ⟨by rw [List.length_append, h.sl]; rfl, by rw [List.length_append, h.nl]; rfl, by rw [List.length_append, h.ml]; rfl, fun x hx => ?_, fun x hx => ?_⟩
  · rcases List.mem_append.mp hx with hx | hx
    · exact h.nr x hx
    · obtain rfl := List.mem_singleton.mp hx
      exact hl
  · rcases List.mem_append.mp hx with hx | hx
    · exact h.mr x hx
    · obtain rfl := List.mem_singleton.mp hx
      exact hm
theorem Gp.gs {n : Nat} {sp : List S45} {nx : List (List Int)} {ms : List Int} {many f : Int} (h : Gp n n sp nx ms many) (hn : n ≤ 20000) (f0 : 0 ≤ f) (f1 : f ≤ n) (m0 : 0 ≤ many) (m1 : many ≤ 6) : Gs n sp f nx ms many := by
  have hmem : ∀ a : Int, rd_L1 nx a = [] ∨ rd_L1 nx a ∈ nx := fun a => by
    unfold rd_L1
    rw [List.getD_eq_getElem?_getD]
    by_cases c : a.toNat < nx.length
    · rw [List.getElem?_eq_getElem c]
      exact .inr (List.getElem_mem c)
    · rw [List.getElem?_eq_none (by omega)]
      exact .inl rfl
  refine ⟨⟨h.nl, hn, fun a a0 a1 b hb => ?_, fun a => ?_⟩, h.sl, f0, f1, h.ml, m0, m1, fun i i0 i1 => ?_⟩
  · rcases hmem a with e | e
    · rw [e] at hb
      exact absurd hb (by simp)
    · exact (h.nr _ e).2 b hb
  · rcases hmem a with e | e
    · rw [e]
      simp
    · have := (h.nr _ e).1
      omega
  · have hl := h.ml
    have hi : i.toNat < ms.length := by omega
    have e : rd ms i = ms[i.toNat] := by
      unfold rd
      rw [List.getD_eq_getElem?_getD, List.getElem?_eq_getElem hi]
      rfl
    rw [e]
    exact h.mr _ (List.getElem_mem hi)
theorem graph_is6 (rows : List (List Int)) (sets : List Int) (ft mt : Int) (hrows : ∀ y ∈ rows, (y.length ≤ maxLen ∧ ∀ z ∈ y, (Lit.int .i64 z).wf = true)) (hrl : rows.length ≤ maxLen) (hsets : ∀ y ∈ sets, (Lit.int .i64 y).wf = true) (hf : (Lit.int .i64 ft).wf = true) (hm : (Lit.int .i64 mt).wf = true) :
    ∃ sp f nx ms many, Ev (fun k => foretellkeep_Graph.f k rows sets ft mt) (sp, f, nx, ms, many) ∧ Gs (min rows.length 20) sp f nx ms many ∧ many < 4 ∧ (rows.length = 0 ∨ 1 ≤ f) ∧ ∀ l ∈ nx, l.length ≤ 6 := by
  have hmx : maxLen = 9223372036854775807 := rfl
  have m0 := pk_lo mt (m := 4) (by decide)
  have m1 := pk_hi mt (m := 4) (by decide)
  obtain ⟨sh0, sh1⟩ := shl_lo (y := pk mt 4) m0 (by omega)
  generalize hmany : pk mt 4 = many at m0 m1 sh0 sh1
  have hn : mn (rows.length : Int) 20 = ((min rows.length 20 : Nat) : Int) := by rw [mn_eq]; omega
  generalize hnn : min rows.length 20 = n at hn
  have hloop : ∀ (d i : Nat) (sp : List S45) (nx : List (List Int)) (ms : List Int) (f : Int), i + d = n → Gp n i sp nx ms many →
      ∃ sp' nx' ms', Ev (fun k => foretellkeep_Graph.l0 k (n : Int) (i : Int) rows sets ft mt sp f nx ms many) (sp', f, nx', ms', many) ∧ Gp n n sp' nx' ms' many := by
    intro d
    induction d with
    | zero =>
      intro i sp nx ms f hi hg
      obtain rfl : i = n := by omega
      refine ⟨sp, nx, ms, Ev.step (f := fun _ => some (sp, f, nx, ms, many)) (fun k => ?_) (Ev.now _), hg⟩
      simp only [foretellkeep_Graph.l0]
      rw [if_neg (by omega)]
    | succ d ih =>
      intro i sp nx ms f hi hg
      have hil : i < rows.length := by omega
      have hrow := hrows rows[i] (List.getElem_mem hil)
      have hrd : rd_L1 rows (i : Int) = rows[i] := rdL_eq hil
      generalize rows[i] = row at hrow hrd
      have hs := hg.sl
      have hnl := hg.nl
      have hml := hg.ml
      have hn20 : n ≤ 20 := by omega
      have hend : ∀ (l : List Int) (q : Nat), ¬ (q < row.length ∧ q < 6) → (l.length ≤ 6 ∧ ∀ b ∈ l, 0 ≤ b ∧ b < n) → ∃ sp' nx' ms', Ev (fun k => foretellkeep_Graph.l1 k (n : Int) (i : Int) l (q : Int) rows sets ft mt sp f nx ms many) (sp', f, nx', ms', many) ∧ Gp n n sp' nx' ms' many := by
        intro l q hq hl
        by_cases hsl : i < sets.length
        · have hp := picked_is (n := rd sets (i : Int)) (m := shl .i64 1 many) (by rw [rd_eq hsl]; exact hsets _ (List.getElem_mem hsl)) (by omega)
          have p0 := pk_lo (rd sets (i : Int)) (m := shl .i64 1 many) (by omega)
          have p1 := pk_hi (rd sets (i : Int)) (m := shl .i64 1 many) (by omega)
          generalize pk (rd sets (i : Int)) (shl .i64 1 many) = m at hp p0 p1
          obtain ⟨sp', nx', ms', he, hg'⟩ := ih (i + 1) (sp ++ [⟨(i : Int), 0⟩]) (nx ++ [l]) (ms ++ [m]) f (by omega) (hg.more _ hl ⟨p0, p1⟩)
          refine ⟨sp', nx', ms', Ev.step (f := fun k => foretellkeep_Graph.l0 k (n : Int) ((i + 1 : Nat) : Int) rows sets ft mt (sp ++ [⟨(i : Int), 0⟩]) f (nx ++ [l]) (ms ++ [m]) many) (fun k => ?_) he, hg'⟩
          simp only [foretellkeep_Graph.l1, hrd]
          rw [if_pos (by omega), if_pos (by omega), hp, Option.bind_some]
          rw [if_pos (show ((i : Int) < (sets.length : Int)) by omega), if_pos m0, if_pos (show sp.length < 8796093022208 by omega), if_pos (show nx.length < 5864062014805 by omega), if_pos (show ms.length < 17592186044416 by omega), w64 (n := (i : Int) + 1) (by omega) (by omega)]
          by_cases c1 : (q : Int) < (row.length : Int)
          · rw [if_pos c1, if_neg (by omega)]
            rfl
          · rw [if_neg c1]
            rfl
        · obtain ⟨sp', nx', ms', he, hg'⟩ := ih (i + 1) (sp ++ [⟨(i : Int), 0⟩]) (nx ++ [l]) (ms ++ [0]) f (by omega) (hg.more _ hl ⟨Int.le_refl _, by omega⟩)
          refine ⟨sp', nx', ms', Ev.step (f := fun k => foretellkeep_Graph.l0 k (n : Int) ((i + 1 : Nat) : Int) rows sets ft mt (sp ++ [⟨(i : Int), 0⟩]) f (nx ++ [l]) (ms ++ [0]) many) (fun k => ?_) he, hg'⟩
          simp only [foretellkeep_Graph.l1, hrd]
          rw [if_pos (by omega), if_pos (by omega)]
          rw [if_neg (show ¬ ((i : Int) < (sets.length : Int)) by omega), if_pos (show sp.length < 8796093022208 by omega), if_pos (show nx.length < 5864062014805 by omega), if_pos (show ms.length < 17592186044416 by omega), w64 (n := (i : Int) + 1) (by omega) (by omega)]
          by_cases c1 : (q : Int) < (row.length : Int)
          · rw [if_pos c1, if_neg (by omega)]
            rfl
          · rw [if_neg c1]
            rfl
      have hin : ∀ (e q : Nat) (l : List Int), q + e = 6 → l.length = q → (∀ b ∈ l, 0 ≤ b ∧ b < n) → ∃ sp' nx' ms', Ev (fun k => foretellkeep_Graph.l1 k (n : Int) (i : Int) l (q : Int) rows sets ft mt sp f nx ms many) (sp', f, nx', ms', many) ∧ Gp n n sp' nx' ms' many := by
        intro e
        induction e with
        | zero =>
          intro q l hq hll hb
          exact hend l q (by omega) ⟨by omega, hb⟩
        | succ e ihe =>
          intro q l hq hll hb
          by_cases hql : q < row.length
          · have hp := picked_is (n := rd row (q : Int)) (m := (n : Int)) (by rw [rd_eq hql]; exact hrow.2 _ (List.getElem_mem hql)) (by omega)
            have p0 := pk_lo (rd row (q : Int)) (m := (n : Int)) (by omega)
            have p1 := pk_hi (rd row (q : Int)) (m := (n : Int)) (by omega)
            generalize pk (rd row (q : Int)) (n : Int) = b at hp p0 p1
            obtain ⟨sp', nx', ms', he, hg'⟩ := ihe (q + 1) (l ++ [b]) (by omega) (by rw [List.length_append, hll]; rfl) (fun x hx => by
              rcases List.mem_append.mp hx with hx | hx
              · exact hb x hx
              · obtain rfl := List.mem_singleton.mp hx
                exact ⟨p0, p1⟩)
            refine ⟨sp', nx', ms', Ev.step (f := fun k => foretellkeep_Graph.l1 k (n : Int) (i : Int) (l ++ [b]) ((q + 1 : Nat) : Int) rows sets ft mt sp f nx ms many) (fun k => ?_) he, hg'⟩
            simp only [foretellkeep_Graph.l1, hrd]
            rw [if_pos (by omega), if_pos (by omega), if_pos (show (q : Int) < (row.length : Int) by omega), if_pos (show (q : Int) < 6 by omega), if_pos (by omega), hp, Option.bind_some, if_pos (by omega), w64 (n := (q : Int) + 1) (by omega) (by omega)]
            rfl
          · exact hend l q (by omega) ⟨by omega, hb⟩
      obtain ⟨sp', nx', ms', he, hg'⟩ := hin 6 0 [] rfl rfl (fun b hb => absurd hb (by simp))
      refine ⟨sp', nx', ms', Ev.step (f := fun k => foretellkeep_Graph.l1 k (n : Int) (i : Int) [] ((0 : Nat) : Int) rows sets ft mt sp f nx ms many) (fun k => ?_) he, hg'⟩
      simp only [foretellkeep_Graph.l0]
      rw [if_pos (by omega)]
      rfl
  have hz : Gp n 0 [] [] [] many := ⟨rfl, rfl, rfl, fun l hl => absurd hl (by simp), fun l hl => absurd hl (by simp)⟩
  by_cases hn0 : 0 < n
  · have hp := picked_is (n := ft) (m := (n : Int)) hf (by omega)
    have p0 := pk_lo ft (m := (n : Int)) (by omega)
    have p1 := pk_hi ft (m := (n : Int)) (by omega)
    generalize pk ft (n : Int) = fs at hp p0 p1
    obtain ⟨sp', nx', ms', he, hg'⟩ := hloop n 0 [] [] [] (fs + 1) (by omega) hz
    refine ⟨sp', fs + 1, nx', ms', many, ?_, hg'.gs (by omega) (by omega) (by omega) m0 (by omega), m1, .inr (by omega), fun l hl => (hg'.nr l hl).1⟩
    refine Ev.congr (f := fun k => foretellkeep_Graph.j0 k (n : Int) rows sets ft mt (fs + 1) many) (fun k => ?_) (Ev.step (f := fun k => foretellkeep_Graph.l0 k (n : Int) ((0 : Nat) : Int) rows sets ft mt [] (fs + 1) [] [] many) (fun k => ?_) he)
    · unfold foretellkeep_Graph.f
      rw [picked_is hm (by decide), Option.bind_some, hmany, hn, if_pos (by omega), hp, Option.bind_some, w64 (n := fs + 1) (by omega) (by omega)]
    · simp only [foretellkeep_Graph.j0]
      rfl
  · obtain ⟨sp', nx', ms', he, hg'⟩ := hloop n 0 [] [] [] 0 (by omega) hz
    refine ⟨sp', 0, nx', ms', many, ?_, hg'.gs (by omega) (by omega) (by omega) m0 (by omega), m1, .inl (by omega), fun l hl => (hg'.nr l hl).1⟩
    refine Ev.congr (f := fun k => foretellkeep_Graph.j0 k (n : Int) rows sets ft mt 0 many) (fun k => ?_) (Ev.step (f := fun k => foretellkeep_Graph.l0 k (n : Int) ((0 : Nat) : Int) rows sets ft mt [] 0 [] [] many) (fun k => ?_) he)
    · unfold foretellkeep_Graph.f
      rw [picked_is hm (by decide), Option.bind_some, hmany, hn, if_neg (by omega)]
    · simp only [foretellkeep_Graph.j0]
      rfl
end Go.Proofs.Ytpkigkmkolbiiaa.Q
end
