-- PACKED by pack.py of this repo: FSearchLeave
import Derived.WalkSpells
import Derived.StillTailTactics
import Derived.Test.YtpkigkmkolbiiaaK2
import Derived.Test.YtpkigkmkolbiiaaK8
import Derived.Test.YtpkigkmkolbiiaaK7
section
namespace Go.Proofs.Ytpkigkmkolbiiaa.P
open Go.RowKit Go.Proofs.YtpkigkmkolbiiaaW.PrintWords Go.Proofs.YtpkigkmkolbiiaaW.PrintLast Go.Proofs.YtpkigkmkolbiiaaW.PrintMore Go.Proofs.Ytpkigkmkolbiiaa.G
attribute [local go_sem] max2_int min2_int max_two min_two max_three min_three max_four min_four   -- for this text's walks alone
set_option linter.unusedVariables false
set_option linter.unusedSimpArgs false

--IMPORT FSearchEnter
--IMPORT Derived.WalkSpells
--IMPORT Derived.StillTailTactics
/-! ### search_leave: function 29 -/
def search_leave.low (ys : List S64) (st : SrSt) (i : Int) : List Int :=
  match ys.getLast? with
  | none => st.low
  | some u => st.low.set u.f0.toNat (mn (rd st.low u.f0) (rd st.low i))
def search_leave.back (l : List Int) (x : Int) : Nat → Option Nat
  | 0 => if rd l ((0 : Nat) : Int) = x then some 0 else none
  | i + 1 => if rd l ((i + 1 : Nat) : Int) = x then some (i + 1) else search_leave.back l x i
def search_leave.lp (ys : List S64) (st : SrSt) (i : Int) : SrSt := { st with low := search_leave.low ys st i, calls := ys }
def search_leave.comp (st : SrSt) (i : Int) (j : Nat) : SrSt :=
  { st with part := (st.opn.drop j).foldl (fun p k => p.set k.toNat ((st.opn.drop j).foldl mn i)) st.part, opn := st.opn.take j }
def search_leave.f (ys : List S64) (st : SrSt) (i : Int) : Option SrSt :=
  if rd (search_leave.low ys st i) i = rd st.order i then (if 0 < st.opn.length then (search_leave.back st.opn i (st.opn.length - 1)).map (search_leave.comp (search_leave.lp ys st i) i) else none) else some (search_leave.lp ys st i)
theorem search_leave.low_len (ys : List S64) (st : SrSt) (i : Int) : (search_leave.low ys st i).length = st.low.length := by
  unfold search_leave.low
  split <;> simp
theorem search_leave.step {β : Type} (l : List Int) (q x : Nat) (f : β → Int → β) (a : β) (h : q + x < l.length) : ((l.drop q).take (x + 1)).foldl f a = f (((l.drop q).take x).foldl f a) (rd l ((q + x : Nat) : Int)) := by
  have hx : x < (l.drop q).length := by rw [List.length_drop]; omega
  rw [List.take_succ_eq_append_getElem hx, List.foldl_append]
  simp only [List.foldl_cons, List.foldl_nil, List.getElem_drop]
  congr 1
  unfold rd
  rw [Int.toNat_natCast, List.getD_eq_getElem?_getD, List.getElem?_eq_getElem h]
  rfl
theorem search_leave.all (l : List Int) (q x : Nat) (h : q + x = l.length) : (l.drop q).take x = l.drop q := List.take_of_length_le (by rw [List.length_drop]; omega)
section
variable {w0 w w' : World} {s go gl gp n : Nat} {v0 v1 v2 v3 v4 vo vc : Value} {st : SrSt}
/-- The calls' row is cut. -/
theorem SrAt.cutCls {A : Option Addr} {m c j : Nat} (h : SrAt w0 w s go gl gp n v0 v1 v2 v3 v4 st vo (.slice A m c)) (hj : j ≤ st.calls.length) : SrAt w0 (w.setCell ⟨s, 9, none⟩ (.slice A j c)) s go gl gp n v0 v1 v2 v3 v4 { st with calls := st.calls.take j } vo (.slice A j c) :=
  h.putCls (Kd.R_take h.cls hj)
theorem SrAt.cutOpn {A : Option Addr} {m c j : Nat} (h : SrAt w0 w s go gl gp n v0 v1 v2 v3 v4 st (.slice A m c) vc) (hj : j ≤ st.opn.length) : SrAt w0 (w.setCell ⟨s, 8, none⟩ (.slice A j c)) s go gl gp n v0 v1 v2 v3 v4 { st with opn := st.opn.take j } (.slice A j c) vc :=
  h.putOpn (Kd.R_take h.opn hj)
end
set_option maxHeartbeats 8000000 in
set_option maxRecDepth 100000 in
theorem search_leave.calls (w0 : World) (s go gl gp n : Nat) (v0 v1 v2 v3 v4 vo vc : Value) (st : SrSt) (ys : List S64) (y : S64) (i : Int) (h0 : 0 ≤ i) (h1 : i < (n : Int)) (hys : ∀ u ∈ ys, 0 ≤ u.f0 ∧ u.f0 < (n : Int)) (hop : ∀ k ∈ st.opn, 0 ≤ k ∧ k < (n : Int)) (ho : st.opn.length ≤ 1000000) (hc : ys.length ≤ 1000000) (hcl : st.calls = ys ++ [y]) (w : World) (hv : SrAt w0 w s go gl gp n v0 v1 v2 v3 v4 st vo vc) (r : SrSt) (h : search_leave.f ys st i = some r) :
    Calls Try.prog 29 #[.pointer (some ⟨s, 0, none⟩), .int .i64 i] w fun e w' => e = .returned (.tuple #[]) ∧ ∃ vo' vc', SrAt w0 w' s go gl gp n v0 v1 v2 v3 v4 r vo' vc' := by
  have info := (by kernel_rfl : (Try.prog.info? 3).map (fun i => (i.zero, i.size, i.bytes)) = some (some (.int .i64 0), 1, 8))
  have infoF := (by kernel_rfl : (Try.prog.info? 64).map (fun i => (i.zero, i.size, i.bytes)) = some (some (.agg #[(.int .i64 0), (.int .i64 0)]), 2, 16))
  have HV := Aside0.mk hv
  have LO := Aside0.mk ho
  have LC := Aside0.mk hc
  have HYS := Aside0.mk hys
  have HOP := Aside0.mk hop
  have HF := Aside0.mk h
  have HCL := Aside0.mk hcl
  clear hv ho hc hys hop h hcl
  obtain ⟨Ao, co, rfl⟩ := Kd.R_slice HV.out.opn
  obtain ⟨Ac, cc, rfl⟩ := Kd.R_slice HV.out.cls
  have hlen : st.calls.length = ys.length + 1 := by rw [HCL.out]; simp
  replace HV : Aside0 (SrAt w0 w s go gl gp n v0 v1 v2 v3 v4 st (.slice Ao st.opn.length co) (.slice Ac (ys.length + 1) cc)) := ⟨by rw [← hlen]; exact HV.out⟩
  have hcc : ys.length + 1 ≤ cc := (Kd.R_reads' HV.out.cls).2.1
  obtain ⟨i0, hi0, _, hsz, _⟩ := info_parts infoF
  have hcut := cut_to (P := Try.prog) 54 64 .i64 Try.underlying54 hi0 Ac (ys.length + 1) cc (ys.length : Int) (by omega) (by omega) hcc
  rw [Int.toNat_natCast] at hcut
  clear hi0 hsz
  have h9 : w.cell? ⟨s, 9, none⟩ = some (.slice Ac (ys.length + 1) cc) := (blk_cell HV.out.blk 9).trans rfl
  have f9 := blk_frozen HV.out.blk 9
  have q0 := eq_true h0
  have q1 := eq_true h1
  have P0 := Aside0.mk h0
  have P1 := Aside0.mk h1
  have hmx : (ys.length : Int) ≤ 1000000 := by have := LC.out; omega
  clear h0 h1 hlen
  go_enter Try.func29, Try.ntmps29
  go_wp2
  go_region
  generalize hq1 : (w.setCell ⟨s, 9, none⟩ (.slice Ac ys.length cc)).drew = w1
  have HV1 := Aside0.mk (show SrAt w0 w1 s go gl gp n v0 v1 v2 v3 v4 { st with calls := ys } (.slice Ao st.opn.length co) (.slice Ac ys.length cc) by
    have hz := (HV.out.cutCls (j := ys.length) (by rw [HCL.out]; simp)).drew
    rw [HCL.out, List.take_left' rfl, hq1] at hz
    exact hz)
  clear hq1 h9 f9 hcut hcc
  have h9 : w1.cell? ⟨s, 9, none⟩ = some (.slice Ac ys.length cc) := (blk_cell HV1.out.blk 9).trans rfl
  have h6 : w1.cell? ⟨s, 6, none⟩ = some (.slice (some ⟨gl, 0, none⟩) n n) := (blk_cell HV1.out.blk 6).trans rfl
  have hli := HV1.out.low.cell i P0.out (by rw [HV1.out.nlow]; exact P1.out)
  go_upto_if 30 with (fail)
  go_cut [] (fun wc => ∃ st1, Aside0 (st1 = search_leave.lp ys st i) ∧ Aside0 (SrAt w0 wc s go gl gp n v0 v1 v2 v3 v4 st1 (.slice Ao st.opn.length co) (.slice Ac ys.length cc)))
  case first =>
    rcases snoc_cases ys with rfl | ⟨zs, z, rfl⟩
    · go_wp2
      go_meet
      case rel => exact ⟨_, ⟨rfl⟩, HV1⟩
    · have hz := HYS.out z (by simp)
      have hc1 : ((zs ++ [z]).length : Int) = (zs.length : Int) + 1 := by simp
      obtain ⟨gc, cap6, he6, _, _, cgt, hgt⟩ := Kd.R_form HV1.out.cls (by simp)
      have NSC : s ≠ gc := blk_ne HV1.out.blk hgt (by decide)
      clear hgt
      have hAe : Ac = some ⟨gc, 0, none⟩ := by injection he6
      subst hAe
      clear he6
      obtain ⟨ad, ead, hu, _⟩ := at_T64 (Kd.R_reads' HV1.out.cls).2.2 (zs.length : Int) (by omega) (by rw [List.length_append, List.length_singleton]; omega)
      obtain rfl : ad = ⟨gc, 0, none⟩ := by injection ead with h_; exact h_.symm
      have hrd : rd_T64 (zs ++ [z]) (zs.length : Int) = z := by simp [rd_T64]
      rw [hrd] at hu
      clear hrd ead
      have hu2 : w1.cell? ⟨gc, zs.length * 2, none⟩ = some (.int .i64 z.f0) := by
        rw [← addr_at gc (zs.length * 2)]
        exact hu
      clear hu
      have hz0 := eq_true hz.1
      have hz1 := eq_true hz.2
      have HZ := Aside0.mk hz
      clear hz
      have hlu := HV1.out.low.cell z.f0 HZ.out.1 (by rw [HV1.out.nlow]; exact HZ.out.2)
      have flu := blk_frozen HV1.out.low z.f0.toNat
      have HC1 := Aside0.mk hc1
      have h9' : w1.cell? ⟨s, 9, none⟩ = some (.slice (some ⟨gc, 0, none⟩) (zs.length + 1) cc) := h9.trans (by rw [List.length_append]; rfl)
      have hmz : (zs.length : Int) ≤ 1000000 := by have := LC.out; rw [List.length_append] at this; omega
      clear hc1 h9 hmx
      rw [List.length_append, List.length_singleton]
      go_wp2
      go_quiet (fail)
      generalize hq : World.drewN w1 _ = w2
      have HV2 := Aside0.mk (show SrAt w0 w2 s go gl gp n v0 v1 v2 v3 v4 { st with calls := zs ++ [z] } (.slice Ao st.opn.length co) (.slice (some ⟨gc, 0, none⟩) (zs ++ [z]).length cc) by rw [← hq]; exact HV1.out.drewN _)
      clear hq h9' hu2 hlu flu h6 hli
      have h6 : w2.cell? ⟨s, 6, none⟩ = some (.slice (some ⟨gl, 0, none⟩) n n) := (blk_cell HV2.out.blk 6).trans rfl
      have hli := HV2.out.low.cell i P0.out (by rw [HV2.out.nlow]; exact P1.out)
      have hlu := HV2.out.low.cell z.f0 HZ.out.1 (by rw [HV2.out.nlow]; exact HZ.out.2)
      have flu := blk_frozen HV2.out.low z.f0.toNat
      go_wp2
      go_still_tail 21, (by kernel_rfl)
      change wpList _ _ _ _ _ w2.drew
      generalize hmn : (if rd st.low i < rd st.low z.f0 then rd st.low i else rd st.low z.f0) = vm
      have HMN := Aside0.mk (show vm = mn (rd st.low z.f0) (rd st.low i) from hmn.symm)
      clear hmn
      generalize hq3 : w2.drew = w3
      have HV3 := Aside0.mk (show SrAt w0 w3 s go gl gp n v0 v1 v2 v3 v4 { st with calls := zs ++ [z] } (.slice Ao st.opn.length co) (.slice (some ⟨gc, 0, none⟩) (zs ++ [z]).length cc) by rw [← hq3]; exact HV2.out.drew)
      clear hq3 h6 hli hlu flu
      have hlu := HV3.out.low.cell z.f0 HZ.out.1 (by rw [HV3.out.nlow]; exact HZ.out.2)
      have flu := blk_frozen HV3.out.low z.f0.toNat
      go_wp2
      have HV4 := Aside0.mk (show SrAt w0 (w3.setCell ⟨gl, z.f0.toNat, none⟩ (.int .i64 vm)) s go gl gp n v0 v1 v2 v3 v4 (search_leave.lp (zs ++ [z]) st i) (.slice Ao st.opn.length co) (.slice (some ⟨gc, 0, none⟩) (zs ++ [z]).length cc) by
        have hz := HV3.out.setLow z.f0 vm
        have e1 : search_leave.low (zs ++ [z]) st i = st.low.set z.f0.toNat vm := by rw [HMN.out]; simp [search_leave.low]
        unfold search_leave.lp
        rw [e1]
        exact hz)
      go_meet
      case rel => exact ⟨_, ⟨rfl⟩, HV4⟩
  case rest =>
    obtain ⟨st1, hs1, HV2⟩ := hcut
    have HS := Aside0.mk hs1.out
    clear hs1 h9 h6 hli HV1
    have e1 : st1.opn = st.opn := by rw [HS.out]; rfl
    have e2 : st1.order = st.order := by rw [HS.out]; rfl
    have e3 : st1.low = search_leave.low ys st i := by rw [HS.out]; rfl
    have e4 : st1.part = st.part := by rw [HS.out]; rfl
    have E1 := Aside0.mk e1
    have E2 := Aside0.mk e2
    have E3 := Aside0.mk e3
    clear e1 e2 e3 e4
    have h5 : wc.cell? ⟨s, 5, none⟩ = some (.slice (some ⟨go, 0, none⟩) n n) := (blk_cell HV2.out.blk 5).trans rfl
    have h6 : wc.cell? ⟨s, 6, none⟩ = some (.slice (some ⟨gl, 0, none⟩) n n) := (blk_cell HV2.out.blk 6).trans rfl
    have hli := HV2.out.low.cell i P0.out (by rw [HV2.out.nlow]; exact P1.out)
    have hoi := HV2.out.ord.cell i P0.out (by rw [HV2.out.nord]; exact P1.out)
    have hf := HF.out
    unfold search_leave.f at hf
    rw [← E3.out, ← E2.out] at hf
    by_cases c1 : rd st1.low i = rd st1.order i
    · rw [if_pos c1] at hf
      have c1' : (rd st1.low i != rd st1.order i) = false := by simp [c1]
      clear c1
      by_cases c2 : 0 < st.opn.length
      · rw [if_pos c2] at hf
        have L1 := Aside0.mk c2
        obtain ⟨m, hm⟩ : ∃ m, st.opn.length = m + 1 := ⟨st.opn.length - 1, by omega⟩
        have HM := Aside0.mk hm
        have hbk := hf
        rw [show st.opn.length - 1 = m by omega] at hbk
        obtain ⟨j, hj, hr⟩ := Option.map_eq_some_iff.1 hbk
        have HJ := Aside0.mk hj
        have HR := Aside0.mk hr
        clear hbk hf hj hr c2
        replace HV2 : Aside0 (SrAt w0 wc s go gl gp n v0 v1 v2 v3 v4 st1 (.slice Ao (m + 1) co) (.slice Ac ys.length cc)) := ⟨by rw [← hm]; exact HV2.out⟩
        have hm1 : (m : Int) ≤ 1000000 := by have := LO.out; omega
        clear hm
        go_wp2
        go_quiet (fail)
        generalize hq : World.drewN wc _ = w2
        have HV3 := Aside0.mk (show SrAt w0 w2 s go gl gp n v0 v1 v2 v3 v4 st1 (.slice Ao (m + 1) co) (.slice Ac ys.length cc) by rw [← hq]; exact HV2.out.drewN _)
        clear hq h5 h6 hli hoi
        have hlen : st1.opn.length = m + 1 := by rw [E1.out, HM.out]
        obtain ⟨gq, cap8, he8, _, _, cgt, hgt⟩ := Kd.R_form HV3.out.opn (by omega)
        have NSQ : s ≠ gq := blk_ne HV3.out.blk hgt (by decide)
        clear hgt
        have hAe : Ao = some ⟨gq, 0, none⟩ := by injection he8
        subst hAe
        clear he8 hlen
        have hco : m + 1 ≤ co := (Kd.R_reads' HV3.out.opn).2.1
        have CO := Aside0.mk hco
        clear hco
        have h8 : w2.cell? ⟨s, 8, none⟩ = some (.slice (some ⟨gq, 0, none⟩) (m + 1) co) := (blk_cell HV3.out.blk 8).trans rfl
        go_wp2
        go_loop [5] (fun v5 => ∃ q : Nat, q ≤ m ∧ v5 = .int .i64 q ∧ Aside0 (search_leave.back st.opn i q = some j)) (fun v5 => (intOf v5).toNat)
        case atStart => exact ⟨m, Nat.le_refl _, rfl, HJ⟩
        case round =>
          obtain ⟨q, hq, rfl, HB⟩ := hrel
          have hcq := (Kd.R_celln 0 HV3.out.opn (q : Int) (by omega) (by omega)).1
          have hrdq : rdOf 0 st1.opn (q : Int) = rd st.opn (q : Int) := by rw [E1.out]; rfl
          rw [hrdq, Int.toNat_natCast] at hcq
          clear hrdq
          have hb := HB.out
          by_cases c2 : rd st.opn (q : Int) = i
          · have c2' : (rd st.opn (q : Int) != i) = false := by simp [c2]
            have hjq : q = j := by
              cases q with
              | zero => unfold search_leave.back at hb; rw [if_pos c2] at hb; exact Option.some.inj hb
              | succ q => unfold search_leave.back at hb; rw [if_pos c2] at hb; exact Option.some.inj hb
            subst hjq
            clear c2 hb HB HJ
            have hcutq : ∀ W : World, (Instr.slice 23 (.slice (some ⟨gq, 0, none⟩) (m + 1) co) (some (.int .i64 (q : Int))) none none).run Try.prog W = .ok (.slice (some ⟨gq, q, none⟩) (m + 1 - q) (co - q)) W := by
              obtain ⟨i0, hi0, _, hsz, _⟩ := info_parts info
              intro W
              rw [cut_from 23 3 .i64 Try.underlying23 hi0 1 hsz (some ⟨gq, 0, none⟩) (m + 1) co (q : Int) (by omega) (by omega) W, Int.toNat_natCast, if_neg (by have := CO.out; omega), Option.map_some, addr_at, Nat.mul_one]
            obtain ⟨tl, htl⟩ : ∃ tl, m + 1 - q = tl := ⟨_, rfl⟩
            rw [htl] at hcutq
            have TL := Aside0.mk htl
            clear htl
            have htm : (tl : Int) ≤ 1000001 := by have := TL.out; omega
            go_wp2
            go_loop [6, 105] (fun v6 v105 => ∃ x : Nat, x ≤ tl ∧ v105 = .int .i64 x ∧ v6 = .int .i64 (((st.opn.drop q).take x).foldl mn i)) (fun _ v105 => tl - (intOf v105).toNat)
            case atStart => exact ⟨0, by omega, rfl, rfl⟩
            case round =>
              obtain ⟨x, hx, rfl, rfl⟩ := hrel
              by_cases c3 : x < tl
              · have hcx := (Kd.R_celln 0 HV3.out.opn ((q + x : Nat) : Int) (by omega) (by have := TL.out; omega)).1
                have hrdq : rdOf 0 st1.opn ((q + x : Nat) : Int) = rd st.opn ((q + x : Nat) : Int) := by rw [E1.out]; rfl
                rw [hrdq, Int.toNat_natCast] at hcx
                have hs := search_leave.step st.opn q x mn i (by have := TL.out; have := HM.out; omega)
                clear hrdq
                generalize hkx : rd st.opn ((q + x : Nat) : Int) = kx at hcx hs
                generalize hac : ((st.opn.drop q).take x).foldl mn i = acc at hs
                have HS2 := Aside0.mk hs
                clear hs hkx hac
                by_cases c4 : kx < acc
                · have e4 := Aside0.mk (show mn acc kx = kx by unfold mn; rw [if_pos c4])
                  go_wp2
                  go_round
                  case rel => exact ⟨x + 1, by omega, by go_num, by rw [HS2.out, e4.out]⟩
                  case measure => simp [intOf]; omega
                · have e4 := Aside0.mk (show mn acc kx = acc by unfold mn; rw [if_neg c4])
                  go_wp2
                  go_round
                  case rel => exact ⟨x + 1, by omega, by go_num, by rw [HS2.out, e4.out]⟩
                  case measure => simp [intOf]; omega
              · obtain rfl : x = tl := by omega
                clear c3
                have hal := search_leave.all st.opn q x (by have := TL.out; have := HM.out; omega)
                rw [hal]
                have hst : search_leave.comp st1 i q = { st1 with part := ((st.opn.drop q).take x).foldl (fun p k => p.set k.toNat ((st.opn.drop q).foldl mn i)) st1.part, opn := st1.opn.take q } := by
                  unfold search_leave.comp
                  rw [E1.out, hal]
                rw [← HS.out] at HR
                have HST := Aside0.mk (hst.symm.trans HR.out)
                clear hst hal
                generalize hle : (st.opn.drop q).foldl mn i = least
                rw [hle] at HST
                clear hle
                go_wp2
                go_loopw [120] (fun v120 wr => ∃ x1 : Nat, x1 ≤ x ∧ v120 = .int .i64 x1 ∧ Aside0 (SrAt w0 wr s go gl gp n v0 v1 v2 v3 v4 { st1 with part := ((st.opn.drop q).take x1).foldl (fun p k => p.set k.toNat least) st1.part } (.slice (some ⟨gq, 0, none⟩) (m + 1) co) (.slice Ac ys.length cc))) (fun v120 _ => x - (intOf v120).toNat)
                case atStart => exact ⟨0, by omega, rfl, HV3⟩
                case round =>
                  obtain ⟨x1, hx1, rfl, HW⟩ := hrel
                  have h7 : wr.cell? ⟨s, 7, none⟩ = some (.slice (some ⟨gp, 0, none⟩) n n) := (blk_cell HW.out.blk 7).trans rfl
                  have h8 : wr.cell? ⟨s, 8, none⟩ = some (.slice (some ⟨gq, 0, none⟩) (m + 1) co) := (blk_cell HW.out.blk 8).trans rfl
                  have f8 := blk_frozen HW.out.blk 8
                  by_cases c3 : x1 < x
                  · have hcx := (Kd.R_celln 0 HW.out.opn ((q + x1 : Nat) : Int) (by omega) (by have := TL.out; omega)).1
                    have hrdq : rdOf 0 st1.opn ((q + x1 : Nat) : Int) = rd st.opn ((q + x1 : Nat) : Int) := by rw [E1.out]; rfl
                    have hs := search_leave.step st.opn q x1 (fun p k => p.set k.toNat least) st1.part (by have := TL.out; have := HM.out; omega)
                    have hin : rd st.opn ((q + x1 : Nat) : Int) ∈ st.opn := by
                      have hlt : q + x1 < st.opn.length := by have := TL.out; have := HM.out; omega
                      unfold rd
                      rw [Int.toNat_natCast, List.getD_eq_getElem?_getD, List.getElem?_eq_getElem hlt]
                      exact List.getElem_mem hlt
                    have hk := HOP.out _ hin
                    have hcx2 : wr.cell? ⟨gq, q + x1, none⟩ = some (.int .i64 (rd st.opn ((q + x1 : Nat) : Int))) := by rw [Int.toNat_natCast] at hcx; rw [← hrdq]; exact hcx
                    clear hcx hrdq hin
                    generalize hkx : rd st.opn ((q + x1 : Nat) : Int) = kx at hcx2 hs hk
                    have HS2 := Aside0.mk hs
                    clear hs hkx
                    have k0 := eq_true hk.1
                    have k1 := eq_true hk.2
                    have HK := Aside0.mk hk
                    clear hk
                    have hpk := HW.out.part.cell kx HK.out.1 (by rw [HW.out.npart]; exact HK.out.2)
                    have fpk := blk_frozen HW.out.part kx.toNat
                    go_wp2
                    go_roundw
                    case rel => exact ⟨x1 + 1, by omega, by go_num, ⟨by rw [HS2.out]; exact HW.out.setPart kx least⟩⟩
                    case measure => simp [intOf]; omega
                  · obtain rfl : x1 = x := by omega
                    clear c3
                    have hcutt := cut_to (P := Try.prog) 23 3 .i64 Try.underlying23 (info_parts info).choose_spec.1 (some ⟨gq, 0, none⟩) (m + 1) co (q : Int) (by omega) (by omega) CO.out
                    rw [Int.toNat_natCast] at hcutt
                    go_wp2
                    go_end0
                    exact ⟨rfl, _, _, by rw [← HST.out]; exact HW.out.cutOpn (j := q) (by show q ≤ st1.opn.length; rw [E1.out, HM.out]; omega)⟩
          · have c2' : (rd st.opn (q : Int) != i) = true := by simp [c2]
            have hq0 : 0 < q ∧ search_leave.back st.opn i (q - 1) = some j := by
              cases q with
              | zero => unfold search_leave.back at hb; rw [if_neg c2] at hb; exact absurd hb (by simp)
              | succ q => unfold search_leave.back at hb; rw [if_neg c2] at hb; exact ⟨by omega, hb⟩
            have HB2 := Aside0.mk hq0.2
            have hq1 : (0 : Int) < (q : Int) := by omega
            have hqm : (q : Int) ≤ 1000000 := by omega
            clear hb c2 HB hq0
            go_wp2
            go_round
            case rel => exact ⟨q - 1, by omega, by rw [show ((q - 1 : Nat) : Int) = (q : Int) - 1 by omega], HB2⟩
            case measure => simp [intOf]; omega
      · rw [if_neg c2] at hf
        exact absurd hf (by simp)
    · rw [if_neg c1] at hf
      have c1' : (rd st1.low i != rd st1.order i) = true := by simp [c1]
      clear c1
      have HR := Aside0.mk (Option.some.inj hf)
      clear hf
      go_wp2
      go_quiet (fail)
      generalize hq : World.drewN wc _ = w2
      have HV3 := Aside0.mk (show SrAt w0 w2 s go gl gp n v0 v1 v2 v3 v4 st1 (.slice Ao st.opn.length co) (.slice Ac ys.length cc) by rw [← hq]; exact HV2.out.drewN _)
      clear hq h5 h6 hli hoi
      go_wp2
      refine bodyPost_ret (results_none rfl _ _ _) rfl ⟨rfl, _, _, by rw [← HR.out, ← HS.out]; exact HV3.out⟩

end Go.Proofs.Ytpkigkmkolbiiaa.P
end
