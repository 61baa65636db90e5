-- a walk, laid out by a program of this repo over the seat's translation
import Derived.Test.YtcoaeefmmnohkaaDoorF0
import Derived.Test.YtcoaeefmmnohkaaDoorFLogic
import Derived.Test.YtcoaeefmmnohkaaDoorFWord
import Derived.Test.YtcoaeefmmnohkaaDoorFOpen
import Derived.WalkSpells
import Derived.StillTailTactics
namespace Go.Proofs.YtcoaeefmmnohkaaDoor.P
open Go.RowKit Go.Proofs.YtcoaeefmmnohkaaDoorW.PrintWords Go.Proofs.YtcoaeefmmnohkaaDoorW.PrintLast Go.Proofs.YtcoaeefmmnohkaaDoorW.PrintMore Go.Proofs.YtcoaeefmmnohkaaDoor.G
attribute [local go_sem] max2_int min2_int max_two min_two max_three min_three max_four min_four   -- for this text's walks alone
set_option linter.unusedVariables false
set_option linter.unusedSimpArgs false

/-! ### word_Claims: function 27 -/
--IMPORT FWordOpen
--IMPORT FLogicAhead
--IMPORT Derived.WalkSpells
--IMPORT Derived.StillTailTactics
/-- A row's truths, as a bit of each moment's claim. -/
def claim_row (bit : Nat) (out : List Int) (r : List Bool) : List Int := List.zipWith (fun (o : Int) (y : Bool) => if y then Go.bits .or .i64 o (shl .i64 1 (bit : Int)) else o) out r
def word_bits (rows : List (List Bool)) : List Int → Nat → List Int → Option (List Int)
  | [], _, out => some out
  | a :: ps, bit, out => if 0 ≤ a ∧ bit ≤ 60 then (rows[a.toNat]?).bind fun r => word_bits rows ps (bit + 1) (claim_row bit out r) else none
def word_Claims.f (k : Nat) (l0 : List (S51)) (l1_0 : List (List Bool)) (l1_1 : List (List Bool)) (a2 : Int) : Option (List Int × Int) := (word_opn k l0 l1_0 l1_1 a2).bind fun r => if r.2 = 0 then (logic_Ahead.f k l0 a2).bind fun ps => (word_bits r.1 ps.1 0 (List.replicate (l1_0 ++ l1_1).length 0)).bind fun o => some (o, 0) else some ([], r.2)
/-- A row of numbers that fills its block. -/
def IB (w : World) (g : Nat) (xs : List Int) : Prop := w.heap[g]? = some (.cells (xs.map (Value.int .i64)).toArray 3 (0, 0))
theorem IB.cell {w : World} {g : Nat} {xs : List Int} (h : IB w g xs) (i : Nat) (h1 : i < xs.length) : w.cell? ⟨g, i, none⟩ = some (.int .i64 (xs.getD i 0)) := by
  have e := blk_cell h i
  rw [e]
  simp [h1]
theorem IB.put {w : World} {g : Nat} {xs : List Int} (h : IB w g xs) (i : Nat) (x : Int) : IB (w.setCell ⟨g, i, none⟩ (.int .i64 x)) g (xs.set i x) := by
  unfold IB
  exact blk_put h i _ (by simp [List.map_set])
/-- The numbers in their block while all else stays. -/
structure CW (w0 w : World) (gn : Nat) (xs : List Int) : Prop where
  row : IB w gn xs
  keep : KeepBut w0 w gn none
  bel : Below gn w0 w
section
variable {w0 w w' : World} {gn : Nat} {xs : List Int}
theorem CW.put (h : CW w0 w gn xs) (i : Nat) (x : Int) : CW w0 (w.setCell ⟨gn, i, none⟩ (.int .i64 x)) gn (xs.set i x) :=
  ⟨h.row.put i x, h.keep.set_ _ _, h.bel.setCell (p := ⟨gn, i, none⟩) (Nat.le_refl _) _⟩
theorem CW.drew (h : CW w0 w gn xs) : CW w0 w.drew gn xs := ⟨h.row, h.keep, h.bel.drew⟩
theorem CW.cell {k j : Nat} {v : Value} (h : CW w0 w gn xs) (hc : w0.cell? ⟨k, j, none⟩ = some v) (hne : k ≠ gn) : w.cell? ⟨k, j, none⟩ = some v :=
  (World.cell?_of_block (w := w0) (w' := w) (h.keep.2 k (World.block_lt_of_cell? w0 _ hc) hne (by simp))).trans hc
theorem TB.below {wB : World} {g gr : Nat} {Af Ae Al : Option Addr} {cf ce cl cr n : Nat} {f : List S51} {es : List Int} {rs : List VV} {ys : List (List Bool)} {back : Int} {at_ : Nat} {vals : List Value} {rows : List (List Bool)}
    (h : TB wB w g gr Af Ae Al cf ce cl cr n f es rs ys back at_ vals rows) (hb : Below w.heap.size w w') : TB wB w' g gr Af Ae Al cf ce cl cr n f es rs ys back at_ vals rows :=
  ⟨blk_below h.blk hb, blk_below h.rblk hb, h.vlen, h.fC, h.eC, Kd.C_below h.lC hb, h.lA, h.lr, h.gl, below_step h.bel hb, h.gB, h.rB, h.rlen, fun p r hp => by
    obtain ⟨gw, c, h1, h2, h3⟩ := h.row p r hp
    exact ⟨gw, c, h1, blk_below h2 hb, h3⟩, h.own⟩
end
theorem claim_len (bit : Nat) (out : List Int) (r : List Bool) : (claim_row bit out r).length = min out.length r.length := by simp [claim_row]
theorem claim_step (bit : Nat) {out : List Int} {r : List Bool} {j : Nat} (h0 : j < out.length) (h1 : j < r.length) :
    claim_row bit (out.take (j + 1)) (r.take (j + 1)) ++ out.drop (j + 1) = (claim_row bit (out.take j) (r.take j) ++ out.drop j).set j (if r[j] then Go.bits .or .i64 out[j] (shl .i64 1 (bit : Int)) else out[j]) := by
  have l1 : (claim_row bit (out.take j) (r.take j)).length = j := by rw [claim_len, List.length_take, List.length_take]; omega
  rw [List.set_append_right _ _ (by rw [l1]; exact Nat.le_refl _), l1, Nat.sub_self, List.drop_eq_getElem_cons h0, List.set_cons_zero]
  unfold claim_row
  rw [List.take_succ_eq_append_getElem h0, List.take_succ_eq_append_getElem h1, List.zipWith_append (by rw [List.length_take, List.length_take]; omega), List.append_assoc]
  rfl
theorem claim_at (bit : Nat) {out : List Int} {r : List Bool} {j : Nat} (h0 : j < out.length) (h1 : j < r.length) : (claim_row bit (out.take j) (r.take j) ++ out.drop j).getD j 0 = out[j] := by
  have l1 : (claim_row bit (out.take j) (r.take j)).length = j := by rw [claim_len, List.length_take, List.length_take]; omega
  rw [List.getD_eq_getElem?_getD, List.getElem?_append_right (by omega), l1, Nat.sub_self, List.getElem?_drop, Nat.add_zero, List.getElem?_eq_getElem h0]
  rfl
theorem ib_res {w w' : World} {g : Nat} {xs : List Int} (h : IB w' g xs) (hw : w.heap.size ≤ g) (hl : xs.length ≤ 1000) : Kd.R (Kd.int .i64) 3 w' w.heap.size (fun _ => True) (.slice (some ⟨g, 0, none⟩) xs.length xs.length) xs := by
  refine Kd.R_of_own (enc := Value.int .i64) ⟨?_, .inr ⟨g, xs.length, _, rfl, hw, h, Nat.le_refl _, ?_, ?_, ?_⟩⟩ (fun _ _ => trivial)
  · simp [encs]
  · unfold maxLen; omega
  · simp
  · simp only [encs, Nat.mul_one]
    exact List.take_of_length_le (by rw [List.length_map]; exact Nat.le_refl _)
theorem word_Claims.mono : ∀ a0 a1 a2 a3 k, LeO (word_Claims.f k a0 a1 a2 a3) (word_Claims.f (k + 1) a0 a1 a2 a3) := by
  intro a0 a1 a2 a3 k
  unfold word_Claims.f
  exact LeO.bind (word_opn_mono _ _ _ _ _) (fun r => LeO.ite (LeO.bind (logic_Ahead.mono _ _ _) (fun _ => LeO.refl _)) (LeO.refl _))
set_option maxHeartbeats 8000000 in
set_option maxRecDepth 100000 in
theorem word_Claims.calls (k : Nat) (A0 : Option Addr) (c0 : Nat) (l0 : List (S51)) (A1_0 : Option Addr) (c1_0 : Nat) (l1_0 : List (List Bool)) (A1_1 : Option Addr) (c1_1 : Nat) (l1_1 : List (List Bool)) (a2 : Int) (r1 : List Int) (r2 : Int) (w : World) (hr0 : Kd.C k51 w A0 l0.length l0) (hc0 : l0.length ≤ c0) (hr1_0 : Kd.C (Kd.slice 4 Kd.bool) w A1_0 l1_0.length l1_0) (hc1_0 : l1_0.length ≤ c1_0) (hr1_1 : Kd.C (Kd.slice 4 Kd.bool) w A1_1 l1_1.length l1_1) (hc1_1 : l1_1.length ≤ c1_1) (hG_ : Glob w) (h : word_Claims.f k l0 l1_0 l1_1 a2 = some (r1, r2)) :
    Calls Tryd.prog 27 #[.slice A0 l0.length c0, .agg #[.slice A1_0 l1_0.length c1_0, .slice A1_1 l1_1.length c1_1], .int .i64 a2] w fun e w' => ∃ v0_ : Value, e = .returned (.tuple #[v0_, .int .i64 r2]) ∧ Kd.R (Kd.int .i64) 3 w' w.heap.size (fun _ => True) v0_ r1 ∧ Below w.heap.size w w' := by
  have info := (by kernel_rfl : (Tryd.prog.info? 3).map (fun i => (i.zero, i.size, i.bytes)) = some (some (.int .i64 0), 1, 8))
  have R0 := Aside0.mk hr0
  have L0 := Aside0.mk hc0
  have X1 := Aside0.mk hr1_0
  have X2 := Aside0.mk hr1_1
  have GL := Aside0.mk hG_
  clear hr0 hc0 hr1_0 hc1_0 hr1_1 hc1_1 hG_
  unfold word_Claims.f at h
  obtain ⟨⟨rows, e1⟩, hO, h1⟩ := Option.bind_eq_some_iff.mp h
  clear h
  have HO := Aside0.mk hO
  clear hO
  simp only at h1
  by_cases q1 : e1 = 0
  · rw [if_pos q1] at h1
    subst q1
    obtain ⟨⟨ps, pe⟩, hP, h2⟩ := Option.bind_eq_some_iff.mp h1
    obtain ⟨o, hB, h3⟩ := Option.bind_eq_some_iff.mp h2
    obtain ⟨rfl, rfl⟩ := Prod.mk.inj (Option.some.inj h3)
    have HP := Aside0.mk hP
    obtain ⟨nn, hnn⟩ : ∃ nn, (l1_0 ++ l1_1).length = nn := ⟨_, rfl⟩
    rw [hnn] at hB
    have HNN := Aside0.mk hnn
    clear hnn
    have HB := Aside0.mk hB
    clear h1 h2 h3 hP hB
    have NZ := Aside0.mk (word_opn_ok HO.out)
    go_enter Tryd.func27, Tryd.ntmps27
    go_wp2_with (first | (go_at_call 35; go_must (refine (word_open.calls k A0 c0 l0 A1_0 c1_0 l1_0 A1_1 c1_1 l1_1 a2 rows 0 _ ?hx L0.out ?hy ?hz ?hG HO.out).mono ?_; (case hx => exact Kd.C_below R0.out (below_alloc (Below.refl _ _) _)); (case hy => exact Kd.C_below X1.out (below_alloc (Below.refl _ _) _)); (case hz => exact Kd.C_below X2.out (below_alloc (Below.refl _ _) _)); (case hG => exact Glob.below GL.out (below_alloc (Below.refl _ _) _)); rintro e w1 ⟨p, rfl, hb, hop⟩; obtain ⟨wB, g, gr, Af, Ae, Al, cf, ce, cl, cr, es, rs, vals, rfl, hbB, hT⟩ := hop rfl; rw [HNN.out] at hT; have HT := Aside0.mk hT; have B1 := Aside0.mk (below_step (below_alloc (Below.refl _ _) _) hb); clear hb hbB hT hop)) | (go_at_call 17; go_must (refine (logic_Ahead.calls k A0 c0 l0 a2 ps pe w1 (Kd.C_below R0.out B1.out) L0.out (Glob.below GL.out B1.out) HP.out).mono ?_; rintro e w2 ⟨v0, rfl, ho, hb⟩; obtain ⟨Ap, cp, rfl⟩ := Kd.R_slice ho; have HPR := Aside0.mk (Kd.R_reads' ho).2.2; have HT2 := Aside0.mk (HT.out.below hb); have B2 := Aside0.mk (below_step B1.out hb); have g2 : w2.cell? ⟨g, 2, none⟩ = some (.slice Al nn cl) := (blk_cell HT2.out.blk 2).trans rfl; clear ho hb HT)) | ((with_reducible refine gate_dst (N := 38) rfl ?_); go_must (refine make_event rfl (N := 38) rfl 25 3 (.tmp 37) (.tmp 37) rfl nn rfl rfl Tryd.underlying25 (.int .i64 0) 8 info rfl (by have := NZ.out; have := HNN.out; rw [List.length_append] at this; omega) (by have := NZ.out; have := HNN.out; rw [List.length_append] at this; omega) ?_; intro gn hg w3 hb1 hbel; have N1 := Aside0.mk (show IB w3 gn (List.replicate nn 0) from by unfold IB; rw [hb1, List.map_replicate]); have B3 := Aside0.mk hbel; have HG := Aside0.mk hg; clear hb1 hbel hg g2)))
    have LN := Aside0.mk (show nn ≤ 24 from by have := NZ.out; have h := HNN.out; rw [List.length_append] at h; omega)
    have HT3 := Aside0.mk (HT2.out.below B3.out)
    have GL2 := Aside0.mk (show gr < gn ∧ g < gn from by have := HG.out; have := blk_lt HT2.out.rblk; have := blk_lt HT2.out.blk; omega)
    have HC3 := Aside0.mk (Kd.C_below HPR.out B3.out)
    have HCA := Aside0.mk (show ∀ ad : Addr, Ap = some ad → 0 < ps.length → ad.block ≠ gn from fun ad e h => by subst e; have := Kd.C_lt HPR.out h (by decide); have := HG.out; omega)
    have C0 := Aside0.mk (show CW w3 w3 gn (List.replicate nn 0) from ⟨N1.out, KeepBut.refl _ _ _, Below.refl _ _⟩)
    have BW := Aside0.mk (show ∀ w', Below gn w3 w' → Below w.heap.size w w' from fun w' h => (below_step B2.out B3.out).trans (h.mono (by have := HG.out; have := B2.out.size; omega)))
    have GW := Aside0.mk (show w.heap.size ≤ gn from by have := HG.out; have := B2.out.size; omega)
    clear N1
    go_loopg [41] ps.length (fun kq v41 wr => ∃ (j : Nat) (out : List Int), v41 = .int .i64 j ∧ j + kq = ps.length ∧ out.length = nn ∧ Aside0 (word_bits rows (ps.drop j) j out = some o) ∧ Aside0 (CW w3 wr gn out))
    case atStart => exact ⟨0, _, rfl, by omega, List.length_replicate, HB, C0⟩
    case round =>
      clear HB C0
      obtain ⟨j, out, rfl, hj, hol, HB, HC⟩ := hrel
      have OL := Aside0.mk hol
      clear hol
      by_cases hlt : j < ps.length
      · have hb := HB.out
        rw [List.drop_eq_getElem_cons hlt, word_bits] at hb
        by_cases ca : 0 ≤ ps[j] ∧ j ≤ 60
        · rw [if_pos ca] at hb
          obtain ⟨r, hr, hb3⟩ := Option.bind_eq_some_iff.mp hb
          have HB2 := Aside0.mk hb3
          clear hb hb3
          obtain ⟨gw, c, hv, hbb, hl⟩ := HT2.out.row _ r hr
          rw [Nat.zero_add] at hv
          have GWN := Aside0.mk (show gw ≠ gn from by have := blk_lt hbb; have := HG.out; omega)
          have RB := Aside0.mk (blk_below hbb B3.out)
          have RL := Aside0.mk hl
          obtain ⟨ad, ea, hpc⟩ := Kd.at_int (Kd.C_keep 0 HC3.out HC.out.keep HCA.out) (j : Int) (by omega) (by omega)
          subst ea
          have hpj : rd ps (j : Int) = ps[j] := by simp [rd, hlt]
          rw [hpj, Int.toNat_natCast] at hpc
          obtain ⟨a, ha⟩ : ∃ a, ps[j] = a := ⟨_, rfl⟩
          rw [ha] at hpc hr hv ca
          have HR0 := Aside0.mk (List.getElem?_eq_some_iff.1 hr).1
          have c4 : wr.cell? ⟨g, 4, none⟩ = some (.slice (some ⟨gr, 0, none⟩) l0.length cr) := HC.out.cell ((blk_cell HT3.out.blk 4).trans rfl) (by have := GL2.out; omega)
          have cr0 : wr.cell? ⟨gr, a.toNat, none⟩ = some (.slice (some ⟨gw, 0, none⟩) nn c) := HC.out.cell ((blk_cell HT3.out.rblk a.toNat).trans (by rw [List.getElem?_toArray]; exact hv)) (by have := GL2.out; omega)
          have a0 := eq_true ca.1
          have a1 : (a < (l0.length : Int)) = True := eq_true (by have := HR0.out; have := HT3.out.rlen; omega)
          have b1 : decide ((j : Int) < (ps.length : Int)) = true := decide_eq_true (by omega)
          have b2 : ((j : Int) < (ps.length : Int)) = True := eq_true (by omega)
          have BJ := Aside0.mk ca.2
          have HJ := Aside0.mk hj
          have HLT := Aside0.mk hlt
          have HCo := Aside0.mk HC.out
          clear hv hbb hl hr hpj ha ca hj HB HC
          obtain ⟨ji, hji⟩ : ∃ j_ : Int, shl .i64 1 (j : Int) = j_ := ⟨_, rfl⟩
          have HJI := Aside0.mk hji
          clear hji
          go_wp2
          have PC := Aside0.mk (show CW w3 wr gn (claim_row j (out.take 0) (r.take 0) ++ out.drop 0) from by simpa [claim_row] using HCo.out)
          clear hpc c4 cr0 a0 a1 b1 b2
          go_loopg [54] nn (fun iq v54 wi => ∃ i : Nat, v54 = .int .i64 i ∧ i + iq = nn ∧ Aside0 (CW w3 wi gn (claim_row j (out.take i) (r.take i) ++ out.drop i)))
          case atStart => exact ⟨0, rfl, by omega, PC⟩
          case round =>
            clear PC
            obtain ⟨i, rfl, hi, HI⟩ := hrel
            by_cases hil : i < nn
            · have hir : i < r.length := by rw [RL.out]; exact hil
              have hio : i < out.length := by rw [OL.out]; exact hil
              have cb : wr.cell? ⟨gw, i, none⟩ = some (.bool r[i]) := HI.out.cell ((blk_cell RB.out i).trans (by simp [hir])) GWN.out
              have hlen : (claim_row j (out.take i) (r.take i) ++ out.drop i).length = nn := by rw [List.length_append, claim_len, List.length_take, List.length_take, List.length_drop]; have := OL.out; have := RL.out; omega
              have co := HI.out.row.cell i (by rw [hlen]; exact hil)
              rw [claim_at j hio hir] at co
              have fo := blk_frozen HI.out.row i
              have e1 : wrap64 ((i : Int) + 1) = (i : Int) + 1 := by have := LN.out; unfold wrap64; omega
              have b1 : decide ((i : Int) < (nn : Int)) = true := decide_eq_true (by omega)
              have b2 : ((i : Int) < (nn : Int)) = True := eq_true (by omega)
              have st := claim_step j hio hir
              rw [HJI.out] at st
              obtain ⟨y, hy⟩ : ∃ y, r[i] = y := ⟨_, rfl⟩
              obtain ⟨x, hx⟩ : ∃ x, out[i] = x := ⟨_, rfl⟩
              rw [hy] at cb
              rw [hx] at co
              rw [hy, hx] at st
              have ST := Aside0.mk st
              have CX := Aside0.mk (show (claim_row j (out.take i) (r.take i) ++ out.drop i).getD i 0 = x from by rw [claim_at j hio hir, hx])
              have HI1 := Aside0.mk hi
              have HIL := Aside0.mk hil
              have HLE := Aside0.mk hlen
              have HIo := Aside0.mk HI.out
              clear st hy hx hi hil hir hio hlen HI
              cases y with
              | false =>
                go_wp2
                go_roundg (nn - (i + 1))
                case measure => have := HI1.out; have := HIL.out; omega
                case rel =>
                  refine ⟨i + 1, by simp; exact e1, by have := HIL.out; have := HI1.out; omega, ⟨?_⟩⟩
                  rw [ST.out]
                  have e : (claim_row j (out.take i) (r.take i) ++ out.drop i).set i x = claim_row j (out.take i) (r.take i) ++ out.drop i := by
                    rw [← CX.out]
                    apply List.ext_getElem (by simp)
                    intro m h1 h2
                    rw [List.getElem_set]
                    split
                    · rename_i hm
                      subst hm
                      rw [List.getD_eq_getElem?_getD, List.getElem?_eq_getElem h2]
                      rfl
                    · rfl
                  have q := HIo.out
                  rw [← e] at q
                  exact q
              | true =>
                go_wp2
                go_still_tail 8, (by kernel_rfl)
                change wpList _ _ _ _ _ wr.drew
                have HId := Aside0.mk HIo.out.drew
                replace co : wr.drew.cell? _ = _ := co
                replace fo : wr.drew.frozen? _ = _ := fo
                clear cb HIo
                generalize wr.drew = wd at *
                go_wp2
                go_roundg (nn - (i + 1))
                case measure => have := HI1.out; have := HIL.out; omega
                case rel =>
                  refine ⟨i + 1, by simp; exact e1, by have := HIL.out; have := HI1.out; omega, ⟨?_⟩⟩
                  rw [ST.out]
                  have e2 : wrap64 (2 ^ min j 64) = ji := by
                    rw [← HJI.out]
                    show _ = IntKind.i64.wrap (1 * 2 ^ min ((j : Int)).toNat 64)
                    rw [Int.one_mul, Int.toNat_natCast]
                    first | exact (i64_w _).symm | (rw [i64_w]) | (simp only [i64_w])
                  rw [e2, if_pos trivial]
                  exact HId.out.put i _
            · have hii : i = nn := by omega
              have b1 : decide ((i : Int) < (nn : Int)) = false := decide_eq_false (by omega)
              have b2 : ((i : Int) < (nn : Int)) = False := eq_false (by omega)
              have PF := Aside0.mk (show CW w3 wr gn (claim_row j out r) from by
                have q := HI.out
                rw [List.take_of_length_le (by rw [OL.out]; omega), List.take_of_length_le (by rw [RL.out]; omega), List.drop_of_length_le (by rw [OL.out]; omega), List.append_nil] at q
                exact q)
              have e1 : wrap64 ((j : Int) + 1) = (j : Int) + 1 := by have := BJ.out; unfold wrap64; omega
              clear HI hi hil hii
              go_wp2
              go_roundg (ps.length - (j + 1))
              case measure => have := HJ.out; have := HLT.out; omega
              case rel => exact ⟨j + 1, claim_row j out r, by simp; exact e1, by have := HJ.out; have := HLT.out; omega, by rw [claim_len, OL.out, RL.out, Nat.min_self], HB2, PF⟩
        · rw [if_neg ca] at hb
          exact absurd hb (by simp)
      · have b1 : decide ((j : Int) < (ps.length : Int)) = false := decide_eq_false (by omega)
        have b2 : ((j : Int) < (ps.length : Int)) = False := eq_false (by omega)
        have hb := HB.out
        rw [List.drop_of_length_le (by omega), word_bits] at hb
        obtain rfl := Option.some.inj hb
        have q := ib_res HC.out.row GW.out (by rw [OL.out]; have := LN.out; omega)
        rw [OL.out] at q
        have HQ := Aside0.mk q
        have HBE := Aside0.mk (BW.out _ HC.out.bel)
        clear hb q hj hlt HB HC
        go_wp2
        go_ret2
        exact ⟨_, rfl, HQ.out, HBE.out⟩
  · rw [if_neg q1] at h1
    obtain ⟨rfl, rfl⟩ := Prod.mk.inj (Option.some.inj h1)
    have d1 : (e1 != 0) = true := by simp [q1]
    have Q1 := Aside0.mk q1
    clear q1 h1
    go_enter Tryd.func27, Tryd.ntmps27
    go_wp2_with (go_at_call 35; go_must (refine (word_open.calls k A0 c0 l0 A1_0 c1_0 l1_0 A1_1 c1_1 l1_1 a2 rows e1 _ ?hx L0.out ?hy ?hz ?hG HO.out).mono ?_; (case hx => exact Kd.C_below R0.out (below_alloc (Below.refl _ _) _)); (case hy => exact Kd.C_below X1.out (below_alloc (Below.refl _ _) _)); (case hz => exact Kd.C_below X2.out (below_alloc (Below.refl _ _) _)); (case hG => exact Glob.below GL.out (below_alloc (Below.refl _ _) _)); rintro e w1 ⟨p, rfl, hb, hop⟩; have B1 := Aside0.mk (below_step (below_alloc (Below.refl _ _) _) hb); clear hb hop))
    go_ret2
    exact ⟨_, rfl, Kd.R_nil _ _ _ _ _, B1.out⟩

end Go.Proofs.YtcoaeefmmnohkaaDoor.P
