-- PACKED by pack.py of this repo: FFill
import Derived.WalkSpells
import Derived.StillTailTactics
import Derived.Test.YtcoaeefmmnohkaaDoorM2
import Derived.Test.YtcoaeefmmnohkaaDoorM5
import Derived.Test.YtcoaeefmmnohkaaDoorM11
section
namespace Go.Proofs.YtcoaeefmmnohkaaDoor.P
open Go.RowKit Go.Proofs.YtcoaeefmmnohkaaDoorW.PrintWords Go.Proofs.YtcoaeefmmnohkaaDoorW.PrintLast Go.Proofs.YtcoaeefmmnohkaaDoorW.PrintMore Go.Proofs.YtcoaeefmmnohkaaDoor.G
attribute [local go_sem] max2_int min2_int max_two min_two max_three min_three max_four min_four   -- for this text's walks alone
set_option linter.unusedVariables false
set_option linter.unusedSimpArgs false

--IMPORT FWordTb
--IMPORT Derived.WalkSpells
--IMPORT Derived.StillTailTactics
/-! ### word_fill_a: function 45 -/
set_option maxHeartbeats 16000000 in
set_option maxRecDepth 100000 in
theorem word_fill13.calls (wB w : World) (g gr : Nat) (Af Ae Al : Option Addr) (cf ce cl cr n : Nat) (f : List S51) (es : List Int) (rs : List VV) (xs : List (List Bool)) (back : Int) (at_ : Nat) (vals : List Value) (rows : List (List Bool)) (vl : Int)
    (h : TB wB w g gr Af Ae Al cf ce cl cr n f es rs xs back (at_ + 1) vals rows) (hn0 : 1 ≤ n) (hn1 : n ≤ 100) (hb0 : 0 ≤ back) (hb1 : back < (n : Int)) (hlx : xs.length = n) (ho : f[at_]? = some ⟨13, vl⟩) (hf1 : f.length ≤ 1000) (hv0 : 0 ≤ vl) (hv1 : ∀ i, i < n → vl < ((xs.getD i []).length : Int)) :
    Calls Tryd.prog 45 #[.pointer (some ⟨g, 0, none⟩), .int .i64 at_] w fun e w' => e = .returned (.tuple #[]) ∧ ∃ vals', TB wB w' g gr Af Ae Al cf ce cl cr n f es rs xs back at_ vals' (mkr (fun i => rdOf false (xs.getD i.toNat []) vl) n :: rows) := by
  have HC := Aside0.mk (And.intro hv0 hv1)
  clear hv0 hv1
  have info4 := (by kernel_rfl : (Tryd.prog.info? 4).map (fun i => (i.zero, i.size, i.bytes)) = some (some (.bool false), 1, 1))
  have hmf : ∀ (fn : Fn) (first cap : Array Value) (w : World), (Instr.makeFunc fn first cap).run Tryd.prog w = .ok (.func fn first cap) w := fun _ _ _ _ => rfl
  have HAT := Aside0.mk (List.getElem?_eq_some_iff.1 ho).1
  have TB0 := Aside0.mk h
  have HN := Aside0.mk (And.intro hn0 hn1)
  have HB := Aside0.mk (And.intro hb0 hb1)
  have HO := Aside0.mk ho
  have HF := Aside0.mk hf1
  have HX := Aside0.mk hlx
  have c2 : w.cell? ⟨g, 2, none⟩ = some (.slice Al n cl) := (blk_cell h.blk 2).trans rfl
  have q0 : (0 ≤ (at_ : Int)) = True := eq_true (by omega)
  have q1 : ((at_ : Int) < (f.length : Int)) = True := eq_true (by have := HAT.out; omega)
  clear h hn0 hn1 hb0 hb1 ho hf1 hlx
  obtain ⟨v0, hv0⟩ : ∃ v0, vals[at_]? = some v0 := ⟨_, List.getElem?_eq_getElem (Nat.lt_of_lt_of_le HAT.out TB0.out.vlen)⟩
  have V0 := Aside0.mk hv0
  clear hv0
  obtain ⟨ad, eA, hx0, hx1⟩ := at_T51 (Kd.C_below TB0.out.fC TB0.out.bel) (at_ : Int) (by omega) (by have := HAT.out; omega)
  have eo : rd_T51 f (at_ : Int) = ⟨13, vl⟩ := by simp [rd_T51, HO.out]
  have HF0 := Aside0.mk (show (rd_T51 f (at_ : Int)).f0 = 13 from by rw [eo])
  have HF1 := Aside0.mk (show (rd_T51 f (at_ : Int)).f1 = vl from by rw [eo])
  have HP2 := Aside0.mk (show polish_Parts.f 13 = some (0, 0) from by decide)
  subst eA
  clear eo hx0 hx1
  go_enter Tryd.func45, Tryd.ntmps45
  go_wp2_with (first | ((with_reducible refine gate_dst (N := 16) rfl ?_); go_must (refine make_event rfl (N := 16) rfl 30 4 (.tmp 15) (.tmp 15) rfl n rfl rfl Tryd.underlying30 (.bool false) 1 info4 rfl (by have := HN.out.2; omega) (by have := HN.out.2; omega) ?_; intro gn hg w1 hb1 hbel; have N1 := Aside0.mk (show BB w1 gn (List.replicate n false) from by unfold BB; rw [hb1, List.map_replicate]); have B1 := Aside0.mk hbel; have HG := Aside0.mk hg; clear hb1 hbel hg c2; have c4 : w1.cell? ⟨g, 4, none⟩ = some (.slice (some ⟨gr, 0, none⟩) f.length cr) := (blk_cell (blk_below TB0.out.blk B1.out) 4).trans rfl; have cr0 : w1.cell? ⟨gr, at_, none⟩ = some v0 := (blk_cell (blk_below TB0.out.rblk B1.out) at_).trans (by rw [List.getElem?_toArray]; exact V0.out); have fr0 := blk_frozen (blk_below TB0.out.rblk B1.out) at_)) | ((with_reducible refine gate_store (t := 30) (p := 23) (v := .tmp 22) rfl ?_); go_must (refine store_event (t := 30) (p := 23) (v := .tmp 22) (w1 := (w1.setCell ⟨gr, at_, none⟩ (.slice (some ⟨gn, 0, none⟩) n n))) ?hg ?ho ?hn ?hr ?_; (case ho => rfl); (case hg => rfl); (case hn => rfl); (case hr => first | (go_simp; done) | (go_simp; rfl)); intro w2 hw; have FS2 := Aside0.mk (TB.start TB0.out HG.out N1.out B1.out hw rfl); clear hw c4 cr0 fr0 N1)) | ((with_reducible refine gate_dst (N := 5) rfl ?_); go_must (refine box_event ?hg (N := 5) ?hd (cs := #[.slice none 0 0]) (t := 30) ?hr ?_; (case hd => rfl); (case hg => rfl); (case hr => first | (go_simp; done) | (go_simp; rfl)); intro g5 hg5 w3 hbox hb; have K5 := Aside0.mk hbox; have FS3 := Aside0.mk (FS.below FS2.out hb); have G5 := Aside0.mk (show w.heap.size ≤ g5 ∧ gn ≠ g5 from ⟨by rw [hg5]; exact FS2.out.keep.1, by have := blk_lt FS2.out.nw; omega⟩); clear hb hbox hg5 FS2)) | ((with_reducible refine gate_dst (N := 6) rfl ?_); go_must (refine box_event ?hg (N := 6) ?hd (cs := #[.slice none 0 0]) (t := 30) ?hr ?_; (case hd => rfl); (case hg => rfl); (case hr => first | (go_simp; done) | (go_simp; rfl)); intro g6 hg6 w4 hbox hb; have K6 := Aside0.mk hbox; have K54 := Aside0.mk (blk_below K5.out hb); have FS4 := Aside0.mk (FS.below FS3.out hb); have G6 := Aside0.mk (show w.heap.size ≤ g6 ∧ gn ≠ g6 ∧ g5 ≠ g6 from ⟨by rw [hg6]; exact FS3.out.keep.1, by have := blk_lt FS3.out.nw; omega, by have := blk_lt K5.out; omega⟩); clear hb hbox hg6 FS3 K5; have c0 : w4.cell? ⟨g, 0, none⟩ = some (.slice (some ad) f.length cf) := (blk_cell (TB0.out.blk' FS4.out) 0).trans rfl; obtain ⟨ad', eA', hx0, hx1⟩ := at_T51 (Kd.C_below TB0.out.fC FS4.out.bel) (at_ : Int) (by omega) (by have := HAT.out; omega); obtain rfl := (Option.some.inj eA'); rw [HF0.out, Int.toNat_natCast] at hx0; clear hx1 eA')) | (go_at_call 46; go_must (refine (polish_Parts.calls 13 0 0 _ (TB0.out.gl.below FS4.out.bel) HP2.out).mono ?_; rintro e w5 ⟨rfl, m5, hm5⟩; have FS5 := Aside0.mk (show FS wB w w5 gr gn at_ n vals (List.replicate n false) from by rw [hm5]; exact FS4.out.drewN m5); have K55 := Aside0.mk (show w5.heap[g5]? = some (.cells #[.slice none 0 0] 30 (0, 0)) from by rw [hm5]; exact K54.out); have K65 := Aside0.mk (show w5.heap[g6]? = some (.cells #[.slice none 0 0] 30 (0, 0)) from by rw [hm5]; exact K6.out); clear hm5 c0 hx0 FS4 K54 K6; have c05 : w5.cell? ⟨g, 0, none⟩ = some (.slice (some ad) f.length cf) := (blk_cell (TB0.out.blk' FS5.out) 0).trans rfl; obtain ⟨ad', eA', hx0, hx1⟩ := at_T51 (Kd.C_below TB0.out.fC FS5.out.bel) (at_ : Int) (by omega) (by have := HAT.out; omega); obtain rfl := (Option.some.inj eA'); rw [HF0.out, Int.toNat_natCast] at hx0; rw [HF1.out, Int.toNat_natCast] at hx1; clear eA')) | ((with_reducible refine gate_dst (N := 9) rfl ?_); go_must (refine box_event ?hg (N := 9) ?hd (cs := #[.int .i64 0, .int .i64 0]) (t := 51) ?hr ?_; (case hd => rfl); (case hg => rfl); (case hr => first | (go_simp; done) | (go_simp; rfl)); intro g9 hg9 w6 hbox hb; have K9 := Aside0.mk hbox; have FS6 := Aside0.mk (FS.below FS5.out hb); have K56 := Aside0.mk (blk_below K55.out hb); have K66 := Aside0.mk (blk_below K65.out hb); have G9 := Aside0.mk (show w.heap.size ≤ g9 ∧ gn ≠ g9 ∧ g5 ≠ g9 ∧ g6 ≠ g9 from ⟨by rw [hg9]; exact FS5.out.keep.1, by have := blk_lt FS5.out.nw; omega, by have := blk_lt K55.out; omega, by have := blk_lt K65.out; omega⟩); clear hb hbox hg9 FS5 K55 K65 c05 hx0 hx1; have k9a : w6.cell? ⟨g9, 0, none⟩ = some (.int .i64 0) := (blk_cell K9.out 0).trans rfl; have k9b : w6.cell? ⟨g9, 1, none⟩ = some (.int .i64 0) := (blk_cell K9.out 1).trans rfl; have f9a := blk_frozen K9.out 0; have f9b := blk_frozen K9.out 1)) | ((with_reducible refine gate_store (t := 51) (p := 9) (v := .tmp 68) rfl ?_); go_must (refine store_event (t := 51) (p := 9) (v := .tmp 68) (w1 := ((w6.setCell ⟨g9, 0, none⟩ (.int .i64 13)).setCell ⟨g9, 1, none⟩ (.int .i64 vl))) ?hg ?ho ?hn ?hr ?_; (case ho => rfl); (case hg => rfl); (case hn => rfl); (case hr => first | (go_simp; done) | (go_simp; rfl)); intro w7 hw; have K97 := Aside0.mk (show w7.heap[g9]? = some (.cells #[.int .i64 13, .int .i64 vl] 51 (0, 0)) from by rw [hw]; exact blk_put (blk_put K9.out 0 _ rfl) 1 _ rfl); have FS7 := Aside0.mk (show FS wB w w7 gr gn at_ n vals (List.replicate n false) from by rw [hw]; exact (FS6.out.far (p := ⟨g9, 0, none⟩) G9.out.1 G9.out.2.1 TB0.out.sizes.1 TB0.out.sizes.2.1 _).far (p := ⟨g9, 1, none⟩) G9.out.1 G9.out.2.1 TB0.out.sizes.1 TB0.out.sizes.2.1 _); have K57 := Aside0.mk (show w7.heap[g5]? = some (.cells #[.slice none 0 0] 30 (0, 0)) from by rw [hw]; exact blk_far (p := ⟨g9, 1, none⟩) (blk_far (p := ⟨g9, 0, none⟩) K56.out G9.out.2.2.1 _) G9.out.2.2.1 _); have K67 := Aside0.mk (show w7.heap[g6]? = some (.cells #[.slice none 0 0] 30 (0, 0)) from by rw [hw]; exact blk_far (p := ⟨g9, 1, none⟩) (blk_far (p := ⟨g9, 0, none⟩) K66.out G9.out.2.2.2 _) G9.out.2.2.2 _); clear hw K9 FS6 K56 K66 k9a k9b f9a f9b; have k70 : w7.cell? ⟨g9, 0, none⟩ = some (.int .i64 13) := (blk_cell K97.out 0).trans rfl)))
  have S7 := Aside0.mk (show SW w7 w7 gn (mkr (fun i => rdOf false (xs.getD i.toNat []) vl) 0 ++ List.replicate (n - 0) false) from ⟨FS7.out.nw, KeepBut.refl _ _ _, Below.refl _ _⟩)
  go_loopg [73] n (fun kq v73 wr => ∃ j : Nat, v73 = .int .i64 j ∧ j + kq = n ∧ Aside0 (SW w7 wr gn (mkr (fun i => rdOf false (xs.getD i.toNat []) vl) j ++ List.replicate (n - j) false)))
  case atStart => exact ⟨0, rfl, by omega, S7⟩
  case round =>
    obtain ⟨j, rfl, hj, hA⟩ := hrel
    by_cases hlt : j < n
    · have b1 : decide ((j : Int) < (n : Int)) = true := decide_eq_true (by omega)
      have b2 : ((j : Int) < (n : Int)) = True := eq_true (by omega)
      have b3 : wrap64 ((j : Int) + 1) = (j : Int) + 1 := by have := HN.out; unfold wrap64; omega
      have cell := hA.out.row.cell (j : Int) (by omega) (by simp [mkr_len]; omega)
      have fz := blk_frozen hA.out.row j
      rw [Int.toNat_natCast] at cell
      have k0 : wr.cell? ⟨g9, 0, none⟩ = some (.int .i64 13) := hA.out.cell ((blk_cell K97.out 0).trans rfl) (fun e => G9.out.2.1 e.symm)
      have k1 : wr.cell? ⟨g9, 1, none⟩ = some (.int .i64 vl) := hA.out.cell ((blk_cell K97.out 1).trans rfl) (fun e => G9.out.2.1 e.symm)
      have fs := FS7.out.sw hA.out TB0.out.sizes.1 TB0.out.sizes.2.1
      have k2 : wr.cell? ⟨g, 2, none⟩ = some (.slice Al n cl) := (blk_cell (TB0.out.blk' fs) 2).trans rfl
      obtain ⟨al, el, hl0⟩ := (TB0.out.lAt fs).2.2 (by omega)
      obtain ⟨Aj, cj, ej, hcj⟩ := TB0.out.lr.at j (by rw [HX.out]; exact hlt)
      have hjl : j < rs.length := by rw [TB0.out.lr.1, HX.out]; exact hlt
      obtain ⟨c_, _, rfl, hl1⟩ := hl0 j _ (List.getElem?_eq_getElem hjl)
      have cl0 := hl1 0 _ rfl
      rw [show j * kV.sz + 0 = j from by show j * 1 + 0 = j; omega, show (rs[j]).1 = .slice Aj (xs.getD j []).length cj from by rw [← ej]; simp [rdOf, hjl]] at cl0
      subst el
      obtain ⟨x, hx⟩ : ∃ x, xs.getD j [] = x := ⟨_, rfl⟩
      have HCJ := HC.out.2 j hlt
      rw [hx] at hcj cl0 HCJ
      obtain ⟨aj, eaj, hbv⟩ := Kd.at_bool (Kd.C_below hcj fs.bel) vl HC.out.1 HCJ
      subst eaj
      have q4 := eq_true HC.out.1
      have q5 := eq_true HCJ
      have HXX := Aside0.mk hx
      clear hx HCJ hcj ej hl0 hl1 fs
      have HJ := Aside0.mk hj
      have HT := Aside0.mk hlt
      clear hj hlt
      go_wp2
      go_region
      go_wp2
      go_roundg (n - (j + 1))
      case measure => have := HJ.out; have := HT.out; omega
      case rel =>
        refine ⟨j + 1, by simp; exact b3, by have := HT.out; have := HJ.out; omega, ⟨?_⟩⟩
        rw [← mkr_set _ HT.out]
        have q := hA.out.put (j : Int) (rdOf false (xs.getD (j : Int).toNat []) vl)
        rw [Int.toNat_natCast, HXX.out] at q
        show SW w7 _ gn (List.set _ j (rdOf false (xs.getD (j : Int).toNat []) vl))
        rw [Int.toNat_natCast, HXX.out]
        exact q.drew
    · have b1 : decide ((j : Int) < (n : Int)) = false := decide_eq_false (by omega)
      have b2 : ((j : Int) < (n : Int)) = False := eq_false (by omega)
      obtain rfl : j = n := by omega
      have HE := Aside0.mk (show SW w7 wr gn (mkr (fun i => rdOf false (xs.getD i.toNat []) vl) j) from by have q := hA.out; rw [Nat.sub_self, List.replicate_zero, List.append_nil] at q; exact q)
      clear hA hlt hj
      go_wp2
      go_end0
      exact ⟨rfl, _, TB0.out.done (FS7.out.sw HE.out TB0.out.sizes.1 TB0.out.sizes.2.1) (mkr_len _ _)⟩
set_option maxHeartbeats 16000000 in
set_option maxRecDepth 100000 in
theorem word_fill11.calls (wB w : World) (g gr : Nat) (Af Ae Al : Option Addr) (cf ce cl cr n : Nat) (f : List S51) (es : List Int) (rs : List VV) (xs : List (List Bool)) (back : Int) (at_ : Nat) (vals : List Value) (rows : List (List Bool)) (vl : Int)
    (h : TB wB w g gr Af Ae Al cf ce cl cr n f es rs xs back (at_ + 1) vals rows) (hn0 : 1 ≤ n) (hn1 : n ≤ 100) (hb0 : 0 ≤ back) (hb1 : back < (n : Int)) (hlx : xs.length = n) (ho : f[at_]? = some ⟨11, vl⟩) (hf1 : f.length ≤ 1000) :
    Calls Tryd.prog 45 #[.pointer (some ⟨g, 0, none⟩), .int .i64 at_] w fun e w' => e = .returned (.tuple #[]) ∧ ∃ vals', TB wB w' g gr Af Ae Al cf ce cl cr n f es rs xs back at_ vals' (mkr (fun _ => true) n :: rows) := by
  have info4 := (by kernel_rfl : (Tryd.prog.info? 4).map (fun i => (i.zero, i.size, i.bytes)) = some (some (.bool false), 1, 1))
  have hmf : ∀ (fn : Fn) (first cap : Array Value) (w : World), (Instr.makeFunc fn first cap).run Tryd.prog w = .ok (.func fn first cap) w := fun _ _ _ _ => rfl
  have HAT := Aside0.mk (List.getElem?_eq_some_iff.1 ho).1
  have TB0 := Aside0.mk h
  have HN := Aside0.mk (And.intro hn0 hn1)
  have HB := Aside0.mk (And.intro hb0 hb1)
  have HO := Aside0.mk ho
  have HF := Aside0.mk hf1
  have HX := Aside0.mk hlx
  have c2 : w.cell? ⟨g, 2, none⟩ = some (.slice Al n cl) := (blk_cell h.blk 2).trans rfl
  have q0 : (0 ≤ (at_ : Int)) = True := eq_true (by omega)
  have q1 : ((at_ : Int) < (f.length : Int)) = True := eq_true (by have := HAT.out; omega)
  clear h hn0 hn1 hb0 hb1 ho hf1 hlx
  obtain ⟨v0, hv0⟩ : ∃ v0, vals[at_]? = some v0 := ⟨_, List.getElem?_eq_getElem (Nat.lt_of_lt_of_le HAT.out TB0.out.vlen)⟩
  have V0 := Aside0.mk hv0
  clear hv0
  obtain ⟨ad, eA, hx0, hx1⟩ := at_T51 (Kd.C_below TB0.out.fC TB0.out.bel) (at_ : Int) (by omega) (by have := HAT.out; omega)
  have eo : rd_T51 f (at_ : Int) = ⟨11, vl⟩ := by simp [rd_T51, HO.out]
  have HF0 := Aside0.mk (show (rd_T51 f (at_ : Int)).f0 = 11 from by rw [eo])
  have HF1 := Aside0.mk (show (rd_T51 f (at_ : Int)).f1 = vl from by rw [eo])
  have HP2 := Aside0.mk (show polish_Parts.f 11 = some (0, 0) from by decide)
  subst eA
  clear eo hx0 hx1
  go_enter Tryd.func45, Tryd.ntmps45
  go_wp2_with (first | ((with_reducible refine gate_dst (N := 16) rfl ?_); go_must (refine make_event rfl (N := 16) rfl 30 4 (.tmp 15) (.tmp 15) rfl n rfl rfl Tryd.underlying30 (.bool false) 1 info4 rfl (by have := HN.out.2; omega) (by have := HN.out.2; omega) ?_; intro gn hg w1 hb1 hbel; have N1 := Aside0.mk (show BB w1 gn (List.replicate n false) from by unfold BB; rw [hb1, List.map_replicate]); have B1 := Aside0.mk hbel; have HG := Aside0.mk hg; clear hb1 hbel hg c2; have c4 : w1.cell? ⟨g, 4, none⟩ = some (.slice (some ⟨gr, 0, none⟩) f.length cr) := (blk_cell (blk_below TB0.out.blk B1.out) 4).trans rfl; have cr0 : w1.cell? ⟨gr, at_, none⟩ = some v0 := (blk_cell (blk_below TB0.out.rblk B1.out) at_).trans (by rw [List.getElem?_toArray]; exact V0.out); have fr0 := blk_frozen (blk_below TB0.out.rblk B1.out) at_)) | ((with_reducible refine gate_store (t := 30) (p := 23) (v := .tmp 22) rfl ?_); go_must (refine store_event (t := 30) (p := 23) (v := .tmp 22) (w1 := (w1.setCell ⟨gr, at_, none⟩ (.slice (some ⟨gn, 0, none⟩) n n))) ?hg ?ho ?hn ?hr ?_; (case ho => rfl); (case hg => rfl); (case hn => rfl); (case hr => first | (go_simp; done) | (go_simp; rfl)); intro w2 hw; have FS2 := Aside0.mk (TB.start TB0.out HG.out N1.out B1.out hw rfl); clear hw c4 cr0 fr0 N1)) | ((with_reducible refine gate_dst (N := 5) rfl ?_); go_must (refine box_event ?hg (N := 5) ?hd (cs := #[.slice none 0 0]) (t := 30) ?hr ?_; (case hd => rfl); (case hg => rfl); (case hr => first | (go_simp; done) | (go_simp; rfl)); intro g5 hg5 w3 hbox hb; have K5 := Aside0.mk hbox; have FS3 := Aside0.mk (FS.below FS2.out hb); have G5 := Aside0.mk (show w.heap.size ≤ g5 ∧ gn ≠ g5 from ⟨by rw [hg5]; exact FS2.out.keep.1, by have := blk_lt FS2.out.nw; omega⟩); clear hb hbox hg5 FS2)) | ((with_reducible refine gate_dst (N := 6) rfl ?_); go_must (refine box_event ?hg (N := 6) ?hd (cs := #[.slice none 0 0]) (t := 30) ?hr ?_; (case hd => rfl); (case hg => rfl); (case hr => first | (go_simp; done) | (go_simp; rfl)); intro g6 hg6 w4 hbox hb; have K6 := Aside0.mk hbox; have K54 := Aside0.mk (blk_below K5.out hb); have FS4 := Aside0.mk (FS.below FS3.out hb); have G6 := Aside0.mk (show w.heap.size ≤ g6 ∧ gn ≠ g6 ∧ g5 ≠ g6 from ⟨by rw [hg6]; exact FS3.out.keep.1, by have := blk_lt FS3.out.nw; omega, by have := blk_lt K5.out; omega⟩); clear hb hbox hg6 FS3 K5; have c0 : w4.cell? ⟨g, 0, none⟩ = some (.slice (some ad) f.length cf) := (blk_cell (TB0.out.blk' FS4.out) 0).trans rfl; obtain ⟨ad', eA', hx0, hx1⟩ := at_T51 (Kd.C_below TB0.out.fC FS4.out.bel) (at_ : Int) (by omega) (by have := HAT.out; omega); obtain rfl := (Option.some.inj eA'); rw [HF0.out, Int.toNat_natCast] at hx0; clear hx1 eA')) | (go_at_call 46; go_must (refine (polish_Parts.calls 11 0 0 _ (TB0.out.gl.below FS4.out.bel) HP2.out).mono ?_; rintro e w5 ⟨rfl, m5, hm5⟩; have FS5 := Aside0.mk (show FS wB w w5 gr gn at_ n vals (List.replicate n false) from by rw [hm5]; exact FS4.out.drewN m5); have K55 := Aside0.mk (show w5.heap[g5]? = some (.cells #[.slice none 0 0] 30 (0, 0)) from by rw [hm5]; exact K54.out); have K65 := Aside0.mk (show w5.heap[g6]? = some (.cells #[.slice none 0 0] 30 (0, 0)) from by rw [hm5]; exact K6.out); clear hm5 c0 hx0 FS4 K54 K6; have c05 : w5.cell? ⟨g, 0, none⟩ = some (.slice (some ad) f.length cf) := (blk_cell (TB0.out.blk' FS5.out) 0).trans rfl; obtain ⟨ad', eA', hx0, hx1⟩ := at_T51 (Kd.C_below TB0.out.fC FS5.out.bel) (at_ : Int) (by omega) (by have := HAT.out; omega); obtain rfl := (Option.some.inj eA'); rw [HF0.out, Int.toNat_natCast] at hx0; rw [HF1.out, Int.toNat_natCast] at hx1; clear eA')) | ((with_reducible refine gate_dst (N := 9) rfl ?_); go_must (refine box_event ?hg (N := 9) ?hd (cs := #[.int .i64 0, .int .i64 0]) (t := 51) ?hr ?_; (case hd => rfl); (case hg => rfl); (case hr => first | (go_simp; done) | (go_simp; rfl)); intro g9 hg9 w6 hbox hb; have K9 := Aside0.mk hbox; have FS6 := Aside0.mk (FS.below FS5.out hb); have K56 := Aside0.mk (blk_below K55.out hb); have K66 := Aside0.mk (blk_below K65.out hb); have G9 := Aside0.mk (show w.heap.size ≤ g9 ∧ gn ≠ g9 ∧ g5 ≠ g9 ∧ g6 ≠ g9 from ⟨by rw [hg9]; exact FS5.out.keep.1, by have := blk_lt FS5.out.nw; omega, by have := blk_lt K55.out; omega, by have := blk_lt K65.out; omega⟩); clear hb hbox hg9 FS5 K55 K65 c05 hx0 hx1; have k9a : w6.cell? ⟨g9, 0, none⟩ = some (.int .i64 0) := (blk_cell K9.out 0).trans rfl; have k9b : w6.cell? ⟨g9, 1, none⟩ = some (.int .i64 0) := (blk_cell K9.out 1).trans rfl; have f9a := blk_frozen K9.out 0; have f9b := blk_frozen K9.out 1)) | ((with_reducible refine gate_store (t := 51) (p := 9) (v := .tmp 68) rfl ?_); go_must (refine store_event (t := 51) (p := 9) (v := .tmp 68) (w1 := ((w6.setCell ⟨g9, 0, none⟩ (.int .i64 11)).setCell ⟨g9, 1, none⟩ (.int .i64 vl))) ?hg ?ho ?hn ?hr ?_; (case ho => rfl); (case hg => rfl); (case hn => rfl); (case hr => first | (go_simp; done) | (go_simp; rfl)); intro w7 hw; have K97 := Aside0.mk (show w7.heap[g9]? = some (.cells #[.int .i64 11, .int .i64 vl] 51 (0, 0)) from by rw [hw]; exact blk_put (blk_put K9.out 0 _ rfl) 1 _ rfl); have FS7 := Aside0.mk (show FS wB w w7 gr gn at_ n vals (List.replicate n false) from by rw [hw]; exact (FS6.out.far (p := ⟨g9, 0, none⟩) G9.out.1 G9.out.2.1 TB0.out.sizes.1 TB0.out.sizes.2.1 _).far (p := ⟨g9, 1, none⟩) G9.out.1 G9.out.2.1 TB0.out.sizes.1 TB0.out.sizes.2.1 _); have K57 := Aside0.mk (show w7.heap[g5]? = some (.cells #[.slice none 0 0] 30 (0, 0)) from by rw [hw]; exact blk_far (p := ⟨g9, 1, none⟩) (blk_far (p := ⟨g9, 0, none⟩) K56.out G9.out.2.2.1 _) G9.out.2.2.1 _); have K67 := Aside0.mk (show w7.heap[g6]? = some (.cells #[.slice none 0 0] 30 (0, 0)) from by rw [hw]; exact blk_far (p := ⟨g9, 1, none⟩) (blk_far (p := ⟨g9, 0, none⟩) K66.out G9.out.2.2.2 _) G9.out.2.2.2 _); clear hw K9 FS6 K56 K66 k9a k9b f9a f9b; have k70 : w7.cell? ⟨g9, 0, none⟩ = some (.int .i64 11) := (blk_cell K97.out 0).trans rfl)))
  have S7 := Aside0.mk (show SW w7 w7 gn (mkr (fun _ => true) 0 ++ List.replicate (n - 0) false) from ⟨FS7.out.nw, KeepBut.refl _ _ _, Below.refl _ _⟩)
  go_loopg [73] n (fun kq v73 wr => ∃ j : Nat, v73 = .int .i64 j ∧ j + kq = n ∧ Aside0 (SW w7 wr gn (mkr (fun _ => true) j ++ List.replicate (n - j) false)))
  case atStart => exact ⟨0, rfl, by omega, S7⟩
  case round =>
    obtain ⟨j, rfl, hj, hA⟩ := hrel
    by_cases hlt : j < n
    · have b1 : decide ((j : Int) < (n : Int)) = true := decide_eq_true (by omega)
      have b2 : ((j : Int) < (n : Int)) = True := eq_true (by omega)
      have b3 : wrap64 ((j : Int) + 1) = (j : Int) + 1 := by have := HN.out; unfold wrap64; omega
      have cell := hA.out.row.cell (j : Int) (by omega) (by simp [mkr_len]; omega)
      have fz := blk_frozen hA.out.row j
      rw [Int.toNat_natCast] at cell
      have k0 : wr.cell? ⟨g9, 0, none⟩ = some (.int .i64 11) := hA.out.cell ((blk_cell K97.out 0).trans rfl) (fun e => G9.out.2.1 e.symm)
      have HJ := Aside0.mk hj
      have HT := Aside0.mk hlt
      clear hj hlt
      go_wp2
      go_roundg (n - (j + 1))
      case measure => have := HJ.out; have := HT.out; omega
      case rel =>
        refine ⟨j + 1, by simp; exact b3, by have := HT.out; have := HJ.out; omega, ⟨?_⟩⟩
        rw [← mkr_set _ HT.out]
        have q := hA.out.put (j : Int) (true)
        rw [Int.toNat_natCast] at q
        exact q
    · have b1 : decide ((j : Int) < (n : Int)) = false := decide_eq_false (by omega)
      have b2 : ((j : Int) < (n : Int)) = False := eq_false (by omega)
      obtain rfl : j = n := by omega
      have HE := Aside0.mk (show SW w7 wr gn (mkr (fun _ => true) j) from by have q := hA.out; rw [Nat.sub_self, List.replicate_zero, List.append_nil] at q; exact q)
      clear hA hlt hj
      go_wp2
      go_end0
      exact ⟨rfl, _, TB0.out.done (FS7.out.sw HE.out TB0.out.sizes.1 TB0.out.sizes.2.1) (mkr_len _ _)⟩
set_option maxHeartbeats 16000000 in
set_option maxRecDepth 100000 in
theorem word_fill12.calls (wB w : World) (g gr : Nat) (Af Ae Al : Option Addr) (cf ce cl cr n : Nat) (f : List S51) (es : List Int) (rs : List VV) (xs : List (List Bool)) (back : Int) (at_ : Nat) (vals : List Value) (rows : List (List Bool)) (vl : Int)
    (h : TB wB w g gr Af Ae Al cf ce cl cr n f es rs xs back (at_ + 1) vals rows) (hn0 : 1 ≤ n) (hn1 : n ≤ 100) (hb0 : 0 ≤ back) (hb1 : back < (n : Int)) (hlx : xs.length = n) (ho : f[at_]? = some ⟨12, vl⟩) (hf1 : f.length ≤ 1000) :
    Calls Tryd.prog 45 #[.pointer (some ⟨g, 0, none⟩), .int .i64 at_] w fun e w' => e = .returned (.tuple #[]) ∧ ∃ vals', TB wB w' g gr Af Ae Al cf ce cl cr n f es rs xs back at_ vals' (mkr (fun _ => false) n :: rows) := by
  have info4 := (by kernel_rfl : (Tryd.prog.info? 4).map (fun i => (i.zero, i.size, i.bytes)) = some (some (.bool false), 1, 1))
  have hmf : ∀ (fn : Fn) (first cap : Array Value) (w : World), (Instr.makeFunc fn first cap).run Tryd.prog w = .ok (.func fn first cap) w := fun _ _ _ _ => rfl
  have HAT := Aside0.mk (List.getElem?_eq_some_iff.1 ho).1
  have TB0 := Aside0.mk h
  have HN := Aside0.mk (And.intro hn0 hn1)
  have HB := Aside0.mk (And.intro hb0 hb1)
  have HO := Aside0.mk ho
  have HF := Aside0.mk hf1
  have HX := Aside0.mk hlx
  have c2 : w.cell? ⟨g, 2, none⟩ = some (.slice Al n cl) := (blk_cell h.blk 2).trans rfl
  have q0 : (0 ≤ (at_ : Int)) = True := eq_true (by omega)
  have q1 : ((at_ : Int) < (f.length : Int)) = True := eq_true (by have := HAT.out; omega)
  clear h hn0 hn1 hb0 hb1 ho hf1 hlx
  obtain ⟨v0, hv0⟩ : ∃ v0, vals[at_]? = some v0 := ⟨_, List.getElem?_eq_getElem (Nat.lt_of_lt_of_le HAT.out TB0.out.vlen)⟩
  have V0 := Aside0.mk hv0
  clear hv0
  obtain ⟨ad, eA, hx0, hx1⟩ := at_T51 (Kd.C_below TB0.out.fC TB0.out.bel) (at_ : Int) (by omega) (by have := HAT.out; omega)
  have eo : rd_T51 f (at_ : Int) = ⟨12, vl⟩ := by simp [rd_T51, HO.out]
  have HF0 := Aside0.mk (show (rd_T51 f (at_ : Int)).f0 = 12 from by rw [eo])
  have HF1 := Aside0.mk (show (rd_T51 f (at_ : Int)).f1 = vl from by rw [eo])
  have HP2 := Aside0.mk (show polish_Parts.f 12 = some (0, 0) from by decide)
  subst eA
  clear eo hx0 hx1
  go_enter Tryd.func45, Tryd.ntmps45
  go_wp2_with (first | ((with_reducible refine gate_dst (N := 16) rfl ?_); go_must (refine make_event rfl (N := 16) rfl 30 4 (.tmp 15) (.tmp 15) rfl n rfl rfl Tryd.underlying30 (.bool false) 1 info4 rfl (by have := HN.out.2; omega) (by have := HN.out.2; omega) ?_; intro gn hg w1 hb1 hbel; have N1 := Aside0.mk (show BB w1 gn (List.replicate n false) from by unfold BB; rw [hb1, List.map_replicate]); have B1 := Aside0.mk hbel; have HG := Aside0.mk hg; clear hb1 hbel hg c2; have c4 : w1.cell? ⟨g, 4, none⟩ = some (.slice (some ⟨gr, 0, none⟩) f.length cr) := (blk_cell (blk_below TB0.out.blk B1.out) 4).trans rfl; have cr0 : w1.cell? ⟨gr, at_, none⟩ = some v0 := (blk_cell (blk_below TB0.out.rblk B1.out) at_).trans (by rw [List.getElem?_toArray]; exact V0.out); have fr0 := blk_frozen (blk_below TB0.out.rblk B1.out) at_)) | ((with_reducible refine gate_store (t := 30) (p := 23) (v := .tmp 22) rfl ?_); go_must (refine store_event (t := 30) (p := 23) (v := .tmp 22) (w1 := (w1.setCell ⟨gr, at_, none⟩ (.slice (some ⟨gn, 0, none⟩) n n))) ?hg ?ho ?hn ?hr ?_; (case ho => rfl); (case hg => rfl); (case hn => rfl); (case hr => first | (go_simp; done) | (go_simp; rfl)); intro w2 hw; have FS2 := Aside0.mk (TB.start TB0.out HG.out N1.out B1.out hw rfl); clear hw c4 cr0 fr0 N1)) | ((with_reducible refine gate_dst (N := 5) rfl ?_); go_must (refine box_event ?hg (N := 5) ?hd (cs := #[.slice none 0 0]) (t := 30) ?hr ?_; (case hd => rfl); (case hg => rfl); (case hr => first | (go_simp; done) | (go_simp; rfl)); intro g5 hg5 w3 hbox hb; have K5 := Aside0.mk hbox; have FS3 := Aside0.mk (FS.below FS2.out hb); have G5 := Aside0.mk (show w.heap.size ≤ g5 ∧ gn ≠ g5 from ⟨by rw [hg5]; exact FS2.out.keep.1, by have := blk_lt FS2.out.nw; omega⟩); clear hb hbox hg5 FS2)) | ((with_reducible refine gate_dst (N := 6) rfl ?_); go_must (refine box_event ?hg (N := 6) ?hd (cs := #[.slice none 0 0]) (t := 30) ?hr ?_; (case hd => rfl); (case hg => rfl); (case hr => first | (go_simp; done) | (go_simp; rfl)); intro g6 hg6 w4 hbox hb; have K6 := Aside0.mk hbox; have K54 := Aside0.mk (blk_below K5.out hb); have FS4 := Aside0.mk (FS.below FS3.out hb); have G6 := Aside0.mk (show w.heap.size ≤ g6 ∧ gn ≠ g6 ∧ g5 ≠ g6 from ⟨by rw [hg6]; exact FS3.out.keep.1, by have := blk_lt FS3.out.nw; omega, by have := blk_lt K5.out; omega⟩); clear hb hbox hg6 FS3 K5; have c0 : w4.cell? ⟨g, 0, none⟩ = some (.slice (some ad) f.length cf) := (blk_cell (TB0.out.blk' FS4.out) 0).trans rfl; obtain ⟨ad', eA', hx0, hx1⟩ := at_T51 (Kd.C_below TB0.out.fC FS4.out.bel) (at_ : Int) (by omega) (by have := HAT.out; omega); obtain rfl := (Option.some.inj eA'); rw [HF0.out, Int.toNat_natCast] at hx0; clear hx1 eA')) | (go_at_call 46; go_must (refine (polish_Parts.calls 12 0 0 _ (TB0.out.gl.below FS4.out.bel) HP2.out).mono ?_; rintro e w5 ⟨rfl, m5, hm5⟩; have FS5 := Aside0.mk (show FS wB w w5 gr gn at_ n vals (List.replicate n false) from by rw [hm5]; exact FS4.out.drewN m5); have K55 := Aside0.mk (show w5.heap[g5]? = some (.cells #[.slice none 0 0] 30 (0, 0)) from by rw [hm5]; exact K54.out); have K65 := Aside0.mk (show w5.heap[g6]? = some (.cells #[.slice none 0 0] 30 (0, 0)) from by rw [hm5]; exact K6.out); clear hm5 c0 hx0 FS4 K54 K6; have c05 : w5.cell? ⟨g, 0, none⟩ = some (.slice (some ad) f.length cf) := (blk_cell (TB0.out.blk' FS5.out) 0).trans rfl; obtain ⟨ad', eA', hx0, hx1⟩ := at_T51 (Kd.C_below TB0.out.fC FS5.out.bel) (at_ : Int) (by omega) (by have := HAT.out; omega); obtain rfl := (Option.some.inj eA'); rw [HF0.out, Int.toNat_natCast] at hx0; rw [HF1.out, Int.toNat_natCast] at hx1; clear eA')) | ((with_reducible refine gate_dst (N := 9) rfl ?_); go_must (refine box_event ?hg (N := 9) ?hd (cs := #[.int .i64 0, .int .i64 0]) (t := 51) ?hr ?_; (case hd => rfl); (case hg => rfl); (case hr => first | (go_simp; done) | (go_simp; rfl)); intro g9 hg9 w6 hbox hb; have K9 := Aside0.mk hbox; have FS6 := Aside0.mk (FS.below FS5.out hb); have K56 := Aside0.mk (blk_below K55.out hb); have K66 := Aside0.mk (blk_below K65.out hb); have G9 := Aside0.mk (show w.heap.size ≤ g9 ∧ gn ≠ g9 ∧ g5 ≠ g9 ∧ g6 ≠ g9 from ⟨by rw [hg9]; exact FS5.out.keep.1, by have := blk_lt FS5.out.nw; omega, by have := blk_lt K55.out; omega, by have := blk_lt K65.out; omega⟩); clear hb hbox hg9 FS5 K55 K65 c05 hx0 hx1; have k9a : w6.cell? ⟨g9, 0, none⟩ = some (.int .i64 0) := (blk_cell K9.out 0).trans rfl; have k9b : w6.cell? ⟨g9, 1, none⟩ = some (.int .i64 0) := (blk_cell K9.out 1).trans rfl; have f9a := blk_frozen K9.out 0; have f9b := blk_frozen K9.out 1)) | ((with_reducible refine gate_store (t := 51) (p := 9) (v := .tmp 68) rfl ?_); go_must (refine store_event (t := 51) (p := 9) (v := .tmp 68) (w1 := ((w6.setCell ⟨g9, 0, none⟩ (.int .i64 12)).setCell ⟨g9, 1, none⟩ (.int .i64 vl))) ?hg ?ho ?hn ?hr ?_; (case ho => rfl); (case hg => rfl); (case hn => rfl); (case hr => first | (go_simp; done) | (go_simp; rfl)); intro w7 hw; have K97 := Aside0.mk (show w7.heap[g9]? = some (.cells #[.int .i64 12, .int .i64 vl] 51 (0, 0)) from by rw [hw]; exact blk_put (blk_put K9.out 0 _ rfl) 1 _ rfl); have FS7 := Aside0.mk (show FS wB w w7 gr gn at_ n vals (List.replicate n false) from by rw [hw]; exact (FS6.out.far (p := ⟨g9, 0, none⟩) G9.out.1 G9.out.2.1 TB0.out.sizes.1 TB0.out.sizes.2.1 _).far (p := ⟨g9, 1, none⟩) G9.out.1 G9.out.2.1 TB0.out.sizes.1 TB0.out.sizes.2.1 _); have K57 := Aside0.mk (show w7.heap[g5]? = some (.cells #[.slice none 0 0] 30 (0, 0)) from by rw [hw]; exact blk_far (p := ⟨g9, 1, none⟩) (blk_far (p := ⟨g9, 0, none⟩) K56.out G9.out.2.2.1 _) G9.out.2.2.1 _); have K67 := Aside0.mk (show w7.heap[g6]? = some (.cells #[.slice none 0 0] 30 (0, 0)) from by rw [hw]; exact blk_far (p := ⟨g9, 1, none⟩) (blk_far (p := ⟨g9, 0, none⟩) K66.out G9.out.2.2.2 _) G9.out.2.2.2 _); clear hw K9 FS6 K56 K66 k9a k9b f9a f9b; have k70 : w7.cell? ⟨g9, 0, none⟩ = some (.int .i64 12) := (blk_cell K97.out 0).trans rfl)))
  have S7 := Aside0.mk (show SW w7 w7 gn (mkr (fun _ => false) 0 ++ List.replicate (n - 0) false) from ⟨FS7.out.nw, KeepBut.refl _ _ _, Below.refl _ _⟩)
  go_loopg [73] n (fun kq v73 wr => ∃ j : Nat, v73 = .int .i64 j ∧ j + kq = n ∧ Aside0 (SW w7 wr gn (mkr (fun _ => false) j ++ List.replicate (n - j) false)))
  case atStart => exact ⟨0, rfl, by omega, S7⟩
  case round =>
    obtain ⟨j, rfl, hj, hA⟩ := hrel
    by_cases hlt : j < n
    · have b1 : decide ((j : Int) < (n : Int)) = true := decide_eq_true (by omega)
      have b2 : ((j : Int) < (n : Int)) = True := eq_true (by omega)
      have b3 : wrap64 ((j : Int) + 1) = (j : Int) + 1 := by have := HN.out; unfold wrap64; omega
      have cell := hA.out.row.cell (j : Int) (by omega) (by simp [mkr_len]; omega)
      have fz := blk_frozen hA.out.row j
      rw [Int.toNat_natCast] at cell
      have k0 : wr.cell? ⟨g9, 0, none⟩ = some (.int .i64 12) := hA.out.cell ((blk_cell K97.out 0).trans rfl) (fun e => G9.out.2.1 e.symm)
      have HJ := Aside0.mk hj
      have HT := Aside0.mk hlt
      clear hj hlt
      go_wp2
      go_roundg (n - (j + 1))
      case measure => have := HJ.out; have := HT.out; omega
      case rel =>
        refine ⟨j + 1, by simp; exact b3, by have := HT.out; have := HJ.out; omega, ⟨?_⟩⟩
        rw [mkr_false HT.out]
        have q := hA.out
        rw [mkr_false (Nat.le_of_lt HT.out)] at q
        exact q
    · have b1 : decide ((j : Int) < (n : Int)) = false := decide_eq_false (by omega)
      have b2 : ((j : Int) < (n : Int)) = False := eq_false (by omega)
      obtain rfl : j = n := by omega
      have HE := Aside0.mk (show SW w7 wr gn (mkr (fun _ => false) j) from by have q := hA.out; rw [Nat.sub_self, List.replicate_zero, List.append_nil] at q; exact q)
      clear hA hlt hj
      go_wp2
      go_end0
      exact ⟨rfl, _, TB0.out.done (FS7.out.sw HE.out TB0.out.sizes.1 TB0.out.sizes.2.1) (mkr_len _ _)⟩

--IMPORT FWordTb
--IMPORT Derived.WalkSpells
--IMPORT Derived.StillTailTactics
/-! ### word_fill_b: function 45 -/
set_option maxHeartbeats 16000000 in
set_option maxRecDepth 100000 in
theorem word_fill17.calls (wB w : World) (g gr : Nat) (Af Ae Al : Option Addr) (cf ce cl cr n : Nat) (f : List S51) (es : List Int) (rs : List VV) (xs : List (List Bool)) (back : Int) (at_ : Nat) (vals : List Value) (rows : List (List Bool)) (vl : Int) (a : List Bool) (k : Nat) (row : List Bool)
    (h : TB wB w g gr Af Ae Al cf ce cl cr n f es rs xs back (at_ + 1) vals rows) (hn0 : 1 ≤ n) (hn1 : n ≤ 100) (hb0 : 0 ≤ back) (hb1 : back < (n : Int)) (hlx : xs.length = n) (ho : f[at_]? = some ⟨17, vl⟩) (hf1 : f.length ≤ 1000) (ha : rows[0]? = some a) (hst : stl (fun i l => rdOf false a i || l) n back k (List.replicate n false) = some row) :
    Calls Tryd.prog 45 #[.pointer (some ⟨g, 0, none⟩), .int .i64 at_] w fun e w' => e = .returned (.tuple #[]) ∧ ∃ vals', TB wB w' g gr Af Ae Al cf ce cl cr n f es rs xs back at_ vals' (row :: rows) := by
  have HS := Aside0.mk hst
  clear hst
  have info4 := (by kernel_rfl : (Tryd.prog.info? 4).map (fun i => (i.zero, i.size, i.bytes)) = some (some (.bool false), 1, 1))
  have hmf : ∀ (fn : Fn) (first cap : Array Value) (w : World), (Instr.makeFunc fn first cap).run Tryd.prog w = .ok (.func fn first cap) w := fun _ _ _ _ => rfl
  have HAT := Aside0.mk (List.getElem?_eq_some_iff.1 ho).1
  have TB0 := Aside0.mk h
  have HN := Aside0.mk (And.intro hn0 hn1)
  have HB := Aside0.mk (And.intro hb0 hb1)
  have HO := Aside0.mk ho
  have HF := Aside0.mk hf1
  obtain ⟨gwa, ca, hva, hba, hla⟩ := h.row 0 a ha
  have VA := Aside0.mk hva
  have BA := Aside0.mk hba
  have LA := Aside0.mk hla
  have HA0 := Aside0.mk (List.getElem?_eq_some_iff.1 ha).1
  have RL := Aside0.mk h.rlen
  have r1 : wrap64 ((at_ : Int) + 1) = ((at_ + 1 : Nat) : Int) := by have := HAT.out; have := HF.out; unfold wrap64; omega
  have r2 : ((at_ : Int) + 1 < (f.length : Int)) = True := eq_true (by have := RL.out; have := HA0.out; omega)
  have r3 : (0 ≤ (at_ : Int) + 1) = True := eq_true (by omega)
  clear hva hba hla ha
  have HX := Aside0.mk hlx
  have c2 : w.cell? ⟨g, 2, none⟩ = some (.slice Al n cl) := (blk_cell h.blk 2).trans rfl
  have q0 : (0 ≤ (at_ : Int)) = True := eq_true (by omega)
  have q1 : ((at_ : Int) < (f.length : Int)) = True := eq_true (by have := HAT.out; omega)
  clear h hn0 hn1 hb0 hb1 ho hf1 hlx
  obtain ⟨v0, hv0⟩ : ∃ v0, vals[at_]? = some v0 := ⟨_, List.getElem?_eq_getElem (Nat.lt_of_lt_of_le HAT.out TB0.out.vlen)⟩
  have V0 := Aside0.mk hv0
  clear hv0
  obtain ⟨ad, eA, hx0, hx1⟩ := at_T51 (Kd.C_below TB0.out.fC TB0.out.bel) (at_ : Int) (by omega) (by have := HAT.out; omega)
  have eo : rd_T51 f (at_ : Int) = ⟨17, vl⟩ := by simp [rd_T51, HO.out]
  have HF0 := Aside0.mk (show (rd_T51 f (at_ : Int)).f0 = 17 from by rw [eo])
  have HF1 := Aside0.mk (show (rd_T51 f (at_ : Int)).f1 = vl from by rw [eo])
  have HP2 := Aside0.mk (show polish_Parts.f 17 = some (1, 0) from by decide)
  subst eA
  clear eo hx0 hx1
  go_enter Tryd.func45, Tryd.ntmps45
  go_wp2_with (first | ((with_reducible refine gate_dst (N := 16) rfl ?_); go_must (refine make_event rfl (N := 16) rfl 30 4 (.tmp 15) (.tmp 15) rfl n rfl rfl Tryd.underlying30 (.bool false) 1 info4 rfl (by have := HN.out.2; omega) (by have := HN.out.2; omega) ?_; intro gn hg w1 hb1 hbel; have N1 := Aside0.mk (show BB w1 gn (List.replicate n false) from by unfold BB; rw [hb1, List.map_replicate]); have B1 := Aside0.mk hbel; have HG := Aside0.mk hg; clear hb1 hbel hg c2; have c4 : w1.cell? ⟨g, 4, none⟩ = some (.slice (some ⟨gr, 0, none⟩) f.length cr) := (blk_cell (blk_below TB0.out.blk B1.out) 4).trans rfl; have cr0 : w1.cell? ⟨gr, at_, none⟩ = some v0 := (blk_cell (blk_below TB0.out.rblk B1.out) at_).trans (by rw [List.getElem?_toArray]; exact V0.out); have fr0 := blk_frozen (blk_below TB0.out.rblk B1.out) at_)) | ((with_reducible refine gate_store (t := 30) (p := 23) (v := .tmp 22) rfl ?_); go_must (refine store_event (t := 30) (p := 23) (v := .tmp 22) (w1 := (w1.setCell ⟨gr, at_, none⟩ (.slice (some ⟨gn, 0, none⟩) n n))) ?hg ?ho ?hn ?hr ?_; (case ho => rfl); (case hg => rfl); (case hn => rfl); (case hr => first | (go_simp; done) | (go_simp; rfl)); intro w2 hw; have FS2 := Aside0.mk (TB.start TB0.out HG.out N1.out B1.out hw rfl); clear hw c4 cr0 fr0 N1)) | ((with_reducible refine gate_dst (N := 5) rfl ?_); go_must (refine box_event ?hg (N := 5) ?hd (cs := #[.slice none 0 0]) (t := 30) ?hr ?_; (case hd => rfl); (case hg => rfl); (case hr => first | (go_simp; done) | (go_simp; rfl)); intro g5 hg5 w3 hbox hb; have K5 := Aside0.mk hbox; have FS3 := Aside0.mk (FS.below FS2.out hb); have G5 := Aside0.mk (show w.heap.size ≤ g5 ∧ gn ≠ g5 from ⟨by rw [hg5]; exact FS2.out.keep.1, by have := blk_lt FS2.out.nw; omega⟩); clear hb hbox hg5 FS2)) | ((with_reducible refine gate_dst (N := 6) rfl ?_); go_must (refine box_event ?hg (N := 6) ?hd (cs := #[.slice none 0 0]) (t := 30) ?hr ?_; (case hd => rfl); (case hg => rfl); (case hr => first | (go_simp; done) | (go_simp; rfl)); intro g6 hg6 w4 hbox hb; have K6 := Aside0.mk hbox; have K54 := Aside0.mk (blk_below K5.out hb); have FS4 := Aside0.mk (FS.below FS3.out hb); have G6 := Aside0.mk (show w.heap.size ≤ g6 ∧ gn ≠ g6 ∧ g5 ≠ g6 from ⟨by rw [hg6]; exact FS3.out.keep.1, by have := blk_lt FS3.out.nw; omega, by have := blk_lt K5.out; omega⟩); clear hb hbox hg6 FS3 K5; have c0 : w4.cell? ⟨g, 0, none⟩ = some (.slice (some ad) f.length cf) := (blk_cell (TB0.out.blk' FS4.out) 0).trans rfl; obtain ⟨ad', eA', hx0, hx1⟩ := at_T51 (Kd.C_below TB0.out.fC FS4.out.bel) (at_ : Int) (by omega) (by have := HAT.out; omega); obtain rfl := (Option.some.inj eA'); rw [HF0.out, Int.toNat_natCast] at hx0; clear hx1 eA')) | (go_at_call 46; go_must (refine (polish_Parts.calls 17 1 0 _ (TB0.out.gl.below FS4.out.bel) HP2.out).mono ?_; rintro e w5 ⟨rfl, m5, hm5⟩; have FS5 := Aside0.mk (show FS wB w w5 gr gn at_ n vals (List.replicate n false) from by rw [hm5]; exact FS4.out.drewN m5); have K55 := Aside0.mk (show w5.heap[g5]? = some (.cells #[.slice none 0 0] 30 (0, 0)) from by rw [hm5]; exact K54.out); have K65 := Aside0.mk (show w5.heap[g6]? = some (.cells #[.slice none 0 0] 30 (0, 0)) from by rw [hm5]; exact K6.out); clear hm5 c0 hx0 FS4 K54 K6; have c45 : w5.cell? ⟨g, 4, none⟩ = some (.slice (some ⟨gr, 0, none⟩) f.length cr) := (blk_cell (TB0.out.blk' FS5.out) 4).trans rfl; have ca5 : w5.cell? ⟨gr, at_ + 1, none⟩ = some (.slice (some ⟨gwa, 0, none⟩) n ca) := FS5.out.cellv (by omega) VA.out; have k55 : w5.cell? ⟨g5, 0, none⟩ = some (.slice none 0 0) := (blk_cell K55.out 0).trans rfl; have f55 := blk_frozen K55.out 0)) | ((with_reducible refine gate_store (t := 30) (p := 5) (v := .tmp 45) rfl ?_); go_must (refine store_event (t := 30) (p := 5) (v := .tmp 45) (w1 := (w5.setCell ⟨g5, 0, none⟩ (.slice (some ⟨gwa, 0, none⟩) n ca))) ?hg ?ho ?hn ?hr ?_; (case ho => rfl); (case hg => rfl); (case hn => rfl); (case hr => first | (go_simp; done) | (go_simp; rfl)); intro w5b hw; have FSb := Aside0.mk (show FS wB w w5b gr gn at_ n vals (List.replicate n false) from by rw [hw]; exact FS5.out.far (p := ⟨g5, 0, none⟩) G5.out.1 G5.out.2 TB0.out.sizes.1 TB0.out.sizes.2.1 _); have Kb5 := Aside0.mk (show w5b.heap[g5]? = some (.cells #[.slice (some ⟨gwa, 0, none⟩) n ca] 30 (0, 0)) from by rw [hw]; exact blk_put K55.out 0 _ rfl); have Kb6 := Aside0.mk (show w5b.heap[g6]? = some (.cells #[.slice none 0 0] 30 (0, 0)) from by rw [hw]; exact blk_far (p := ⟨g5, 0, none⟩) K65.out (fun e => G6.out.2.2 e.symm) _); clear hw c45 ca5 k55 f55 FS5 K55 K65; have FS5 := FSb; have K55 := Kb5; have K65 := Kb6; clear FSb Kb5 Kb6; have c05 : w5b.cell? ⟨g, 0, none⟩ = some (.slice (some ad) f.length cf) := (blk_cell (TB0.out.blk' FS5.out) 0).trans rfl; obtain ⟨ad', eA', hx0, hx1⟩ := at_T51 (Kd.C_below TB0.out.fC FS5.out.bel) (at_ : Int) (by omega) (by have := HAT.out; omega); obtain rfl := (Option.some.inj eA'); rw [HF0.out, Int.toNat_natCast] at hx0; rw [HF1.out, Int.toNat_natCast] at hx1; clear eA')) | ((with_reducible refine gate_dst (N := 9) rfl ?_); go_must (refine box_event ?hg (N := 9) ?hd (cs := #[.int .i64 0, .int .i64 0]) (t := 51) ?hr ?_; (case hd => rfl); (case hg => rfl); (case hr => first | (go_simp; done) | (go_simp; rfl)); intro g9 hg9 w6 hbox hb; have K9 := Aside0.mk hbox; have FS6 := Aside0.mk (FS.below FS5.out hb); have K56 := Aside0.mk (blk_below K55.out hb); have K66 := Aside0.mk (blk_below K65.out hb); have G9 := Aside0.mk (show w.heap.size ≤ g9 ∧ gn ≠ g9 ∧ g5 ≠ g9 ∧ g6 ≠ g9 from ⟨by rw [hg9]; exact FS5.out.keep.1, by have := blk_lt FS5.out.nw; omega, by have := blk_lt K55.out; omega, by have := blk_lt K65.out; omega⟩); clear hb hbox hg9 FS5 K55 K65 c05 hx0 hx1; have k9a : w6.cell? ⟨g9, 0, none⟩ = some (.int .i64 0) := (blk_cell K9.out 0).trans rfl; have k9b : w6.cell? ⟨g9, 1, none⟩ = some (.int .i64 0) := (blk_cell K9.out 1).trans rfl; have f9a := blk_frozen K9.out 0; have f9b := blk_frozen K9.out 1)) | ((with_reducible refine gate_store (t := 51) (p := 9) (v := .tmp 68) rfl ?_); go_must (refine store_event (t := 51) (p := 9) (v := .tmp 68) (w1 := ((w6.setCell ⟨g9, 0, none⟩ (.int .i64 17)).setCell ⟨g9, 1, none⟩ (.int .i64 vl))) ?hg ?ho ?hn ?hr ?_; (case ho => rfl); (case hg => rfl); (case hn => rfl); (case hr => first | (go_simp; done) | (go_simp; rfl)); intro w7 hw; have K97 := Aside0.mk (show w7.heap[g9]? = some (.cells #[.int .i64 17, .int .i64 vl] 51 (0, 0)) from by rw [hw]; exact blk_put (blk_put K9.out 0 _ rfl) 1 _ rfl); have FS7 := Aside0.mk (show FS wB w w7 gr gn at_ n vals (List.replicate n false) from by rw [hw]; exact (FS6.out.far (p := ⟨g9, 0, none⟩) G9.out.1 G9.out.2.1 TB0.out.sizes.1 TB0.out.sizes.2.1 _).far (p := ⟨g9, 1, none⟩) G9.out.1 G9.out.2.1 TB0.out.sizes.1 TB0.out.sizes.2.1 _); have K57 := Aside0.mk (show w7.heap[g5]? = some (.cells #[.slice (some ⟨gwa, 0, none⟩) n ca] 30 (0, 0)) from by rw [hw]; exact blk_far (p := ⟨g9, 1, none⟩) (blk_far (p := ⟨g9, 0, none⟩) K56.out G9.out.2.2.1 _) G9.out.2.2.1 _); have K67 := Aside0.mk (show w7.heap[g6]? = some (.cells #[.slice none 0 0] 30 (0, 0)) from by rw [hw]; exact blk_far (p := ⟨g9, 1, none⟩) (blk_far (p := ⟨g9, 0, none⟩) K66.out G9.out.2.2.2 _) G9.out.2.2.2 _); clear hw K9 FS6 K56 K66 k9a k9b f9a f9b; have k70 : w7.cell? ⟨g9, 0, none⟩ = some (.int .i64 17) := (blk_cell K97.out 0).trans rfl)) | (go_at_call 48; go_must (refine (word_settle.calls (fun i l => rdOf false a i || l) 49 #[.pointer (some ⟨g5, 0, none⟩)] g gr gn n n cl f.length cr Al (at_ : Int) back false (List.replicate n false) row k _ ((blk_cell (TB0.out.blk' FS7.out) 2).trans rfl) ((blk_cell (TB0.out.blk' FS7.out) 3).trans rfl) ((blk_cell (TB0.out.blk' FS7.out) 4).trans rfl) (by rw [Int.toNat_natCast]; exact FS7.out.cella (Nat.lt_of_lt_of_le HAT.out TB0.out.vlen)) (by have := TB0.out.sizes.2.2.1; have := FS7.out.ge; omega) (by omega) (by have := HAT.out; omega) HB.out.1 HB.out.2 HN.out.2 FS7.out.nw (by simp) ?hL Tryd.call49 HS.out).mono ?_; (case hL => intro w1 r1 i bv hsw h0 h1; exact fill_first.calls g5 gwa n ca a i bv w1 (hsw.cell ((blk_cell K57.out 0).trans rfl) (fun e => G5.out.2 e.symm)) ((hsw.keep.2 gwa (blk_lt (FS7.out.bb TB0.out BA.out).1) (FS7.out.bb TB0.out BA.out).2 (by simp)).trans (FS7.out.bb TB0.out BA.out).1) LA.out h0 h1); rintro e w8 ⟨rfl, sw, hlen⟩; have SWo := Aside0.mk sw; have LEN := Aside0.mk hlen; clear sw hlen)))
  go_end0
  exact ⟨rfl, _, TB0.out.done (FS7.out.sw SWo.out TB0.out.sizes.1 TB0.out.sizes.2.1) LEN.out⟩
set_option maxHeartbeats 16000000 in
set_option maxRecDepth 100000 in
theorem word_fill18.calls (wB w : World) (g gr : Nat) (Af Ae Al : Option Addr) (cf ce cl cr n : Nat) (f : List S51) (es : List Int) (rs : List VV) (xs : List (List Bool)) (back : Int) (at_ : Nat) (vals : List Value) (rows : List (List Bool)) (vl : Int) (a : List Bool) (k : Nat) (row : List Bool)
    (h : TB wB w g gr Af Ae Al cf ce cl cr n f es rs xs back (at_ + 1) vals rows) (hn0 : 1 ≤ n) (hn1 : n ≤ 100) (hb0 : 0 ≤ back) (hb1 : back < (n : Int)) (hlx : xs.length = n) (ho : f[at_]? = some ⟨18, vl⟩) (hf1 : f.length ≤ 1000) (ha : rows[0]? = some a) (hst : stl (fun i l => rdOf false a i && l) n back k (List.replicate n true) = some row) :
    Calls Tryd.prog 45 #[.pointer (some ⟨g, 0, none⟩), .int .i64 at_] w fun e w' => e = .returned (.tuple #[]) ∧ ∃ vals', TB wB w' g gr Af Ae Al cf ce cl cr n f es rs xs back at_ vals' (row :: rows) := by
  have HS := Aside0.mk hst
  clear hst
  have info4 := (by kernel_rfl : (Tryd.prog.info? 4).map (fun i => (i.zero, i.size, i.bytes)) = some (some (.bool false), 1, 1))
  have hmf : ∀ (fn : Fn) (first cap : Array Value) (w : World), (Instr.makeFunc fn first cap).run Tryd.prog w = .ok (.func fn first cap) w := fun _ _ _ _ => rfl
  have HAT := Aside0.mk (List.getElem?_eq_some_iff.1 ho).1
  have TB0 := Aside0.mk h
  have HN := Aside0.mk (And.intro hn0 hn1)
  have HB := Aside0.mk (And.intro hb0 hb1)
  have HO := Aside0.mk ho
  have HF := Aside0.mk hf1
  obtain ⟨gwa, ca, hva, hba, hla⟩ := h.row 0 a ha
  have VA := Aside0.mk hva
  have BA := Aside0.mk hba
  have LA := Aside0.mk hla
  have HA0 := Aside0.mk (List.getElem?_eq_some_iff.1 ha).1
  have RL := Aside0.mk h.rlen
  have r1 : wrap64 ((at_ : Int) + 1) = ((at_ + 1 : Nat) : Int) := by have := HAT.out; have := HF.out; unfold wrap64; omega
  have r2 : ((at_ : Int) + 1 < (f.length : Int)) = True := eq_true (by have := RL.out; have := HA0.out; omega)
  have r3 : (0 ≤ (at_ : Int) + 1) = True := eq_true (by omega)
  clear hva hba hla ha
  have HX := Aside0.mk hlx
  have c2 : w.cell? ⟨g, 2, none⟩ = some (.slice Al n cl) := (blk_cell h.blk 2).trans rfl
  have q0 : (0 ≤ (at_ : Int)) = True := eq_true (by omega)
  have q1 : ((at_ : Int) < (f.length : Int)) = True := eq_true (by have := HAT.out; omega)
  clear h hn0 hn1 hb0 hb1 ho hf1 hlx
  obtain ⟨v0, hv0⟩ : ∃ v0, vals[at_]? = some v0 := ⟨_, List.getElem?_eq_getElem (Nat.lt_of_lt_of_le HAT.out TB0.out.vlen)⟩
  have V0 := Aside0.mk hv0
  clear hv0
  obtain ⟨ad, eA, hx0, hx1⟩ := at_T51 (Kd.C_below TB0.out.fC TB0.out.bel) (at_ : Int) (by omega) (by have := HAT.out; omega)
  have eo : rd_T51 f (at_ : Int) = ⟨18, vl⟩ := by simp [rd_T51, HO.out]
  have HF0 := Aside0.mk (show (rd_T51 f (at_ : Int)).f0 = 18 from by rw [eo])
  have HF1 := Aside0.mk (show (rd_T51 f (at_ : Int)).f1 = vl from by rw [eo])
  have HP2 := Aside0.mk (show polish_Parts.f 18 = some (1, 0) from by decide)
  subst eA
  clear eo hx0 hx1
  go_enter Tryd.func45, Tryd.ntmps45
  go_wp2_with (first | ((with_reducible refine gate_dst (N := 16) rfl ?_); go_must (refine make_event rfl (N := 16) rfl 30 4 (.tmp 15) (.tmp 15) rfl n rfl rfl Tryd.underlying30 (.bool false) 1 info4 rfl (by have := HN.out.2; omega) (by have := HN.out.2; omega) ?_; intro gn hg w1 hb1 hbel; have N1 := Aside0.mk (show BB w1 gn (List.replicate n false) from by unfold BB; rw [hb1, List.map_replicate]); have B1 := Aside0.mk hbel; have HG := Aside0.mk hg; clear hb1 hbel hg c2; have c4 : w1.cell? ⟨g, 4, none⟩ = some (.slice (some ⟨gr, 0, none⟩) f.length cr) := (blk_cell (blk_below TB0.out.blk B1.out) 4).trans rfl; have cr0 : w1.cell? ⟨gr, at_, none⟩ = some v0 := (blk_cell (blk_below TB0.out.rblk B1.out) at_).trans (by rw [List.getElem?_toArray]; exact V0.out); have fr0 := blk_frozen (blk_below TB0.out.rblk B1.out) at_)) | ((with_reducible refine gate_store (t := 30) (p := 23) (v := .tmp 22) rfl ?_); go_must (refine store_event (t := 30) (p := 23) (v := .tmp 22) (w1 := (w1.setCell ⟨gr, at_, none⟩ (.slice (some ⟨gn, 0, none⟩) n n))) ?hg ?ho ?hn ?hr ?_; (case ho => rfl); (case hg => rfl); (case hn => rfl); (case hr => first | (go_simp; done) | (go_simp; rfl)); intro w2 hw; have FS2 := Aside0.mk (TB.start TB0.out HG.out N1.out B1.out hw rfl); clear hw c4 cr0 fr0 N1)) | ((with_reducible refine gate_dst (N := 5) rfl ?_); go_must (refine box_event ?hg (N := 5) ?hd (cs := #[.slice none 0 0]) (t := 30) ?hr ?_; (case hd => rfl); (case hg => rfl); (case hr => first | (go_simp; done) | (go_simp; rfl)); intro g5 hg5 w3 hbox hb; have K5 := Aside0.mk hbox; have FS3 := Aside0.mk (FS.below FS2.out hb); have G5 := Aside0.mk (show w.heap.size ≤ g5 ∧ gn ≠ g5 from ⟨by rw [hg5]; exact FS2.out.keep.1, by have := blk_lt FS2.out.nw; omega⟩); clear hb hbox hg5 FS2)) | ((with_reducible refine gate_dst (N := 6) rfl ?_); go_must (refine box_event ?hg (N := 6) ?hd (cs := #[.slice none 0 0]) (t := 30) ?hr ?_; (case hd => rfl); (case hg => rfl); (case hr => first | (go_simp; done) | (go_simp; rfl)); intro g6 hg6 w4 hbox hb; have K6 := Aside0.mk hbox; have K54 := Aside0.mk (blk_below K5.out hb); have FS4 := Aside0.mk (FS.below FS3.out hb); have G6 := Aside0.mk (show w.heap.size ≤ g6 ∧ gn ≠ g6 ∧ g5 ≠ g6 from ⟨by rw [hg6]; exact FS3.out.keep.1, by have := blk_lt FS3.out.nw; omega, by have := blk_lt K5.out; omega⟩); clear hb hbox hg6 FS3 K5; have c0 : w4.cell? ⟨g, 0, none⟩ = some (.slice (some ad) f.length cf) := (blk_cell (TB0.out.blk' FS4.out) 0).trans rfl; obtain ⟨ad', eA', hx0, hx1⟩ := at_T51 (Kd.C_below TB0.out.fC FS4.out.bel) (at_ : Int) (by omega) (by have := HAT.out; omega); obtain rfl := (Option.some.inj eA'); rw [HF0.out, Int.toNat_natCast] at hx0; clear hx1 eA')) | (go_at_call 46; go_must (refine (polish_Parts.calls 18 1 0 _ (TB0.out.gl.below FS4.out.bel) HP2.out).mono ?_; rintro e w5 ⟨rfl, m5, hm5⟩; have FS5 := Aside0.mk (show FS wB w w5 gr gn at_ n vals (List.replicate n false) from by rw [hm5]; exact FS4.out.drewN m5); have K55 := Aside0.mk (show w5.heap[g5]? = some (.cells #[.slice none 0 0] 30 (0, 0)) from by rw [hm5]; exact K54.out); have K65 := Aside0.mk (show w5.heap[g6]? = some (.cells #[.slice none 0 0] 30 (0, 0)) from by rw [hm5]; exact K6.out); clear hm5 c0 hx0 FS4 K54 K6; have c45 : w5.cell? ⟨g, 4, none⟩ = some (.slice (some ⟨gr, 0, none⟩) f.length cr) := (blk_cell (TB0.out.blk' FS5.out) 4).trans rfl; have ca5 : w5.cell? ⟨gr, at_ + 1, none⟩ = some (.slice (some ⟨gwa, 0, none⟩) n ca) := FS5.out.cellv (by omega) VA.out; have k55 : w5.cell? ⟨g5, 0, none⟩ = some (.slice none 0 0) := (blk_cell K55.out 0).trans rfl; have f55 := blk_frozen K55.out 0)) | ((with_reducible refine gate_store (t := 30) (p := 5) (v := .tmp 45) rfl ?_); go_must (refine store_event (t := 30) (p := 5) (v := .tmp 45) (w1 := (w5.setCell ⟨g5, 0, none⟩ (.slice (some ⟨gwa, 0, none⟩) n ca))) ?hg ?ho ?hn ?hr ?_; (case ho => rfl); (case hg => rfl); (case hn => rfl); (case hr => first | (go_simp; done) | (go_simp; rfl)); intro w5b hw; have FSb := Aside0.mk (show FS wB w w5b gr gn at_ n vals (List.replicate n false) from by rw [hw]; exact FS5.out.far (p := ⟨g5, 0, none⟩) G5.out.1 G5.out.2 TB0.out.sizes.1 TB0.out.sizes.2.1 _); have Kb5 := Aside0.mk (show w5b.heap[g5]? = some (.cells #[.slice (some ⟨gwa, 0, none⟩) n ca] 30 (0, 0)) from by rw [hw]; exact blk_put K55.out 0 _ rfl); have Kb6 := Aside0.mk (show w5b.heap[g6]? = some (.cells #[.slice none 0 0] 30 (0, 0)) from by rw [hw]; exact blk_far (p := ⟨g5, 0, none⟩) K65.out (fun e => G6.out.2.2 e.symm) _); clear hw c45 ca5 k55 f55 FS5 K55 K65; have FS5 := FSb; have K55 := Kb5; have K65 := Kb6; clear FSb Kb5 Kb6; have c05 : w5b.cell? ⟨g, 0, none⟩ = some (.slice (some ad) f.length cf) := (blk_cell (TB0.out.blk' FS5.out) 0).trans rfl; obtain ⟨ad', eA', hx0, hx1⟩ := at_T51 (Kd.C_below TB0.out.fC FS5.out.bel) (at_ : Int) (by omega) (by have := HAT.out; omega); obtain rfl := (Option.some.inj eA'); rw [HF0.out, Int.toNat_natCast] at hx0; rw [HF1.out, Int.toNat_natCast] at hx1; clear eA')) | ((with_reducible refine gate_dst (N := 9) rfl ?_); go_must (refine box_event ?hg (N := 9) ?hd (cs := #[.int .i64 0, .int .i64 0]) (t := 51) ?hr ?_; (case hd => rfl); (case hg => rfl); (case hr => first | (go_simp; done) | (go_simp; rfl)); intro g9 hg9 w6 hbox hb; have K9 := Aside0.mk hbox; have FS6 := Aside0.mk (FS.below FS5.out hb); have K56 := Aside0.mk (blk_below K55.out hb); have K66 := Aside0.mk (blk_below K65.out hb); have G9 := Aside0.mk (show w.heap.size ≤ g9 ∧ gn ≠ g9 ∧ g5 ≠ g9 ∧ g6 ≠ g9 from ⟨by rw [hg9]; exact FS5.out.keep.1, by have := blk_lt FS5.out.nw; omega, by have := blk_lt K55.out; omega, by have := blk_lt K65.out; omega⟩); clear hb hbox hg9 FS5 K55 K65 c05 hx0 hx1; have k9a : w6.cell? ⟨g9, 0, none⟩ = some (.int .i64 0) := (blk_cell K9.out 0).trans rfl; have k9b : w6.cell? ⟨g9, 1, none⟩ = some (.int .i64 0) := (blk_cell K9.out 1).trans rfl; have f9a := blk_frozen K9.out 0; have f9b := blk_frozen K9.out 1)) | ((with_reducible refine gate_store (t := 51) (p := 9) (v := .tmp 68) rfl ?_); go_must (refine store_event (t := 51) (p := 9) (v := .tmp 68) (w1 := ((w6.setCell ⟨g9, 0, none⟩ (.int .i64 18)).setCell ⟨g9, 1, none⟩ (.int .i64 vl))) ?hg ?ho ?hn ?hr ?_; (case ho => rfl); (case hg => rfl); (case hn => rfl); (case hr => first | (go_simp; done) | (go_simp; rfl)); intro w7 hw; have K97 := Aside0.mk (show w7.heap[g9]? = some (.cells #[.int .i64 18, .int .i64 vl] 51 (0, 0)) from by rw [hw]; exact blk_put (blk_put K9.out 0 _ rfl) 1 _ rfl); have FS7 := Aside0.mk (show FS wB w w7 gr gn at_ n vals (List.replicate n false) from by rw [hw]; exact (FS6.out.far (p := ⟨g9, 0, none⟩) G9.out.1 G9.out.2.1 TB0.out.sizes.1 TB0.out.sizes.2.1 _).far (p := ⟨g9, 1, none⟩) G9.out.1 G9.out.2.1 TB0.out.sizes.1 TB0.out.sizes.2.1 _); have K57 := Aside0.mk (show w7.heap[g5]? = some (.cells #[.slice (some ⟨gwa, 0, none⟩) n ca] 30 (0, 0)) from by rw [hw]; exact blk_far (p := ⟨g9, 1, none⟩) (blk_far (p := ⟨g9, 0, none⟩) K56.out G9.out.2.2.1 _) G9.out.2.2.1 _); have K67 := Aside0.mk (show w7.heap[g6]? = some (.cells #[.slice none 0 0] 30 (0, 0)) from by rw [hw]; exact blk_far (p := ⟨g9, 1, none⟩) (blk_far (p := ⟨g9, 0, none⟩) K66.out G9.out.2.2.2 _) G9.out.2.2.2 _); clear hw K9 FS6 K56 K66 k9a k9b f9a f9b; have k70 : w7.cell? ⟨g9, 0, none⟩ = some (.int .i64 18) := (blk_cell K97.out 0).trans rfl)) | (go_at_call 48; go_must (refine (word_settle.calls (fun i l => rdOf false a i && l) 50 #[.pointer (some ⟨g5, 0, none⟩)] g gr gn n n cl f.length cr Al (at_ : Int) back true (List.replicate n false) row k _ ((blk_cell (TB0.out.blk' FS7.out) 2).trans rfl) ((blk_cell (TB0.out.blk' FS7.out) 3).trans rfl) ((blk_cell (TB0.out.blk' FS7.out) 4).trans rfl) (by rw [Int.toNat_natCast]; exact FS7.out.cella (Nat.lt_of_lt_of_le HAT.out TB0.out.vlen)) (by have := TB0.out.sizes.2.2.1; have := FS7.out.ge; omega) (by omega) (by have := HAT.out; omega) HB.out.1 HB.out.2 HN.out.2 FS7.out.nw (by simp) ?hL Tryd.call50 HS.out).mono ?_; (case hL => intro w1 r1 i bv hsw h0 h1; exact fill_second.calls g5 gwa n ca a i bv w1 (hsw.cell ((blk_cell K57.out 0).trans rfl) (fun e => G5.out.2 e.symm)) ((hsw.keep.2 gwa (blk_lt (FS7.out.bb TB0.out BA.out).1) (FS7.out.bb TB0.out BA.out).2 (by simp)).trans (FS7.out.bb TB0.out BA.out).1) LA.out h0 h1); rintro e w8 ⟨rfl, sw, hlen⟩; have SWo := Aside0.mk sw; have LEN := Aside0.mk hlen; clear sw hlen)))
  go_end0
  exact ⟨rfl, _, TB0.out.done (FS7.out.sw SWo.out TB0.out.sizes.1 TB0.out.sizes.2.1) LEN.out⟩
set_option maxHeartbeats 16000000 in
set_option maxRecDepth 100000 in
theorem word_fill10.calls (wB w : World) (g gr : Nat) (Af Ae Al : Option Addr) (cf ce cl cr n : Nat) (f : List S51) (es : List Int) (rs : List VV) (xs : List (List Bool)) (back : Int) (at_ : Nat) (vals : List Value) (rows : List (List Bool)) (vl : Int) (a : List Bool)
    (h : TB wB w g gr Af Ae Al cf ce cl cr n f es rs xs back (at_ + 1) vals rows) (hn0 : 1 ≤ n) (hn1 : n ≤ 100) (hb0 : 0 ≤ back) (hb1 : back < (n : Int)) (hlx : xs.length = n) (ho : f[at_]? = some ⟨10, vl⟩) (hf1 : f.length ≤ 1000) (ha : rows[0]? = some a) :
    Calls Tryd.prog 45 #[.pointer (some ⟨g, 0, none⟩), .int .i64 at_] w fun e w' => e = .returned (.tuple #[]) ∧ ∃ vals', TB wB w' g gr Af Ae Al cf ce cl cr n f es rs xs back at_ vals' (mkr (fun i => !(rdOf false a i)) n :: rows) := by
  have info4 := (by kernel_rfl : (Tryd.prog.info? 4).map (fun i => (i.zero, i.size, i.bytes)) = some (some (.bool false), 1, 1))
  have hmf : ∀ (fn : Fn) (first cap : Array Value) (w : World), (Instr.makeFunc fn first cap).run Tryd.prog w = .ok (.func fn first cap) w := fun _ _ _ _ => rfl
  have HAT := Aside0.mk (List.getElem?_eq_some_iff.1 ho).1
  have TB0 := Aside0.mk h
  have HN := Aside0.mk (And.intro hn0 hn1)
  have HB := Aside0.mk (And.intro hb0 hb1)
  have HO := Aside0.mk ho
  have HF := Aside0.mk hf1
  obtain ⟨gwa, ca, hva, hba, hla⟩ := h.row 0 a ha
  have VA := Aside0.mk hva
  have BA := Aside0.mk hba
  have LA := Aside0.mk hla
  have HA0 := Aside0.mk (List.getElem?_eq_some_iff.1 ha).1
  have RL := Aside0.mk h.rlen
  have r1 : wrap64 ((at_ : Int) + 1) = ((at_ + 1 : Nat) : Int) := by have := HAT.out; have := HF.out; unfold wrap64; omega
  have r2 : ((at_ : Int) + 1 < (f.length : Int)) = True := eq_true (by have := RL.out; have := HA0.out; omega)
  have r3 : (0 ≤ (at_ : Int) + 1) = True := eq_true (by omega)
  clear hva hba hla ha
  have HX := Aside0.mk hlx
  have c2 : w.cell? ⟨g, 2, none⟩ = some (.slice Al n cl) := (blk_cell h.blk 2).trans rfl
  have q0 : (0 ≤ (at_ : Int)) = True := eq_true (by omega)
  have q1 : ((at_ : Int) < (f.length : Int)) = True := eq_true (by have := HAT.out; omega)
  clear h hn0 hn1 hb0 hb1 ho hf1 hlx
  obtain ⟨v0, hv0⟩ : ∃ v0, vals[at_]? = some v0 := ⟨_, List.getElem?_eq_getElem (Nat.lt_of_lt_of_le HAT.out TB0.out.vlen)⟩
  have V0 := Aside0.mk hv0
  clear hv0
  obtain ⟨ad, eA, hx0, hx1⟩ := at_T51 (Kd.C_below TB0.out.fC TB0.out.bel) (at_ : Int) (by omega) (by have := HAT.out; omega)
  have eo : rd_T51 f (at_ : Int) = ⟨10, vl⟩ := by simp [rd_T51, HO.out]
  have HF0 := Aside0.mk (show (rd_T51 f (at_ : Int)).f0 = 10 from by rw [eo])
  have HF1 := Aside0.mk (show (rd_T51 f (at_ : Int)).f1 = vl from by rw [eo])
  have HP2 := Aside0.mk (show polish_Parts.f 10 = some (1, 0) from by decide)
  subst eA
  clear eo hx0 hx1
  go_enter Tryd.func45, Tryd.ntmps45
  go_wp2_with (first | ((with_reducible refine gate_dst (N := 16) rfl ?_); go_must (refine make_event rfl (N := 16) rfl 30 4 (.tmp 15) (.tmp 15) rfl n rfl rfl Tryd.underlying30 (.bool false) 1 info4 rfl (by have := HN.out.2; omega) (by have := HN.out.2; omega) ?_; intro gn hg w1 hb1 hbel; have N1 := Aside0.mk (show BB w1 gn (List.replicate n false) from by unfold BB; rw [hb1, List.map_replicate]); have B1 := Aside0.mk hbel; have HG := Aside0.mk hg; clear hb1 hbel hg c2; have c4 : w1.cell? ⟨g, 4, none⟩ = some (.slice (some ⟨gr, 0, none⟩) f.length cr) := (blk_cell (blk_below TB0.out.blk B1.out) 4).trans rfl; have cr0 : w1.cell? ⟨gr, at_, none⟩ = some v0 := (blk_cell (blk_below TB0.out.rblk B1.out) at_).trans (by rw [List.getElem?_toArray]; exact V0.out); have fr0 := blk_frozen (blk_below TB0.out.rblk B1.out) at_)) | ((with_reducible refine gate_store (t := 30) (p := 23) (v := .tmp 22) rfl ?_); go_must (refine store_event (t := 30) (p := 23) (v := .tmp 22) (w1 := (w1.setCell ⟨gr, at_, none⟩ (.slice (some ⟨gn, 0, none⟩) n n))) ?hg ?ho ?hn ?hr ?_; (case ho => rfl); (case hg => rfl); (case hn => rfl); (case hr => first | (go_simp; done) | (go_simp; rfl)); intro w2 hw; have FS2 := Aside0.mk (TB.start TB0.out HG.out N1.out B1.out hw rfl); clear hw c4 cr0 fr0 N1)) | ((with_reducible refine gate_dst (N := 5) rfl ?_); go_must (refine box_event ?hg (N := 5) ?hd (cs := #[.slice none 0 0]) (t := 30) ?hr ?_; (case hd => rfl); (case hg => rfl); (case hr => first | (go_simp; done) | (go_simp; rfl)); intro g5 hg5 w3 hbox hb; have K5 := Aside0.mk hbox; have FS3 := Aside0.mk (FS.below FS2.out hb); have G5 := Aside0.mk (show w.heap.size ≤ g5 ∧ gn ≠ g5 from ⟨by rw [hg5]; exact FS2.out.keep.1, by have := blk_lt FS2.out.nw; omega⟩); clear hb hbox hg5 FS2)) | ((with_reducible refine gate_dst (N := 6) rfl ?_); go_must (refine box_event ?hg (N := 6) ?hd (cs := #[.slice none 0 0]) (t := 30) ?hr ?_; (case hd => rfl); (case hg => rfl); (case hr => first | (go_simp; done) | (go_simp; rfl)); intro g6 hg6 w4 hbox hb; have K6 := Aside0.mk hbox; have K54 := Aside0.mk (blk_below K5.out hb); have FS4 := Aside0.mk (FS.below FS3.out hb); have G6 := Aside0.mk (show w.heap.size ≤ g6 ∧ gn ≠ g6 ∧ g5 ≠ g6 from ⟨by rw [hg6]; exact FS3.out.keep.1, by have := blk_lt FS3.out.nw; omega, by have := blk_lt K5.out; omega⟩); clear hb hbox hg6 FS3 K5; have c0 : w4.cell? ⟨g, 0, none⟩ = some (.slice (some ad) f.length cf) := (blk_cell (TB0.out.blk' FS4.out) 0).trans rfl; obtain ⟨ad', eA', hx0, hx1⟩ := at_T51 (Kd.C_below TB0.out.fC FS4.out.bel) (at_ : Int) (by omega) (by have := HAT.out; omega); obtain rfl := (Option.some.inj eA'); rw [HF0.out, Int.toNat_natCast] at hx0; clear hx1 eA')) | (go_at_call 46; go_must (refine (polish_Parts.calls 10 1 0 _ (TB0.out.gl.below FS4.out.bel) HP2.out).mono ?_; rintro e w5 ⟨rfl, m5, hm5⟩; have FS5 := Aside0.mk (show FS wB w w5 gr gn at_ n vals (List.replicate n false) from by rw [hm5]; exact FS4.out.drewN m5); have K55 := Aside0.mk (show w5.heap[g5]? = some (.cells #[.slice none 0 0] 30 (0, 0)) from by rw [hm5]; exact K54.out); have K65 := Aside0.mk (show w5.heap[g6]? = some (.cells #[.slice none 0 0] 30 (0, 0)) from by rw [hm5]; exact K6.out); clear hm5 c0 hx0 FS4 K54 K6; have c45 : w5.cell? ⟨g, 4, none⟩ = some (.slice (some ⟨gr, 0, none⟩) f.length cr) := (blk_cell (TB0.out.blk' FS5.out) 4).trans rfl; have ca5 : w5.cell? ⟨gr, at_ + 1, none⟩ = some (.slice (some ⟨gwa, 0, none⟩) n ca) := FS5.out.cellv (by omega) VA.out; have k55 : w5.cell? ⟨g5, 0, none⟩ = some (.slice none 0 0) := (blk_cell K55.out 0).trans rfl; have f55 := blk_frozen K55.out 0)) | ((with_reducible refine gate_store (t := 30) (p := 5) (v := .tmp 45) rfl ?_); go_must (refine store_event (t := 30) (p := 5) (v := .tmp 45) (w1 := (w5.setCell ⟨g5, 0, none⟩ (.slice (some ⟨gwa, 0, none⟩) n ca))) ?hg ?ho ?hn ?hr ?_; (case ho => rfl); (case hg => rfl); (case hn => rfl); (case hr => first | (go_simp; done) | (go_simp; rfl)); intro w5b hw; have FSb := Aside0.mk (show FS wB w w5b gr gn at_ n vals (List.replicate n false) from by rw [hw]; exact FS5.out.far (p := ⟨g5, 0, none⟩) G5.out.1 G5.out.2 TB0.out.sizes.1 TB0.out.sizes.2.1 _); have Kb5 := Aside0.mk (show w5b.heap[g5]? = some (.cells #[.slice (some ⟨gwa, 0, none⟩) n ca] 30 (0, 0)) from by rw [hw]; exact blk_put K55.out 0 _ rfl); have Kb6 := Aside0.mk (show w5b.heap[g6]? = some (.cells #[.slice none 0 0] 30 (0, 0)) from by rw [hw]; exact blk_far (p := ⟨g5, 0, none⟩) K65.out (fun e => G6.out.2.2 e.symm) _); clear hw c45 ca5 k55 f55 FS5 K55 K65; have FS5 := FSb; have K55 := Kb5; have K65 := Kb6; clear FSb Kb5 Kb6; have c05 : w5b.cell? ⟨g, 0, none⟩ = some (.slice (some ad) f.length cf) := (blk_cell (TB0.out.blk' FS5.out) 0).trans rfl; obtain ⟨ad', eA', hx0, hx1⟩ := at_T51 (Kd.C_below TB0.out.fC FS5.out.bel) (at_ : Int) (by omega) (by have := HAT.out; omega); obtain rfl := (Option.some.inj eA'); rw [HF0.out, Int.toNat_natCast] at hx0; rw [HF1.out, Int.toNat_natCast] at hx1; clear eA')) | ((with_reducible refine gate_dst (N := 9) rfl ?_); go_must (refine box_event ?hg (N := 9) ?hd (cs := #[.int .i64 0, .int .i64 0]) (t := 51) ?hr ?_; (case hd => rfl); (case hg => rfl); (case hr => first | (go_simp; done) | (go_simp; rfl)); intro g9 hg9 w6 hbox hb; have K9 := Aside0.mk hbox; have FS6 := Aside0.mk (FS.below FS5.out hb); have K56 := Aside0.mk (blk_below K55.out hb); have K66 := Aside0.mk (blk_below K65.out hb); have G9 := Aside0.mk (show w.heap.size ≤ g9 ∧ gn ≠ g9 ∧ g5 ≠ g9 ∧ g6 ≠ g9 from ⟨by rw [hg9]; exact FS5.out.keep.1, by have := blk_lt FS5.out.nw; omega, by have := blk_lt K55.out; omega, by have := blk_lt K65.out; omega⟩); clear hb hbox hg9 FS5 K55 K65 c05 hx0 hx1; have k9a : w6.cell? ⟨g9, 0, none⟩ = some (.int .i64 0) := (blk_cell K9.out 0).trans rfl; have k9b : w6.cell? ⟨g9, 1, none⟩ = some (.int .i64 0) := (blk_cell K9.out 1).trans rfl; have f9a := blk_frozen K9.out 0; have f9b := blk_frozen K9.out 1)) | ((with_reducible refine gate_store (t := 51) (p := 9) (v := .tmp 68) rfl ?_); go_must (refine store_event (t := 51) (p := 9) (v := .tmp 68) (w1 := ((w6.setCell ⟨g9, 0, none⟩ (.int .i64 10)).setCell ⟨g9, 1, none⟩ (.int .i64 vl))) ?hg ?ho ?hn ?hr ?_; (case ho => rfl); (case hg => rfl); (case hn => rfl); (case hr => first | (go_simp; done) | (go_simp; rfl)); intro w7 hw; have K97 := Aside0.mk (show w7.heap[g9]? = some (.cells #[.int .i64 10, .int .i64 vl] 51 (0, 0)) from by rw [hw]; exact blk_put (blk_put K9.out 0 _ rfl) 1 _ rfl); have FS7 := Aside0.mk (show FS wB w w7 gr gn at_ n vals (List.replicate n false) from by rw [hw]; exact (FS6.out.far (p := ⟨g9, 0, none⟩) G9.out.1 G9.out.2.1 TB0.out.sizes.1 TB0.out.sizes.2.1 _).far (p := ⟨g9, 1, none⟩) G9.out.1 G9.out.2.1 TB0.out.sizes.1 TB0.out.sizes.2.1 _); have K57 := Aside0.mk (show w7.heap[g5]? = some (.cells #[.slice (some ⟨gwa, 0, none⟩) n ca] 30 (0, 0)) from by rw [hw]; exact blk_far (p := ⟨g9, 1, none⟩) (blk_far (p := ⟨g9, 0, none⟩) K56.out G9.out.2.2.1 _) G9.out.2.2.1 _); have K67 := Aside0.mk (show w7.heap[g6]? = some (.cells #[.slice none 0 0] 30 (0, 0)) from by rw [hw]; exact blk_far (p := ⟨g9, 1, none⟩) (blk_far (p := ⟨g9, 0, none⟩) K66.out G9.out.2.2.2 _) G9.out.2.2.2 _); clear hw K9 FS6 K56 K66 k9a k9b f9a f9b; have k70 : w7.cell? ⟨g9, 0, none⟩ = some (.int .i64 10) := (blk_cell K97.out 0).trans rfl)))
  have S7 := Aside0.mk (show SW w7 w7 gn (mkr (fun i => !(rdOf false a i)) 0 ++ List.replicate (n - 0) false) from ⟨FS7.out.nw, KeepBut.refl _ _ _, Below.refl _ _⟩)
  go_loopg [73] n (fun kq v73 wr => ∃ j : Nat, v73 = .int .i64 j ∧ j + kq = n ∧ Aside0 (SW w7 wr gn (mkr (fun i => !(rdOf false a i)) j ++ List.replicate (n - j) false)))
  case atStart => exact ⟨0, rfl, by omega, S7⟩
  case round =>
    obtain ⟨j, rfl, hj, hA⟩ := hrel
    by_cases hlt : j < n
    · have b1 : decide ((j : Int) < (n : Int)) = true := decide_eq_true (by omega)
      have b2 : ((j : Int) < (n : Int)) = True := eq_true (by omega)
      have b3 : wrap64 ((j : Int) + 1) = (j : Int) + 1 := by have := HN.out; unfold wrap64; omega
      have cell := hA.out.row.cell (j : Int) (by omega) (by simp [mkr_len]; omega)
      have fz := blk_frozen hA.out.row j
      rw [Int.toNat_natCast] at cell
      have k0 : wr.cell? ⟨g9, 0, none⟩ = some (.int .i64 10) := hA.out.cell ((blk_cell K97.out 0).trans rfl) (fun e => G9.out.2.1 e.symm)
      have k5 : wr.cell? ⟨g5, 0, none⟩ = some (.slice (some ⟨gwa, 0, none⟩) n ca) := hA.out.cell ((blk_cell K57.out 0).trans rfl) (fun e => G5.out.2 e.symm)
      have fs := FS7.out.sw hA.out TB0.out.sizes.1 TB0.out.sizes.2.1
      have ba := (fs.bb TB0.out BA.out).1
      have cj := ba.cell (j : Int) (by omega) (by have := LA.out; omega)
      rw [Int.toNat_natCast] at cj
      obtain ⟨x, hx⟩ : ∃ x, rdOf false a (j : Int) = x := ⟨_, rfl⟩
      rw [hx] at cj
      have HXX := Aside0.mk hx
      clear hx
      clear fs ba
      have HJ := Aside0.mk hj
      have HT := Aside0.mk hlt
      clear hj hlt
      go_wp2
      go_roundg (n - (j + 1))
      case measure => have := HJ.out; have := HT.out; omega
      case rel =>
        refine ⟨j + 1, by simp; exact b3, by have := HT.out; have := HJ.out; omega, ⟨?_⟩⟩
        rw [← mkr_set _ HT.out]
        have q := hA.out.put (j : Int) (!x)
        rw [Int.toNat_natCast] at q
        show SW w7 _ gn (List.set _ j (!(rdOf false a (j : Int))))
        rw [HXX.out]
        exact q
    · have b1 : decide ((j : Int) < (n : Int)) = false := decide_eq_false (by omega)
      have b2 : ((j : Int) < (n : Int)) = False := eq_false (by omega)
      obtain rfl : j = n := by omega
      have HE := Aside0.mk (show SW w7 wr gn (mkr (fun i => !(rdOf false a i)) j) from by have q := hA.out; rw [Nat.sub_self, List.replicate_zero, List.append_nil] at q; exact q)
      clear hA hlt hj
      go_wp2
      go_end0
      exact ⟨rfl, _, TB0.out.done (FS7.out.sw HE.out TB0.out.sizes.1 TB0.out.sizes.2.1) (mkr_len _ _)⟩
set_option maxHeartbeats 16000000 in
set_option maxRecDepth 100000 in
theorem word_fill14.calls (wB w : World) (g gr : Nat) (Af Ae Al : Option Addr) (cf ce cl cr n : Nat) (f : List S51) (es : List Int) (rs : List VV) (xs : List (List Bool)) (back : Int) (at_ : Nat) (vals : List Value) (rows : List (List Bool)) (vl : Int) (a : List Bool)
    (h : TB wB w g gr Af Ae Al cf ce cl cr n f es rs xs back (at_ + 1) vals rows) (hn0 : 1 ≤ n) (hn1 : n ≤ 100) (hb0 : 0 ≤ back) (hb1 : back < (n : Int)) (hlx : xs.length = n) (ho : f[at_]? = some ⟨14, vl⟩) (hf1 : f.length ≤ 1000) (ha : rows[0]? = some a) :
    Calls Tryd.prog 45 #[.pointer (some ⟨g, 0, none⟩), .int .i64 at_] w fun e w' => e = .returned (.tuple #[]) ∧ ∃ vals', TB wB w' g gr Af Ae Al cf ce cl cr n f es rs xs back at_ vals' (mkr (fun i => rdOf false a (nxt n back i)) n :: rows) := by
  have info4 := (by kernel_rfl : (Tryd.prog.info? 4).map (fun i => (i.zero, i.size, i.bytes)) = some (some (.bool false), 1, 1))
  have hmf : ∀ (fn : Fn) (first cap : Array Value) (w : World), (Instr.makeFunc fn first cap).run Tryd.prog w = .ok (.func fn first cap) w := fun _ _ _ _ => rfl
  have HAT := Aside0.mk (List.getElem?_eq_some_iff.1 ho).1
  have TB0 := Aside0.mk h
  have HN := Aside0.mk (And.intro hn0 hn1)
  have HB := Aside0.mk (And.intro hb0 hb1)
  have HO := Aside0.mk ho
  have HF := Aside0.mk hf1
  obtain ⟨gwa, ca, hva, hba, hla⟩ := h.row 0 a ha
  have VA := Aside0.mk hva
  have BA := Aside0.mk hba
  have LA := Aside0.mk hla
  have HA0 := Aside0.mk (List.getElem?_eq_some_iff.1 ha).1
  have RL := Aside0.mk h.rlen
  have r1 : wrap64 ((at_ : Int) + 1) = ((at_ + 1 : Nat) : Int) := by have := HAT.out; have := HF.out; unfold wrap64; omega
  have r2 : ((at_ : Int) + 1 < (f.length : Int)) = True := eq_true (by have := RL.out; have := HA0.out; omega)
  have r3 : (0 ≤ (at_ : Int) + 1) = True := eq_true (by omega)
  clear hva hba hla ha
  have HX := Aside0.mk hlx
  have c2 : w.cell? ⟨g, 2, none⟩ = some (.slice Al n cl) := (blk_cell h.blk 2).trans rfl
  have q0 : (0 ≤ (at_ : Int)) = True := eq_true (by omega)
  have q1 : ((at_ : Int) < (f.length : Int)) = True := eq_true (by have := HAT.out; omega)
  clear h hn0 hn1 hb0 hb1 ho hf1 hlx
  obtain ⟨v0, hv0⟩ : ∃ v0, vals[at_]? = some v0 := ⟨_, List.getElem?_eq_getElem (Nat.lt_of_lt_of_le HAT.out TB0.out.vlen)⟩
  have V0 := Aside0.mk hv0
  clear hv0
  obtain ⟨ad, eA, hx0, hx1⟩ := at_T51 (Kd.C_below TB0.out.fC TB0.out.bel) (at_ : Int) (by omega) (by have := HAT.out; omega)
  have eo : rd_T51 f (at_ : Int) = ⟨14, vl⟩ := by simp [rd_T51, HO.out]
  have HF0 := Aside0.mk (show (rd_T51 f (at_ : Int)).f0 = 14 from by rw [eo])
  have HF1 := Aside0.mk (show (rd_T51 f (at_ : Int)).f1 = vl from by rw [eo])
  have HP2 := Aside0.mk (show polish_Parts.f 14 = some (1, 0) from by decide)
  subst eA
  clear eo hx0 hx1
  go_enter Tryd.func45, Tryd.ntmps45
  go_wp2_with (first | ((with_reducible refine gate_dst (N := 16) rfl ?_); go_must (refine make_event rfl (N := 16) rfl 30 4 (.tmp 15) (.tmp 15) rfl n rfl rfl Tryd.underlying30 (.bool false) 1 info4 rfl (by have := HN.out.2; omega) (by have := HN.out.2; omega) ?_; intro gn hg w1 hb1 hbel; have N1 := Aside0.mk (show BB w1 gn (List.replicate n false) from by unfold BB; rw [hb1, List.map_replicate]); have B1 := Aside0.mk hbel; have HG := Aside0.mk hg; clear hb1 hbel hg c2; have c4 : w1.cell? ⟨g, 4, none⟩ = some (.slice (some ⟨gr, 0, none⟩) f.length cr) := (blk_cell (blk_below TB0.out.blk B1.out) 4).trans rfl; have cr0 : w1.cell? ⟨gr, at_, none⟩ = some v0 := (blk_cell (blk_below TB0.out.rblk B1.out) at_).trans (by rw [List.getElem?_toArray]; exact V0.out); have fr0 := blk_frozen (blk_below TB0.out.rblk B1.out) at_)) | ((with_reducible refine gate_store (t := 30) (p := 23) (v := .tmp 22) rfl ?_); go_must (refine store_event (t := 30) (p := 23) (v := .tmp 22) (w1 := (w1.setCell ⟨gr, at_, none⟩ (.slice (some ⟨gn, 0, none⟩) n n))) ?hg ?ho ?hn ?hr ?_; (case ho => rfl); (case hg => rfl); (case hn => rfl); (case hr => first | (go_simp; done) | (go_simp; rfl)); intro w2 hw; have FS2 := Aside0.mk (TB.start TB0.out HG.out N1.out B1.out hw rfl); clear hw c4 cr0 fr0 N1)) | ((with_reducible refine gate_dst (N := 5) rfl ?_); go_must (refine box_event ?hg (N := 5) ?hd (cs := #[.slice none 0 0]) (t := 30) ?hr ?_; (case hd => rfl); (case hg => rfl); (case hr => first | (go_simp; done) | (go_simp; rfl)); intro g5 hg5 w3 hbox hb; have K5 := Aside0.mk hbox; have FS3 := Aside0.mk (FS.below FS2.out hb); have G5 := Aside0.mk (show w.heap.size ≤ g5 ∧ gn ≠ g5 from ⟨by rw [hg5]; exact FS2.out.keep.1, by have := blk_lt FS2.out.nw; omega⟩); clear hb hbox hg5 FS2)) | ((with_reducible refine gate_dst (N := 6) rfl ?_); go_must (refine box_event ?hg (N := 6) ?hd (cs := #[.slice none 0 0]) (t := 30) ?hr ?_; (case hd => rfl); (case hg => rfl); (case hr => first | (go_simp; done) | (go_simp; rfl)); intro g6 hg6 w4 hbox hb; have K6 := Aside0.mk hbox; have K54 := Aside0.mk (blk_below K5.out hb); have FS4 := Aside0.mk (FS.below FS3.out hb); have G6 := Aside0.mk (show w.heap.size ≤ g6 ∧ gn ≠ g6 ∧ g5 ≠ g6 from ⟨by rw [hg6]; exact FS3.out.keep.1, by have := blk_lt FS3.out.nw; omega, by have := blk_lt K5.out; omega⟩); clear hb hbox hg6 FS3 K5; have c0 : w4.cell? ⟨g, 0, none⟩ = some (.slice (some ad) f.length cf) := (blk_cell (TB0.out.blk' FS4.out) 0).trans rfl; obtain ⟨ad', eA', hx0, hx1⟩ := at_T51 (Kd.C_below TB0.out.fC FS4.out.bel) (at_ : Int) (by omega) (by have := HAT.out; omega); obtain rfl := (Option.some.inj eA'); rw [HF0.out, Int.toNat_natCast] at hx0; clear hx1 eA')) | (go_at_call 46; go_must (refine (polish_Parts.calls 14 1 0 _ (TB0.out.gl.below FS4.out.bel) HP2.out).mono ?_; rintro e w5 ⟨rfl, m5, hm5⟩; have FS5 := Aside0.mk (show FS wB w w5 gr gn at_ n vals (List.replicate n false) from by rw [hm5]; exact FS4.out.drewN m5); have K55 := Aside0.mk (show w5.heap[g5]? = some (.cells #[.slice none 0 0] 30 (0, 0)) from by rw [hm5]; exact K54.out); have K65 := Aside0.mk (show w5.heap[g6]? = some (.cells #[.slice none 0 0] 30 (0, 0)) from by rw [hm5]; exact K6.out); clear hm5 c0 hx0 FS4 K54 K6; have c45 : w5.cell? ⟨g, 4, none⟩ = some (.slice (some ⟨gr, 0, none⟩) f.length cr) := (blk_cell (TB0.out.blk' FS5.out) 4).trans rfl; have ca5 : w5.cell? ⟨gr, at_ + 1, none⟩ = some (.slice (some ⟨gwa, 0, none⟩) n ca) := FS5.out.cellv (by omega) VA.out; have k55 : w5.cell? ⟨g5, 0, none⟩ = some (.slice none 0 0) := (blk_cell K55.out 0).trans rfl; have f55 := blk_frozen K55.out 0)) | ((with_reducible refine gate_store (t := 30) (p := 5) (v := .tmp 45) rfl ?_); go_must (refine store_event (t := 30) (p := 5) (v := .tmp 45) (w1 := (w5.setCell ⟨g5, 0, none⟩ (.slice (some ⟨gwa, 0, none⟩) n ca))) ?hg ?ho ?hn ?hr ?_; (case ho => rfl); (case hg => rfl); (case hn => rfl); (case hr => first | (go_simp; done) | (go_simp; rfl)); intro w5b hw; have FSb := Aside0.mk (show FS wB w w5b gr gn at_ n vals (List.replicate n false) from by rw [hw]; exact FS5.out.far (p := ⟨g5, 0, none⟩) G5.out.1 G5.out.2 TB0.out.sizes.1 TB0.out.sizes.2.1 _); have Kb5 := Aside0.mk (show w5b.heap[g5]? = some (.cells #[.slice (some ⟨gwa, 0, none⟩) n ca] 30 (0, 0)) from by rw [hw]; exact blk_put K55.out 0 _ rfl); have Kb6 := Aside0.mk (show w5b.heap[g6]? = some (.cells #[.slice none 0 0] 30 (0, 0)) from by rw [hw]; exact blk_far (p := ⟨g5, 0, none⟩) K65.out (fun e => G6.out.2.2 e.symm) _); clear hw c45 ca5 k55 f55 FS5 K55 K65; have FS5 := FSb; have K55 := Kb5; have K65 := Kb6; clear FSb Kb5 Kb6; have c05 : w5b.cell? ⟨g, 0, none⟩ = some (.slice (some ad) f.length cf) := (blk_cell (TB0.out.blk' FS5.out) 0).trans rfl; obtain ⟨ad', eA', hx0, hx1⟩ := at_T51 (Kd.C_below TB0.out.fC FS5.out.bel) (at_ : Int) (by omega) (by have := HAT.out; omega); obtain rfl := (Option.some.inj eA'); rw [HF0.out, Int.toNat_natCast] at hx0; rw [HF1.out, Int.toNat_natCast] at hx1; clear eA')) | ((with_reducible refine gate_dst (N := 9) rfl ?_); go_must (refine box_event ?hg (N := 9) ?hd (cs := #[.int .i64 0, .int .i64 0]) (t := 51) ?hr ?_; (case hd => rfl); (case hg => rfl); (case hr => first | (go_simp; done) | (go_simp; rfl)); intro g9 hg9 w6 hbox hb; have K9 := Aside0.mk hbox; have FS6 := Aside0.mk (FS.below FS5.out hb); have K56 := Aside0.mk (blk_below K55.out hb); have K66 := Aside0.mk (blk_below K65.out hb); have G9 := Aside0.mk (show w.heap.size ≤ g9 ∧ gn ≠ g9 ∧ g5 ≠ g9 ∧ g6 ≠ g9 from ⟨by rw [hg9]; exact FS5.out.keep.1, by have := blk_lt FS5.out.nw; omega, by have := blk_lt K55.out; omega, by have := blk_lt K65.out; omega⟩); clear hb hbox hg9 FS5 K55 K65 c05 hx0 hx1; have k9a : w6.cell? ⟨g9, 0, none⟩ = some (.int .i64 0) := (blk_cell K9.out 0).trans rfl; have k9b : w6.cell? ⟨g9, 1, none⟩ = some (.int .i64 0) := (blk_cell K9.out 1).trans rfl; have f9a := blk_frozen K9.out 0; have f9b := blk_frozen K9.out 1)) | ((with_reducible refine gate_store (t := 51) (p := 9) (v := .tmp 68) rfl ?_); go_must (refine store_event (t := 51) (p := 9) (v := .tmp 68) (w1 := ((w6.setCell ⟨g9, 0, none⟩ (.int .i64 14)).setCell ⟨g9, 1, none⟩ (.int .i64 vl))) ?hg ?ho ?hn ?hr ?_; (case ho => rfl); (case hg => rfl); (case hn => rfl); (case hr => first | (go_simp; done) | (go_simp; rfl)); intro w7 hw; have K97 := Aside0.mk (show w7.heap[g9]? = some (.cells #[.int .i64 14, .int .i64 vl] 51 (0, 0)) from by rw [hw]; exact blk_put (blk_put K9.out 0 _ rfl) 1 _ rfl); have FS7 := Aside0.mk (show FS wB w w7 gr gn at_ n vals (List.replicate n false) from by rw [hw]; exact (FS6.out.far (p := ⟨g9, 0, none⟩) G9.out.1 G9.out.2.1 TB0.out.sizes.1 TB0.out.sizes.2.1 _).far (p := ⟨g9, 1, none⟩) G9.out.1 G9.out.2.1 TB0.out.sizes.1 TB0.out.sizes.2.1 _); have K57 := Aside0.mk (show w7.heap[g5]? = some (.cells #[.slice (some ⟨gwa, 0, none⟩) n ca] 30 (0, 0)) from by rw [hw]; exact blk_far (p := ⟨g9, 1, none⟩) (blk_far (p := ⟨g9, 0, none⟩) K56.out G9.out.2.2.1 _) G9.out.2.2.1 _); have K67 := Aside0.mk (show w7.heap[g6]? = some (.cells #[.slice none 0 0] 30 (0, 0)) from by rw [hw]; exact blk_far (p := ⟨g9, 1, none⟩) (blk_far (p := ⟨g9, 0, none⟩) K66.out G9.out.2.2.2 _) G9.out.2.2.2 _); clear hw K9 FS6 K56 K66 k9a k9b f9a f9b; have k70 : w7.cell? ⟨g9, 0, none⟩ = some (.int .i64 14) := (blk_cell K97.out 0).trans rfl)))
  have S7 := Aside0.mk (show SW w7 w7 gn (mkr (fun i => rdOf false a (nxt n back i)) 0 ++ List.replicate (n - 0) false) from ⟨FS7.out.nw, KeepBut.refl _ _ _, Below.refl _ _⟩)
  go_loopg [73] n (fun kq v73 wr => ∃ j : Nat, v73 = .int .i64 j ∧ j + kq = n ∧ Aside0 (SW w7 wr gn (mkr (fun i => rdOf false a (nxt n back i)) j ++ List.replicate (n - j) false)))
  case atStart => exact ⟨0, rfl, by omega, S7⟩
  case round =>
    obtain ⟨j, rfl, hj, hA⟩ := hrel
    by_cases hlt : j < n
    · have b1 : decide ((j : Int) < (n : Int)) = true := decide_eq_true (by omega)
      have b2 : ((j : Int) < (n : Int)) = True := eq_true (by omega)
      have b3 : wrap64 ((j : Int) + 1) = (j : Int) + 1 := by have := HN.out; unfold wrap64; omega
      have cell := hA.out.row.cell (j : Int) (by omega) (by simp [mkr_len]; omega)
      have fz := blk_frozen hA.out.row j
      rw [Int.toNat_natCast] at cell
      have k0 : wr.cell? ⟨g9, 0, none⟩ = some (.int .i64 14) := hA.out.cell ((blk_cell K97.out 0).trans rfl) (fun e => G9.out.2.1 e.symm)
      have k5 : wr.cell? ⟨g5, 0, none⟩ = some (.slice (some ⟨gwa, 0, none⟩) n ca) := hA.out.cell ((blk_cell K57.out 0).trans rfl) (fun e => G5.out.2 e.symm)
      have fs := FS7.out.sw hA.out TB0.out.sizes.1 TB0.out.sizes.2.1
      have ba := (fs.bb TB0.out BA.out).1
      have nx := nxt_in (n := n) (back := back) (i := (j : Int)) (by omega) HB.out.1 HB.out.2
      have k2 : wr.cell? ⟨g, 2, none⟩ = some (.slice Al n cl) := (blk_cell (TB0.out.blk' fs) 2).trans rfl
      have k3 : wr.cell? ⟨g, 3, none⟩ = some (.int .i64 back) := (blk_cell (TB0.out.blk' fs) 3).trans rfl
      obtain ⟨y, hy⟩ : ∃ y, nxt n back (j : Int) = y := ⟨_, rfl⟩
      rw [hy] at nx
      have q4 := eq_true nx.1
      have q5 := eq_true nx.2
      have cj := ba.cell y nx.1 (by have := LA.out; omega)
      obtain ⟨x, hx⟩ : ∃ x, rdOf false a y = x := ⟨_, rfl⟩
      rw [hx] at cj
      have HXX := Aside0.mk hx
      have HYY := Aside0.mk hy
      have HBE := Aside0.mk (show Calls Tryd.prog 53 #[.pointer (some ⟨g, 0, none⟩), .int .i64 (j : Int)] wr.drew fun e w' => e = .returned (.int .i64 y) ∧ w' = wr.drew from by rw [← hy]; exact tb_behind.calls g n cl Al (j : Int) back wr.drew k2 k3 (by omega) (by omega) HN.out.2)
      clear hx hy fs ba nx k2 k3
      have HJ := Aside0.mk hj
      have HT := Aside0.mk hlt
      clear hj hlt
      go_wp2
      go_still_tail 9, (by kernel_rfl)
      still_call HBE.out
      repeat still_step
      (try refine wpStill_nil ?_)
      change wpList _ _ _ _ _ wr.drew
      have HAd := Aside0.mk hA.out.drew
      replace cell : wr.drew.cell? _ = _ := cell
      replace fz : wr.drew.frozen? _ = _ := fz
      clear hA k0 k5 cj HBE
      generalize wr.drew = wd at *
      go_wp2
      go_roundg (n - (j + 1))
      case measure => have := HJ.out; have := HT.out; omega
      case rel =>
        refine ⟨j + 1, by simp; exact b3, by have := HT.out; have := HJ.out; omega, ⟨?_⟩⟩
        rw [← mkr_set _ HT.out]
        have q := HAd.out.put (j : Int) x
        rw [Int.toNat_natCast] at q
        show SW w7 _ gn (List.set _ j (rdOf false a (nxt n back (j : Int))))
        rw [HYY.out, HXX.out]
        exact q
    · have b1 : decide ((j : Int) < (n : Int)) = false := decide_eq_false (by omega)
      have b2 : ((j : Int) < (n : Int)) = False := eq_false (by omega)
      obtain rfl : j = n := by omega
      have HE := Aside0.mk (show SW w7 wr gn (mkr (fun i => rdOf false a (nxt j back i)) j) from by have q := hA.out; rw [Nat.sub_self, List.replicate_zero, List.append_nil] at q; exact q)
      clear hA hlt hj
      go_wp2
      go_end0
      exact ⟨rfl, _, TB0.out.done (FS7.out.sw HE.out TB0.out.sizes.1 TB0.out.sizes.2.1) (mkr_len _ _)⟩

--IMPORT FWordTb
--IMPORT Derived.WalkSpells
--IMPORT Derived.StillTailTactics
/-! ### word_fill_c: function 45 -/
set_option maxHeartbeats 16000000 in
set_option maxRecDepth 100000 in
theorem word_fill15.calls (wB w : World) (g gr : Nat) (Af Ae Al : Option Addr) (cf ce cl cr n : Nat) (f : List S51) (es : List Int) (rs : List VV) (xs : List (List Bool)) (back : Int) (at_ : Nat) (vals : List Value) (rows : List (List Bool)) (vl : Int) (a b : List Bool) (p : Nat) (k : Nat) (row : List Bool)
    (h : TB wB w g gr Af Ae Al cf ce cl cr n f es rs xs back (at_ + 1) vals rows) (hn0 : 1 ≤ n) (hn1 : n ≤ 100) (hb0 : 0 ≤ back) (hb1 : back < (n : Int)) (hlx : xs.length = n) (ho : f[at_]? = some ⟨15, vl⟩) (hf1 : f.length ≤ 1000) (ha : rows[0]? = some a) (he : es[at_ + 1]? = some ((at_ + 1 + p : Nat) : Int)) (hb : rows[p]? = some b) (hst : stl (fun i l => rdOf false b i || rdOf false a i && l) n back k (List.replicate n false) = some row) :
    Calls Tryd.prog 45 #[.pointer (some ⟨g, 0, none⟩), .int .i64 at_] w fun e w' => e = .returned (.tuple #[]) ∧ ∃ vals', TB wB w' g gr Af Ae Al cf ce cl cr n f es rs xs back at_ vals' (row :: rows) := by
  have HS := Aside0.mk hst
  clear hst
  have info4 := (by kernel_rfl : (Tryd.prog.info? 4).map (fun i => (i.zero, i.size, i.bytes)) = some (some (.bool false), 1, 1))
  have hmf : ∀ (fn : Fn) (first cap : Array Value) (w : World), (Instr.makeFunc fn first cap).run Tryd.prog w = .ok (.func fn first cap) w := fun _ _ _ _ => rfl
  have HAT := Aside0.mk (List.getElem?_eq_some_iff.1 ho).1
  have TB0 := Aside0.mk h
  have HN := Aside0.mk (And.intro hn0 hn1)
  have HB := Aside0.mk (And.intro hb0 hb1)
  have HO := Aside0.mk ho
  have HF := Aside0.mk hf1
  obtain ⟨gwa, ca, hva, hba, hla⟩ := h.row 0 a ha
  have VA := Aside0.mk hva
  have BA := Aside0.mk hba
  have LA := Aside0.mk hla
  have HA0 := Aside0.mk (List.getElem?_eq_some_iff.1 ha).1
  have RL := Aside0.mk h.rlen
  obtain ⟨gwb, cb, hvb, hbb, hlb⟩ := h.row p b hb
  have VB := Aside0.mk hvb
  have BBb := Aside0.mk hbb
  have LB := Aside0.mk hlb
  have HE1 := Aside0.mk (List.getElem?_eq_some_iff.1 he).1
  have HE2 := Aside0.mk (show rd es ((at_ + 1 : Nat) : Int) = ((at_ + 1 + p : Nat) : Int) from by simp [rd, he])
  have HPB := Aside0.mk (List.getElem?_eq_some_iff.1 hb).1
  have r4 : ((at_ : Int) + 1 < (es.length : Int)) = True := eq_true (by have := HE1.out; omega)
  have r5 : ((at_ : Int) + 1 + (p : Int) < (f.length : Int)) = True := eq_true (by have := RL.out; have := HPB.out; omega)
  have r6 : (0 ≤ (at_ : Int) + 1 + (p : Int)) = True := eq_true (by omega)
  clear hvb hbb hlb he hb
  have r1 : wrap64 ((at_ : Int) + 1) = ((at_ + 1 : Nat) : Int) := by have := HAT.out; have := HF.out; unfold wrap64; omega
  have r2 : ((at_ : Int) + 1 < (f.length : Int)) = True := eq_true (by have := RL.out; have := HA0.out; omega)
  have r3 : (0 ≤ (at_ : Int) + 1) = True := eq_true (by omega)
  clear hva hba hla ha
  have HX := Aside0.mk hlx
  have c2 : w.cell? ⟨g, 2, none⟩ = some (.slice Al n cl) := (blk_cell h.blk 2).trans rfl
  have q0 : (0 ≤ (at_ : Int)) = True := eq_true (by omega)
  have q1 : ((at_ : Int) < (f.length : Int)) = True := eq_true (by have := HAT.out; omega)
  clear h hn0 hn1 hb0 hb1 ho hf1 hlx
  obtain ⟨v0, hv0⟩ : ∃ v0, vals[at_]? = some v0 := ⟨_, List.getElem?_eq_getElem (Nat.lt_of_lt_of_le HAT.out TB0.out.vlen)⟩
  have V0 := Aside0.mk hv0
  clear hv0
  obtain ⟨ad, eA, hx0, hx1⟩ := at_T51 (Kd.C_below TB0.out.fC TB0.out.bel) (at_ : Int) (by omega) (by have := HAT.out; omega)
  have eo : rd_T51 f (at_ : Int) = ⟨15, vl⟩ := by simp [rd_T51, HO.out]
  have HF0 := Aside0.mk (show (rd_T51 f (at_ : Int)).f0 = 15 from by rw [eo])
  have HF1 := Aside0.mk (show (rd_T51 f (at_ : Int)).f1 = vl from by rw [eo])
  have HP2 := Aside0.mk (show polish_Parts.f 15 = some (2, 0) from by decide)
  subst eA
  clear eo hx0 hx1
  obtain ⟨ade, eE, hee⟩ := Kd.at_int (Kd.C_below TB0.out.eC TB0.out.bel) ((at_ + 1 : Nat) : Int) (by omega) (by have := HE1.out; omega)
  subst eE
  clear hee
  go_enter Tryd.func45, Tryd.ntmps45
  go_wp2_with (first | ((with_reducible refine gate_dst (N := 16) rfl ?_); go_must (refine make_event rfl (N := 16) rfl 30 4 (.tmp 15) (.tmp 15) rfl n rfl rfl Tryd.underlying30 (.bool false) 1 info4 rfl (by have := HN.out.2; omega) (by have := HN.out.2; omega) ?_; intro gn hg w1 hb1 hbel; have N1 := Aside0.mk (show BB w1 gn (List.replicate n false) from by unfold BB; rw [hb1, List.map_replicate]); have B1 := Aside0.mk hbel; have HG := Aside0.mk hg; clear hb1 hbel hg c2; have c4 : w1.cell? ⟨g, 4, none⟩ = some (.slice (some ⟨gr, 0, none⟩) f.length cr) := (blk_cell (blk_below TB0.out.blk B1.out) 4).trans rfl; have cr0 : w1.cell? ⟨gr, at_, none⟩ = some v0 := (blk_cell (blk_below TB0.out.rblk B1.out) at_).trans (by rw [List.getElem?_toArray]; exact V0.out); have fr0 := blk_frozen (blk_below TB0.out.rblk B1.out) at_)) | ((with_reducible refine gate_store (t := 30) (p := 23) (v := .tmp 22) rfl ?_); go_must (refine store_event (t := 30) (p := 23) (v := .tmp 22) (w1 := (w1.setCell ⟨gr, at_, none⟩ (.slice (some ⟨gn, 0, none⟩) n n))) ?hg ?ho ?hn ?hr ?_; (case ho => rfl); (case hg => rfl); (case hn => rfl); (case hr => first | (go_simp; done) | (go_simp; rfl)); intro w2 hw; have FS2 := Aside0.mk (TB.start TB0.out HG.out N1.out B1.out hw rfl); clear hw c4 cr0 fr0 N1)) | ((with_reducible refine gate_dst (N := 5) rfl ?_); go_must (refine box_event ?hg (N := 5) ?hd (cs := #[.slice none 0 0]) (t := 30) ?hr ?_; (case hd => rfl); (case hg => rfl); (case hr => first | (go_simp; done) | (go_simp; rfl)); intro g5 hg5 w3 hbox hb; have K5 := Aside0.mk hbox; have FS3 := Aside0.mk (FS.below FS2.out hb); have G5 := Aside0.mk (show w.heap.size ≤ g5 ∧ gn ≠ g5 from ⟨by rw [hg5]; exact FS2.out.keep.1, by have := blk_lt FS2.out.nw; omega⟩); clear hb hbox hg5 FS2)) | ((with_reducible refine gate_dst (N := 6) rfl ?_); go_must (refine box_event ?hg (N := 6) ?hd (cs := #[.slice none 0 0]) (t := 30) ?hr ?_; (case hd => rfl); (case hg => rfl); (case hr => first | (go_simp; done) | (go_simp; rfl)); intro g6 hg6 w4 hbox hb; have K6 := Aside0.mk hbox; have K54 := Aside0.mk (blk_below K5.out hb); have FS4 := Aside0.mk (FS.below FS3.out hb); have G6 := Aside0.mk (show w.heap.size ≤ g6 ∧ gn ≠ g6 ∧ g5 ≠ g6 from ⟨by rw [hg6]; exact FS3.out.keep.1, by have := blk_lt FS3.out.nw; omega, by have := blk_lt K5.out; omega⟩); clear hb hbox hg6 FS3 K5; have c0 : w4.cell? ⟨g, 0, none⟩ = some (.slice (some ad) f.length cf) := (blk_cell (TB0.out.blk' FS4.out) 0).trans rfl; obtain ⟨ad', eA', hx0, hx1⟩ := at_T51 (Kd.C_below TB0.out.fC FS4.out.bel) (at_ : Int) (by omega) (by have := HAT.out; omega); obtain rfl := (Option.some.inj eA'); rw [HF0.out, Int.toNat_natCast] at hx0; clear hx1 eA')) | (go_at_call 46; go_must (refine (polish_Parts.calls 15 2 0 _ (TB0.out.gl.below FS4.out.bel) HP2.out).mono ?_; rintro e w5 ⟨rfl, m5, hm5⟩; have FS5 := Aside0.mk (show FS wB w w5 gr gn at_ n vals (List.replicate n false) from by rw [hm5]; exact FS4.out.drewN m5); have K55 := Aside0.mk (show w5.heap[g5]? = some (.cells #[.slice none 0 0] 30 (0, 0)) from by rw [hm5]; exact K54.out); have K65 := Aside0.mk (show w5.heap[g6]? = some (.cells #[.slice none 0 0] 30 (0, 0)) from by rw [hm5]; exact K6.out); clear hm5 c0 hx0 FS4 K54 K6; have c45 : w5.cell? ⟨g, 4, none⟩ = some (.slice (some ⟨gr, 0, none⟩) f.length cr) := (blk_cell (TB0.out.blk' FS5.out) 4).trans rfl; have ca5 : w5.cell? ⟨gr, at_ + 1, none⟩ = some (.slice (some ⟨gwa, 0, none⟩) n ca) := FS5.out.cellv (by omega) VA.out; have k55 : w5.cell? ⟨g5, 0, none⟩ = some (.slice none 0 0) := (blk_cell K55.out 0).trans rfl; have f55 := blk_frozen K55.out 0)) | ((with_reducible refine gate_store (t := 30) (p := 5) (v := .tmp 45) rfl ?_); go_must (refine store_event (t := 30) (p := 5) (v := .tmp 45) (w1 := (w5.setCell ⟨g5, 0, none⟩ (.slice (some ⟨gwa, 0, none⟩) n ca))) ?hg ?ho ?hn ?hr ?_; (case ho => rfl); (case hg => rfl); (case hn => rfl); (case hr => first | (go_simp; done) | (go_simp; rfl)); intro w5b hw; have FSb := Aside0.mk (show FS wB w w5b gr gn at_ n vals (List.replicate n false) from by rw [hw]; exact FS5.out.far (p := ⟨g5, 0, none⟩) G5.out.1 G5.out.2 TB0.out.sizes.1 TB0.out.sizes.2.1 _); have Kb5 := Aside0.mk (show w5b.heap[g5]? = some (.cells #[.slice (some ⟨gwa, 0, none⟩) n ca] 30 (0, 0)) from by rw [hw]; exact blk_put K55.out 0 _ rfl); have Kb6 := Aside0.mk (show w5b.heap[g6]? = some (.cells #[.slice none 0 0] 30 (0, 0)) from by rw [hw]; exact blk_far (p := ⟨g5, 0, none⟩) K65.out (fun e => G6.out.2.2 e.symm) _); clear hw c45 ca5 k55 f55 FS5 K55 K65; have c4b : w5b.cell? ⟨g, 4, none⟩ = some (.slice (some ⟨gr, 0, none⟩) f.length cr) := (blk_cell (TB0.out.blk' FSb.out) 4).trans rfl; have c1b : w5b.cell? ⟨g, 1, none⟩ = some (.slice (some ade) es.length ce) := (blk_cell (TB0.out.blk' FSb.out) 1).trans rfl; obtain ⟨ade', eE', heb⟩ := Kd.at_int (Kd.C_below TB0.out.eC FSb.out.bel) ((at_ + 1 : Nat) : Int) (by omega) (by have := HE1.out; omega); obtain rfl := (Option.some.inj eE'); rw [HE2.out, Int.toNat_natCast, show ade.add (at_ + 1) = (⟨ade.block, ade.off + (at_ + 1), none⟩ : Addr) from by simp [Addr.add]] at heb; clear eE'; have cb5 : w5b.cell? ⟨gr, at_ + 1 + p, none⟩ = some (.slice (some ⟨gwb, 0, none⟩) n cb) := FSb.out.cellv (by omega) VB.out; have k6b : w5b.cell? ⟨g6, 0, none⟩ = some (.slice none 0 0) := (blk_cell Kb6.out 0).trans rfl; have f6b := blk_frozen Kb6.out 0)))
  go_region
  generalize hq : World.drew _ = w5c
  have FS5 := Aside0.mk (show FS wB w w5c gr gn at_ n vals (List.replicate n false) from by rw [← hq]; exact (FSb.out.far (p := ⟨g6, 0, none⟩) G6.out.1 G6.out.2.1 TB0.out.sizes.1 TB0.out.sizes.2.1 _).drew)
  have K55 := Aside0.mk (show w5c.heap[g5]? = some (.cells #[.slice (some ⟨gwa, 0, none⟩) n ca] 30 (0, 0)) from by rw [← hq]; exact blk_far (p := ⟨g6, 0, none⟩) Kb5.out G6.out.2.2 _)
  have K65 := Aside0.mk (show w5c.heap[g6]? = some (.cells #[.slice (some ⟨gwb, 0, none⟩) n cb] 30 (0, 0)) from by rw [← hq]; exact blk_put Kb6.out 0 _ rfl)
  clear hq c4b c1b heb cb5 k6b f6b FSb Kb5 Kb6
  have c05 : w5c.cell? ⟨g, 0, none⟩ = some (.slice (some ad) f.length cf) := (blk_cell (TB0.out.blk' FS5.out) 0).trans rfl; obtain ⟨ad', eA', hx0, hx1⟩ := at_T51 (Kd.C_below TB0.out.fC FS5.out.bel) (at_ : Int) (by omega) (by have := HAT.out; omega); obtain rfl := (Option.some.inj eA'); rw [HF0.out, Int.toNat_natCast] at hx0; rw [HF1.out, Int.toNat_natCast] at hx1; clear eA'
  go_wp2_with (first | ((with_reducible refine gate_dst (N := 9) rfl ?_); go_must (refine box_event ?hg (N := 9) ?hd (cs := #[.int .i64 0, .int .i64 0]) (t := 51) ?hr ?_; (case hd => rfl); (case hg => rfl); (case hr => first | (go_simp; done) | (go_simp; rfl)); intro g9 hg9 w6 hbox hb; have K9 := Aside0.mk hbox; have FS6 := Aside0.mk (FS.below FS5.out hb); have K56 := Aside0.mk (blk_below K55.out hb); have K66 := Aside0.mk (blk_below K65.out hb); have G9 := Aside0.mk (show w.heap.size ≤ g9 ∧ gn ≠ g9 ∧ g5 ≠ g9 ∧ g6 ≠ g9 from ⟨by rw [hg9]; exact FS5.out.keep.1, by have := blk_lt FS5.out.nw; omega, by have := blk_lt K55.out; omega, by have := blk_lt K65.out; omega⟩); clear hb hbox hg9 FS5 K55 K65 c05 hx0 hx1; have k9a : w6.cell? ⟨g9, 0, none⟩ = some (.int .i64 0) := (blk_cell K9.out 0).trans rfl; have k9b : w6.cell? ⟨g9, 1, none⟩ = some (.int .i64 0) := (blk_cell K9.out 1).trans rfl; have f9a := blk_frozen K9.out 0; have f9b := blk_frozen K9.out 1)) | ((with_reducible refine gate_store (t := 51) (p := 9) (v := .tmp 68) rfl ?_); go_must (refine store_event (t := 51) (p := 9) (v := .tmp 68) (w1 := ((w6.setCell ⟨g9, 0, none⟩ (.int .i64 15)).setCell ⟨g9, 1, none⟩ (.int .i64 vl))) ?hg ?ho ?hn ?hr ?_; (case ho => rfl); (case hg => rfl); (case hn => rfl); (case hr => first | (go_simp; done) | (go_simp; rfl)); intro w7 hw; have K97 := Aside0.mk (show w7.heap[g9]? = some (.cells #[.int .i64 15, .int .i64 vl] 51 (0, 0)) from by rw [hw]; exact blk_put (blk_put K9.out 0 _ rfl) 1 _ rfl); have FS7 := Aside0.mk (show FS wB w w7 gr gn at_ n vals (List.replicate n false) from by rw [hw]; exact (FS6.out.far (p := ⟨g9, 0, none⟩) G9.out.1 G9.out.2.1 TB0.out.sizes.1 TB0.out.sizes.2.1 _).far (p := ⟨g9, 1, none⟩) G9.out.1 G9.out.2.1 TB0.out.sizes.1 TB0.out.sizes.2.1 _); have K57 := Aside0.mk (show w7.heap[g5]? = some (.cells #[.slice (some ⟨gwa, 0, none⟩) n ca] 30 (0, 0)) from by rw [hw]; exact blk_far (p := ⟨g9, 1, none⟩) (blk_far (p := ⟨g9, 0, none⟩) K56.out G9.out.2.2.1 _) G9.out.2.2.1 _); have K67 := Aside0.mk (show w7.heap[g6]? = some (.cells #[.slice (some ⟨gwb, 0, none⟩) n cb] 30 (0, 0)) from by rw [hw]; exact blk_far (p := ⟨g9, 1, none⟩) (blk_far (p := ⟨g9, 0, none⟩) K66.out G9.out.2.2.2 _) G9.out.2.2.2 _); clear hw K9 FS6 K56 K66 k9a k9b f9a f9b; have k70 : w7.cell? ⟨g9, 0, none⟩ = some (.int .i64 15) := (blk_cell K97.out 0).trans rfl)) | (go_at_call 48; go_must (refine (word_settle.calls (fun i l => rdOf false b i || rdOf false a i && l) 51 #[.pointer (some ⟨g6, 0, none⟩), .pointer (some ⟨g5, 0, none⟩)] g gr gn n n cl f.length cr Al (at_ : Int) back false (List.replicate n false) row k _ ((blk_cell (TB0.out.blk' FS7.out) 2).trans rfl) ((blk_cell (TB0.out.blk' FS7.out) 3).trans rfl) ((blk_cell (TB0.out.blk' FS7.out) 4).trans rfl) (by rw [Int.toNat_natCast]; exact FS7.out.cella (Nat.lt_of_lt_of_le HAT.out TB0.out.vlen)) (by have := TB0.out.sizes.2.2.1; have := FS7.out.ge; omega) (by omega) (by have := HAT.out; omega) HB.out.1 HB.out.2 HN.out.2 FS7.out.nw (by simp) ?hL Tryd.call51 HS.out).mono ?_; (case hL => intro w1 r1 i bv hsw h0 h1; exact fill_third.calls g6 g5 gwb gwa n ca cb a b i bv w1 (hsw.cell ((blk_cell K67.out 0).trans rfl) (fun e => G6.out.2.1 e.symm)) (hsw.cell ((blk_cell K57.out 0).trans rfl) (fun e => G5.out.2 e.symm)) ((hsw.keep.2 gwb (blk_lt (FS7.out.bb TB0.out BBb.out).1) (FS7.out.bb TB0.out BBb.out).2 (by simp)).trans (FS7.out.bb TB0.out BBb.out).1) LB.out ((hsw.keep.2 gwa (blk_lt (FS7.out.bb TB0.out BA.out).1) (FS7.out.bb TB0.out BA.out).2 (by simp)).trans (FS7.out.bb TB0.out BA.out).1) LA.out h0 h1); rintro e w8 ⟨rfl, sw, hlen⟩; have SWo := Aside0.mk sw; have LEN := Aside0.mk hlen; clear sw hlen)))
  go_end0
  exact ⟨rfl, _, TB0.out.done (FS7.out.sw SWo.out TB0.out.sizes.1 TB0.out.sizes.2.1) LEN.out⟩
set_option maxHeartbeats 16000000 in
set_option maxRecDepth 100000 in
theorem word_fill16.calls (wB w : World) (g gr : Nat) (Af Ae Al : Option Addr) (cf ce cl cr n : Nat) (f : List S51) (es : List Int) (rs : List VV) (xs : List (List Bool)) (back : Int) (at_ : Nat) (vals : List Value) (rows : List (List Bool)) (vl : Int) (a b : List Bool) (p : Nat) (k : Nat) (row : List Bool)
    (h : TB wB w g gr Af Ae Al cf ce cl cr n f es rs xs back (at_ + 1) vals rows) (hn0 : 1 ≤ n) (hn1 : n ≤ 100) (hb0 : 0 ≤ back) (hb1 : back < (n : Int)) (hlx : xs.length = n) (ho : f[at_]? = some ⟨16, vl⟩) (hf1 : f.length ≤ 1000) (ha : rows[0]? = some a) (he : es[at_ + 1]? = some ((at_ + 1 + p : Nat) : Int)) (hb : rows[p]? = some b) (hst : stl (fun i l => rdOf false b i && (rdOf false a i || l)) n back k (List.replicate n true) = some row) :
    Calls Tryd.prog 45 #[.pointer (some ⟨g, 0, none⟩), .int .i64 at_] w fun e w' => e = .returned (.tuple #[]) ∧ ∃ vals', TB wB w' g gr Af Ae Al cf ce cl cr n f es rs xs back at_ vals' (row :: rows) := by
  have HS := Aside0.mk hst
  clear hst
  have info4 := (by kernel_rfl : (Tryd.prog.info? 4).map (fun i => (i.zero, i.size, i.bytes)) = some (some (.bool false), 1, 1))
  have hmf : ∀ (fn : Fn) (first cap : Array Value) (w : World), (Instr.makeFunc fn first cap).run Tryd.prog w = .ok (.func fn first cap) w := fun _ _ _ _ => rfl
  have HAT := Aside0.mk (List.getElem?_eq_some_iff.1 ho).1
  have TB0 := Aside0.mk h
  have HN := Aside0.mk (And.intro hn0 hn1)
  have HB := Aside0.mk (And.intro hb0 hb1)
  have HO := Aside0.mk ho
  have HF := Aside0.mk hf1
  obtain ⟨gwa, ca, hva, hba, hla⟩ := h.row 0 a ha
  have VA := Aside0.mk hva
  have BA := Aside0.mk hba
  have LA := Aside0.mk hla
  have HA0 := Aside0.mk (List.getElem?_eq_some_iff.1 ha).1
  have RL := Aside0.mk h.rlen
  obtain ⟨gwb, cb, hvb, hbb, hlb⟩ := h.row p b hb
  have VB := Aside0.mk hvb
  have BBb := Aside0.mk hbb
  have LB := Aside0.mk hlb
  have HE1 := Aside0.mk (List.getElem?_eq_some_iff.1 he).1
  have HE2 := Aside0.mk (show rd es ((at_ + 1 : Nat) : Int) = ((at_ + 1 + p : Nat) : Int) from by simp [rd, he])
  have HPB := Aside0.mk (List.getElem?_eq_some_iff.1 hb).1
  have r4 : ((at_ : Int) + 1 < (es.length : Int)) = True := eq_true (by have := HE1.out; omega)
  have r5 : ((at_ : Int) + 1 + (p : Int) < (f.length : Int)) = True := eq_true (by have := RL.out; have := HPB.out; omega)
  have r6 : (0 ≤ (at_ : Int) + 1 + (p : Int)) = True := eq_true (by omega)
  clear hvb hbb hlb he hb
  have r1 : wrap64 ((at_ : Int) + 1) = ((at_ + 1 : Nat) : Int) := by have := HAT.out; have := HF.out; unfold wrap64; omega
  have r2 : ((at_ : Int) + 1 < (f.length : Int)) = True := eq_true (by have := RL.out; have := HA0.out; omega)
  have r3 : (0 ≤ (at_ : Int) + 1) = True := eq_true (by omega)
  clear hva hba hla ha
  have HX := Aside0.mk hlx
  have c2 : w.cell? ⟨g, 2, none⟩ = some (.slice Al n cl) := (blk_cell h.blk 2).trans rfl
  have q0 : (0 ≤ (at_ : Int)) = True := eq_true (by omega)
  have q1 : ((at_ : Int) < (f.length : Int)) = True := eq_true (by have := HAT.out; omega)
  clear h hn0 hn1 hb0 hb1 ho hf1 hlx
  obtain ⟨v0, hv0⟩ : ∃ v0, vals[at_]? = some v0 := ⟨_, List.getElem?_eq_getElem (Nat.lt_of_lt_of_le HAT.out TB0.out.vlen)⟩
  have V0 := Aside0.mk hv0
  clear hv0
  obtain ⟨ad, eA, hx0, hx1⟩ := at_T51 (Kd.C_below TB0.out.fC TB0.out.bel) (at_ : Int) (by omega) (by have := HAT.out; omega)
  have eo : rd_T51 f (at_ : Int) = ⟨16, vl⟩ := by simp [rd_T51, HO.out]
  have HF0 := Aside0.mk (show (rd_T51 f (at_ : Int)).f0 = 16 from by rw [eo])
  have HF1 := Aside0.mk (show (rd_T51 f (at_ : Int)).f1 = vl from by rw [eo])
  have HP2 := Aside0.mk (show polish_Parts.f 16 = some (2, 0) from by decide)
  subst eA
  clear eo hx0 hx1
  obtain ⟨ade, eE, hee⟩ := Kd.at_int (Kd.C_below TB0.out.eC TB0.out.bel) ((at_ + 1 : Nat) : Int) (by omega) (by have := HE1.out; omega)
  subst eE
  clear hee
  go_enter Tryd.func45, Tryd.ntmps45
  go_wp2_with (first | ((with_reducible refine gate_dst (N := 16) rfl ?_); go_must (refine make_event rfl (N := 16) rfl 30 4 (.tmp 15) (.tmp 15) rfl n rfl rfl Tryd.underlying30 (.bool false) 1 info4 rfl (by have := HN.out.2; omega) (by have := HN.out.2; omega) ?_; intro gn hg w1 hb1 hbel; have N1 := Aside0.mk (show BB w1 gn (List.replicate n false) from by unfold BB; rw [hb1, List.map_replicate]); have B1 := Aside0.mk hbel; have HG := Aside0.mk hg; clear hb1 hbel hg c2; have c4 : w1.cell? ⟨g, 4, none⟩ = some (.slice (some ⟨gr, 0, none⟩) f.length cr) := (blk_cell (blk_below TB0.out.blk B1.out) 4).trans rfl; have cr0 : w1.cell? ⟨gr, at_, none⟩ = some v0 := (blk_cell (blk_below TB0.out.rblk B1.out) at_).trans (by rw [List.getElem?_toArray]; exact V0.out); have fr0 := blk_frozen (blk_below TB0.out.rblk B1.out) at_)) | ((with_reducible refine gate_store (t := 30) (p := 23) (v := .tmp 22) rfl ?_); go_must (refine store_event (t := 30) (p := 23) (v := .tmp 22) (w1 := (w1.setCell ⟨gr, at_, none⟩ (.slice (some ⟨gn, 0, none⟩) n n))) ?hg ?ho ?hn ?hr ?_; (case ho => rfl); (case hg => rfl); (case hn => rfl); (case hr => first | (go_simp; done) | (go_simp; rfl)); intro w2 hw; have FS2 := Aside0.mk (TB.start TB0.out HG.out N1.out B1.out hw rfl); clear hw c4 cr0 fr0 N1)) | ((with_reducible refine gate_dst (N := 5) rfl ?_); go_must (refine box_event ?hg (N := 5) ?hd (cs := #[.slice none 0 0]) (t := 30) ?hr ?_; (case hd => rfl); (case hg => rfl); (case hr => first | (go_simp; done) | (go_simp; rfl)); intro g5 hg5 w3 hbox hb; have K5 := Aside0.mk hbox; have FS3 := Aside0.mk (FS.below FS2.out hb); have G5 := Aside0.mk (show w.heap.size ≤ g5 ∧ gn ≠ g5 from ⟨by rw [hg5]; exact FS2.out.keep.1, by have := blk_lt FS2.out.nw; omega⟩); clear hb hbox hg5 FS2)) | ((with_reducible refine gate_dst (N := 6) rfl ?_); go_must (refine box_event ?hg (N := 6) ?hd (cs := #[.slice none 0 0]) (t := 30) ?hr ?_; (case hd => rfl); (case hg => rfl); (case hr => first | (go_simp; done) | (go_simp; rfl)); intro g6 hg6 w4 hbox hb; have K6 := Aside0.mk hbox; have K54 := Aside0.mk (blk_below K5.out hb); have FS4 := Aside0.mk (FS.below FS3.out hb); have G6 := Aside0.mk (show w.heap.size ≤ g6 ∧ gn ≠ g6 ∧ g5 ≠ g6 from ⟨by rw [hg6]; exact FS3.out.keep.1, by have := blk_lt FS3.out.nw; omega, by have := blk_lt K5.out; omega⟩); clear hb hbox hg6 FS3 K5; have c0 : w4.cell? ⟨g, 0, none⟩ = some (.slice (some ad) f.length cf) := (blk_cell (TB0.out.blk' FS4.out) 0).trans rfl; obtain ⟨ad', eA', hx0, hx1⟩ := at_T51 (Kd.C_below TB0.out.fC FS4.out.bel) (at_ : Int) (by omega) (by have := HAT.out; omega); obtain rfl := (Option.some.inj eA'); rw [HF0.out, Int.toNat_natCast] at hx0; clear hx1 eA')) | (go_at_call 46; go_must (refine (polish_Parts.calls 16 2 0 _ (TB0.out.gl.below FS4.out.bel) HP2.out).mono ?_; rintro e w5 ⟨rfl, m5, hm5⟩; have FS5 := Aside0.mk (show FS wB w w5 gr gn at_ n vals (List.replicate n false) from by rw [hm5]; exact FS4.out.drewN m5); have K55 := Aside0.mk (show w5.heap[g5]? = some (.cells #[.slice none 0 0] 30 (0, 0)) from by rw [hm5]; exact K54.out); have K65 := Aside0.mk (show w5.heap[g6]? = some (.cells #[.slice none 0 0] 30 (0, 0)) from by rw [hm5]; exact K6.out); clear hm5 c0 hx0 FS4 K54 K6; have c45 : w5.cell? ⟨g, 4, none⟩ = some (.slice (some ⟨gr, 0, none⟩) f.length cr) := (blk_cell (TB0.out.blk' FS5.out) 4).trans rfl; have ca5 : w5.cell? ⟨gr, at_ + 1, none⟩ = some (.slice (some ⟨gwa, 0, none⟩) n ca) := FS5.out.cellv (by omega) VA.out; have k55 : w5.cell? ⟨g5, 0, none⟩ = some (.slice none 0 0) := (blk_cell K55.out 0).trans rfl; have f55 := blk_frozen K55.out 0)) | ((with_reducible refine gate_store (t := 30) (p := 5) (v := .tmp 45) rfl ?_); go_must (refine store_event (t := 30) (p := 5) (v := .tmp 45) (w1 := (w5.setCell ⟨g5, 0, none⟩ (.slice (some ⟨gwa, 0, none⟩) n ca))) ?hg ?ho ?hn ?hr ?_; (case ho => rfl); (case hg => rfl); (case hn => rfl); (case hr => first | (go_simp; done) | (go_simp; rfl)); intro w5b hw; have FSb := Aside0.mk (show FS wB w w5b gr gn at_ n vals (List.replicate n false) from by rw [hw]; exact FS5.out.far (p := ⟨g5, 0, none⟩) G5.out.1 G5.out.2 TB0.out.sizes.1 TB0.out.sizes.2.1 _); have Kb5 := Aside0.mk (show w5b.heap[g5]? = some (.cells #[.slice (some ⟨gwa, 0, none⟩) n ca] 30 (0, 0)) from by rw [hw]; exact blk_put K55.out 0 _ rfl); have Kb6 := Aside0.mk (show w5b.heap[g6]? = some (.cells #[.slice none 0 0] 30 (0, 0)) from by rw [hw]; exact blk_far (p := ⟨g5, 0, none⟩) K65.out (fun e => G6.out.2.2 e.symm) _); clear hw c45 ca5 k55 f55 FS5 K55 K65; have c4b : w5b.cell? ⟨g, 4, none⟩ = some (.slice (some ⟨gr, 0, none⟩) f.length cr) := (blk_cell (TB0.out.blk' FSb.out) 4).trans rfl; have c1b : w5b.cell? ⟨g, 1, none⟩ = some (.slice (some ade) es.length ce) := (blk_cell (TB0.out.blk' FSb.out) 1).trans rfl; obtain ⟨ade', eE', heb⟩ := Kd.at_int (Kd.C_below TB0.out.eC FSb.out.bel) ((at_ + 1 : Nat) : Int) (by omega) (by have := HE1.out; omega); obtain rfl := (Option.some.inj eE'); rw [HE2.out, Int.toNat_natCast, show ade.add (at_ + 1) = (⟨ade.block, ade.off + (at_ + 1), none⟩ : Addr) from by simp [Addr.add]] at heb; clear eE'; have cb5 : w5b.cell? ⟨gr, at_ + 1 + p, none⟩ = some (.slice (some ⟨gwb, 0, none⟩) n cb) := FSb.out.cellv (by omega) VB.out; have k6b : w5b.cell? ⟨g6, 0, none⟩ = some (.slice none 0 0) := (blk_cell Kb6.out 0).trans rfl; have f6b := blk_frozen Kb6.out 0)))
  go_region
  generalize hq : World.drew _ = w5c
  have FS5 := Aside0.mk (show FS wB w w5c gr gn at_ n vals (List.replicate n false) from by rw [← hq]; exact (FSb.out.far (p := ⟨g6, 0, none⟩) G6.out.1 G6.out.2.1 TB0.out.sizes.1 TB0.out.sizes.2.1 _).drew)
  have K55 := Aside0.mk (show w5c.heap[g5]? = some (.cells #[.slice (some ⟨gwa, 0, none⟩) n ca] 30 (0, 0)) from by rw [← hq]; exact blk_far (p := ⟨g6, 0, none⟩) Kb5.out G6.out.2.2 _)
  have K65 := Aside0.mk (show w5c.heap[g6]? = some (.cells #[.slice (some ⟨gwb, 0, none⟩) n cb] 30 (0, 0)) from by rw [← hq]; exact blk_put Kb6.out 0 _ rfl)
  clear hq c4b c1b heb cb5 k6b f6b FSb Kb5 Kb6
  have c05 : w5c.cell? ⟨g, 0, none⟩ = some (.slice (some ad) f.length cf) := (blk_cell (TB0.out.blk' FS5.out) 0).trans rfl; obtain ⟨ad', eA', hx0, hx1⟩ := at_T51 (Kd.C_below TB0.out.fC FS5.out.bel) (at_ : Int) (by omega) (by have := HAT.out; omega); obtain rfl := (Option.some.inj eA'); rw [HF0.out, Int.toNat_natCast] at hx0; rw [HF1.out, Int.toNat_natCast] at hx1; clear eA'
  go_wp2_with (first | ((with_reducible refine gate_dst (N := 9) rfl ?_); go_must (refine box_event ?hg (N := 9) ?hd (cs := #[.int .i64 0, .int .i64 0]) (t := 51) ?hr ?_; (case hd => rfl); (case hg => rfl); (case hr => first | (go_simp; done) | (go_simp; rfl)); intro g9 hg9 w6 hbox hb; have K9 := Aside0.mk hbox; have FS6 := Aside0.mk (FS.below FS5.out hb); have K56 := Aside0.mk (blk_below K55.out hb); have K66 := Aside0.mk (blk_below K65.out hb); have G9 := Aside0.mk (show w.heap.size ≤ g9 ∧ gn ≠ g9 ∧ g5 ≠ g9 ∧ g6 ≠ g9 from ⟨by rw [hg9]; exact FS5.out.keep.1, by have := blk_lt FS5.out.nw; omega, by have := blk_lt K55.out; omega, by have := blk_lt K65.out; omega⟩); clear hb hbox hg9 FS5 K55 K65 c05 hx0 hx1; have k9a : w6.cell? ⟨g9, 0, none⟩ = some (.int .i64 0) := (blk_cell K9.out 0).trans rfl; have k9b : w6.cell? ⟨g9, 1, none⟩ = some (.int .i64 0) := (blk_cell K9.out 1).trans rfl; have f9a := blk_frozen K9.out 0; have f9b := blk_frozen K9.out 1)) | ((with_reducible refine gate_store (t := 51) (p := 9) (v := .tmp 68) rfl ?_); go_must (refine store_event (t := 51) (p := 9) (v := .tmp 68) (w1 := ((w6.setCell ⟨g9, 0, none⟩ (.int .i64 16)).setCell ⟨g9, 1, none⟩ (.int .i64 vl))) ?hg ?ho ?hn ?hr ?_; (case ho => rfl); (case hg => rfl); (case hn => rfl); (case hr => first | (go_simp; done) | (go_simp; rfl)); intro w7 hw; have K97 := Aside0.mk (show w7.heap[g9]? = some (.cells #[.int .i64 16, .int .i64 vl] 51 (0, 0)) from by rw [hw]; exact blk_put (blk_put K9.out 0 _ rfl) 1 _ rfl); have FS7 := Aside0.mk (show FS wB w w7 gr gn at_ n vals (List.replicate n false) from by rw [hw]; exact (FS6.out.far (p := ⟨g9, 0, none⟩) G9.out.1 G9.out.2.1 TB0.out.sizes.1 TB0.out.sizes.2.1 _).far (p := ⟨g9, 1, none⟩) G9.out.1 G9.out.2.1 TB0.out.sizes.1 TB0.out.sizes.2.1 _); have K57 := Aside0.mk (show w7.heap[g5]? = some (.cells #[.slice (some ⟨gwa, 0, none⟩) n ca] 30 (0, 0)) from by rw [hw]; exact blk_far (p := ⟨g9, 1, none⟩) (blk_far (p := ⟨g9, 0, none⟩) K56.out G9.out.2.2.1 _) G9.out.2.2.1 _); have K67 := Aside0.mk (show w7.heap[g6]? = some (.cells #[.slice (some ⟨gwb, 0, none⟩) n cb] 30 (0, 0)) from by rw [hw]; exact blk_far (p := ⟨g9, 1, none⟩) (blk_far (p := ⟨g9, 0, none⟩) K66.out G9.out.2.2.2 _) G9.out.2.2.2 _); clear hw K9 FS6 K56 K66 k9a k9b f9a f9b; have k70 : w7.cell? ⟨g9, 0, none⟩ = some (.int .i64 16) := (blk_cell K97.out 0).trans rfl)) | (go_at_call 48; go_must (refine (word_settle.calls (fun i l => rdOf false b i && (rdOf false a i || l)) 52 #[.pointer (some ⟨g6, 0, none⟩), .pointer (some ⟨g5, 0, none⟩)] g gr gn n n cl f.length cr Al (at_ : Int) back true (List.replicate n false) row k _ ((blk_cell (TB0.out.blk' FS7.out) 2).trans rfl) ((blk_cell (TB0.out.blk' FS7.out) 3).trans rfl) ((blk_cell (TB0.out.blk' FS7.out) 4).trans rfl) (by rw [Int.toNat_natCast]; exact FS7.out.cella (Nat.lt_of_lt_of_le HAT.out TB0.out.vlen)) (by have := TB0.out.sizes.2.2.1; have := FS7.out.ge; omega) (by omega) (by have := HAT.out; omega) HB.out.1 HB.out.2 HN.out.2 FS7.out.nw (by simp) ?hL Tryd.call52 HS.out).mono ?_; (case hL => intro w1 r1 i bv hsw h0 h1; exact fill_fourth.calls g6 g5 gwb gwa n ca cb a b i bv w1 (hsw.cell ((blk_cell K67.out 0).trans rfl) (fun e => G6.out.2.1 e.symm)) (hsw.cell ((blk_cell K57.out 0).trans rfl) (fun e => G5.out.2 e.symm)) ((hsw.keep.2 gwb (blk_lt (FS7.out.bb TB0.out BBb.out).1) (FS7.out.bb TB0.out BBb.out).2 (by simp)).trans (FS7.out.bb TB0.out BBb.out).1) LB.out ((hsw.keep.2 gwa (blk_lt (FS7.out.bb TB0.out BA.out).1) (FS7.out.bb TB0.out BA.out).2 (by simp)).trans (FS7.out.bb TB0.out BA.out).1) LA.out h0 h1); rintro e w8 ⟨rfl, sw, hlen⟩; have SWo := Aside0.mk sw; have LEN := Aside0.mk hlen; clear sw hlen)))
  go_end0
  exact ⟨rfl, _, TB0.out.done (FS7.out.sw SWo.out TB0.out.sizes.1 TB0.out.sizes.2.1) LEN.out⟩
set_option maxHeartbeats 16000000 in
set_option maxRecDepth 100000 in
theorem word_fill8.calls (wB w : World) (g gr : Nat) (Af Ae Al : Option Addr) (cf ce cl cr n : Nat) (f : List S51) (es : List Int) (rs : List VV) (xs : List (List Bool)) (back : Int) (at_ : Nat) (vals : List Value) (rows : List (List Bool)) (vl : Int) (a b : List Bool) (p : Nat)
    (h : TB wB w g gr Af Ae Al cf ce cl cr n f es rs xs back (at_ + 1) vals rows) (hn0 : 1 ≤ n) (hn1 : n ≤ 100) (hb0 : 0 ≤ back) (hb1 : back < (n : Int)) (hlx : xs.length = n) (ho : f[at_]? = some ⟨8, vl⟩) (hf1 : f.length ≤ 1000) (ha : rows[0]? = some a) (he : es[at_ + 1]? = some ((at_ + 1 + p : Nat) : Int)) (hb : rows[p]? = some b) :
    Calls Tryd.prog 45 #[.pointer (some ⟨g, 0, none⟩), .int .i64 at_] w fun e w' => e = .returned (.tuple #[]) ∧ ∃ vals', TB wB w' g gr Af Ae Al cf ce cl cr n f es rs xs back at_ vals' (mkr (fun i => rdOf false a i && rdOf false b i) n :: rows) := by
  have info4 := (by kernel_rfl : (Tryd.prog.info? 4).map (fun i => (i.zero, i.size, i.bytes)) = some (some (.bool false), 1, 1))
  have hmf : ∀ (fn : Fn) (first cap : Array Value) (w : World), (Instr.makeFunc fn first cap).run Tryd.prog w = .ok (.func fn first cap) w := fun _ _ _ _ => rfl
  have HAT := Aside0.mk (List.getElem?_eq_some_iff.1 ho).1
  have TB0 := Aside0.mk h
  have HN := Aside0.mk (And.intro hn0 hn1)
  have HB := Aside0.mk (And.intro hb0 hb1)
  have HO := Aside0.mk ho
  have HF := Aside0.mk hf1
  obtain ⟨gwa, ca, hva, hba, hla⟩ := h.row 0 a ha
  have VA := Aside0.mk hva
  have BA := Aside0.mk hba
  have LA := Aside0.mk hla
  have HA0 := Aside0.mk (List.getElem?_eq_some_iff.1 ha).1
  have RL := Aside0.mk h.rlen
  obtain ⟨gwb, cb, hvb, hbb, hlb⟩ := h.row p b hb
  have VB := Aside0.mk hvb
  have BBb := Aside0.mk hbb
  have LB := Aside0.mk hlb
  have HE1 := Aside0.mk (List.getElem?_eq_some_iff.1 he).1
  have HE2 := Aside0.mk (show rd es ((at_ + 1 : Nat) : Int) = ((at_ + 1 + p : Nat) : Int) from by simp [rd, he])
  have HPB := Aside0.mk (List.getElem?_eq_some_iff.1 hb).1
  have r4 : ((at_ : Int) + 1 < (es.length : Int)) = True := eq_true (by have := HE1.out; omega)
  have r5 : ((at_ : Int) + 1 + (p : Int) < (f.length : Int)) = True := eq_true (by have := RL.out; have := HPB.out; omega)
  have r6 : (0 ≤ (at_ : Int) + 1 + (p : Int)) = True := eq_true (by omega)
  clear hvb hbb hlb he hb
  have r1 : wrap64 ((at_ : Int) + 1) = ((at_ + 1 : Nat) : Int) := by have := HAT.out; have := HF.out; unfold wrap64; omega
  have r2 : ((at_ : Int) + 1 < (f.length : Int)) = True := eq_true (by have := RL.out; have := HA0.out; omega)
  have r3 : (0 ≤ (at_ : Int) + 1) = True := eq_true (by omega)
  clear hva hba hla ha
  have HX := Aside0.mk hlx
  have c2 : w.cell? ⟨g, 2, none⟩ = some (.slice Al n cl) := (blk_cell h.blk 2).trans rfl
  have q0 : (0 ≤ (at_ : Int)) = True := eq_true (by omega)
  have q1 : ((at_ : Int) < (f.length : Int)) = True := eq_true (by have := HAT.out; omega)
  clear h hn0 hn1 hb0 hb1 ho hf1 hlx
  obtain ⟨v0, hv0⟩ : ∃ v0, vals[at_]? = some v0 := ⟨_, List.getElem?_eq_getElem (Nat.lt_of_lt_of_le HAT.out TB0.out.vlen)⟩
  have V0 := Aside0.mk hv0
  clear hv0
  obtain ⟨ad, eA, hx0, hx1⟩ := at_T51 (Kd.C_below TB0.out.fC TB0.out.bel) (at_ : Int) (by omega) (by have := HAT.out; omega)
  have eo : rd_T51 f (at_ : Int) = ⟨8, vl⟩ := by simp [rd_T51, HO.out]
  have HF0 := Aside0.mk (show (rd_T51 f (at_ : Int)).f0 = 8 from by rw [eo])
  have HF1 := Aside0.mk (show (rd_T51 f (at_ : Int)).f1 = vl from by rw [eo])
  have HP2 := Aside0.mk (show polish_Parts.f 8 = some (2, 0) from by decide)
  subst eA
  clear eo hx0 hx1
  obtain ⟨ade, eE, hee⟩ := Kd.at_int (Kd.C_below TB0.out.eC TB0.out.bel) ((at_ + 1 : Nat) : Int) (by omega) (by have := HE1.out; omega)
  subst eE
  clear hee
  go_enter Tryd.func45, Tryd.ntmps45
  go_wp2_with (first | ((with_reducible refine gate_dst (N := 16) rfl ?_); go_must (refine make_event rfl (N := 16) rfl 30 4 (.tmp 15) (.tmp 15) rfl n rfl rfl Tryd.underlying30 (.bool false) 1 info4 rfl (by have := HN.out.2; omega) (by have := HN.out.2; omega) ?_; intro gn hg w1 hb1 hbel; have N1 := Aside0.mk (show BB w1 gn (List.replicate n false) from by unfold BB; rw [hb1, List.map_replicate]); have B1 := Aside0.mk hbel; have HG := Aside0.mk hg; clear hb1 hbel hg c2; have c4 : w1.cell? ⟨g, 4, none⟩ = some (.slice (some ⟨gr, 0, none⟩) f.length cr) := (blk_cell (blk_below TB0.out.blk B1.out) 4).trans rfl; have cr0 : w1.cell? ⟨gr, at_, none⟩ = some v0 := (blk_cell (blk_below TB0.out.rblk B1.out) at_).trans (by rw [List.getElem?_toArray]; exact V0.out); have fr0 := blk_frozen (blk_below TB0.out.rblk B1.out) at_)) | ((with_reducible refine gate_store (t := 30) (p := 23) (v := .tmp 22) rfl ?_); go_must (refine store_event (t := 30) (p := 23) (v := .tmp 22) (w1 := (w1.setCell ⟨gr, at_, none⟩ (.slice (some ⟨gn, 0, none⟩) n n))) ?hg ?ho ?hn ?hr ?_; (case ho => rfl); (case hg => rfl); (case hn => rfl); (case hr => first | (go_simp; done) | (go_simp; rfl)); intro w2 hw; have FS2 := Aside0.mk (TB.start TB0.out HG.out N1.out B1.out hw rfl); clear hw c4 cr0 fr0 N1)) | ((with_reducible refine gate_dst (N := 5) rfl ?_); go_must (refine box_event ?hg (N := 5) ?hd (cs := #[.slice none 0 0]) (t := 30) ?hr ?_; (case hd => rfl); (case hg => rfl); (case hr => first | (go_simp; done) | (go_simp; rfl)); intro g5 hg5 w3 hbox hb; have K5 := Aside0.mk hbox; have FS3 := Aside0.mk (FS.below FS2.out hb); have G5 := Aside0.mk (show w.heap.size ≤ g5 ∧ gn ≠ g5 from ⟨by rw [hg5]; exact FS2.out.keep.1, by have := blk_lt FS2.out.nw; omega⟩); clear hb hbox hg5 FS2)) | ((with_reducible refine gate_dst (N := 6) rfl ?_); go_must (refine box_event ?hg (N := 6) ?hd (cs := #[.slice none 0 0]) (t := 30) ?hr ?_; (case hd => rfl); (case hg => rfl); (case hr => first | (go_simp; done) | (go_simp; rfl)); intro g6 hg6 w4 hbox hb; have K6 := Aside0.mk hbox; have K54 := Aside0.mk (blk_below K5.out hb); have FS4 := Aside0.mk (FS.below FS3.out hb); have G6 := Aside0.mk (show w.heap.size ≤ g6 ∧ gn ≠ g6 ∧ g5 ≠ g6 from ⟨by rw [hg6]; exact FS3.out.keep.1, by have := blk_lt FS3.out.nw; omega, by have := blk_lt K5.out; omega⟩); clear hb hbox hg6 FS3 K5; have c0 : w4.cell? ⟨g, 0, none⟩ = some (.slice (some ad) f.length cf) := (blk_cell (TB0.out.blk' FS4.out) 0).trans rfl; obtain ⟨ad', eA', hx0, hx1⟩ := at_T51 (Kd.C_below TB0.out.fC FS4.out.bel) (at_ : Int) (by omega) (by have := HAT.out; omega); obtain rfl := (Option.some.inj eA'); rw [HF0.out, Int.toNat_natCast] at hx0; clear hx1 eA')) | (go_at_call 46; go_must (refine (polish_Parts.calls 8 2 0 _ (TB0.out.gl.below FS4.out.bel) HP2.out).mono ?_; rintro e w5 ⟨rfl, m5, hm5⟩; have FS5 := Aside0.mk (show FS wB w w5 gr gn at_ n vals (List.replicate n false) from by rw [hm5]; exact FS4.out.drewN m5); have K55 := Aside0.mk (show w5.heap[g5]? = some (.cells #[.slice none 0 0] 30 (0, 0)) from by rw [hm5]; exact K54.out); have K65 := Aside0.mk (show w5.heap[g6]? = some (.cells #[.slice none 0 0] 30 (0, 0)) from by rw [hm5]; exact K6.out); clear hm5 c0 hx0 FS4 K54 K6; have c45 : w5.cell? ⟨g, 4, none⟩ = some (.slice (some ⟨gr, 0, none⟩) f.length cr) := (blk_cell (TB0.out.blk' FS5.out) 4).trans rfl; have ca5 : w5.cell? ⟨gr, at_ + 1, none⟩ = some (.slice (some ⟨gwa, 0, none⟩) n ca) := FS5.out.cellv (by omega) VA.out; have k55 : w5.cell? ⟨g5, 0, none⟩ = some (.slice none 0 0) := (blk_cell K55.out 0).trans rfl; have f55 := blk_frozen K55.out 0)) | ((with_reducible refine gate_store (t := 30) (p := 5) (v := .tmp 45) rfl ?_); go_must (refine store_event (t := 30) (p := 5) (v := .tmp 45) (w1 := (w5.setCell ⟨g5, 0, none⟩ (.slice (some ⟨gwa, 0, none⟩) n ca))) ?hg ?ho ?hn ?hr ?_; (case ho => rfl); (case hg => rfl); (case hn => rfl); (case hr => first | (go_simp; done) | (go_simp; rfl)); intro w5b hw; have FSb := Aside0.mk (show FS wB w w5b gr gn at_ n vals (List.replicate n false) from by rw [hw]; exact FS5.out.far (p := ⟨g5, 0, none⟩) G5.out.1 G5.out.2 TB0.out.sizes.1 TB0.out.sizes.2.1 _); have Kb5 := Aside0.mk (show w5b.heap[g5]? = some (.cells #[.slice (some ⟨gwa, 0, none⟩) n ca] 30 (0, 0)) from by rw [hw]; exact blk_put K55.out 0 _ rfl); have Kb6 := Aside0.mk (show w5b.heap[g6]? = some (.cells #[.slice none 0 0] 30 (0, 0)) from by rw [hw]; exact blk_far (p := ⟨g5, 0, none⟩) K65.out (fun e => G6.out.2.2 e.symm) _); clear hw c45 ca5 k55 f55 FS5 K55 K65; have c4b : w5b.cell? ⟨g, 4, none⟩ = some (.slice (some ⟨gr, 0, none⟩) f.length cr) := (blk_cell (TB0.out.blk' FSb.out) 4).trans rfl; have c1b : w5b.cell? ⟨g, 1, none⟩ = some (.slice (some ade) es.length ce) := (blk_cell (TB0.out.blk' FSb.out) 1).trans rfl; obtain ⟨ade', eE', heb⟩ := Kd.at_int (Kd.C_below TB0.out.eC FSb.out.bel) ((at_ + 1 : Nat) : Int) (by omega) (by have := HE1.out; omega); obtain rfl := (Option.some.inj eE'); rw [HE2.out, Int.toNat_natCast, show ade.add (at_ + 1) = (⟨ade.block, ade.off + (at_ + 1), none⟩ : Addr) from by simp [Addr.add]] at heb; clear eE'; have cb5 : w5b.cell? ⟨gr, at_ + 1 + p, none⟩ = some (.slice (some ⟨gwb, 0, none⟩) n cb) := FSb.out.cellv (by omega) VB.out; have k6b : w5b.cell? ⟨g6, 0, none⟩ = some (.slice none 0 0) := (blk_cell Kb6.out 0).trans rfl; have f6b := blk_frozen Kb6.out 0)))
  go_region
  generalize hq : World.drew _ = w5c
  have FS5 := Aside0.mk (show FS wB w w5c gr gn at_ n vals (List.replicate n false) from by rw [← hq]; exact (FSb.out.far (p := ⟨g6, 0, none⟩) G6.out.1 G6.out.2.1 TB0.out.sizes.1 TB0.out.sizes.2.1 _).drew)
  have K55 := Aside0.mk (show w5c.heap[g5]? = some (.cells #[.slice (some ⟨gwa, 0, none⟩) n ca] 30 (0, 0)) from by rw [← hq]; exact blk_far (p := ⟨g6, 0, none⟩) Kb5.out G6.out.2.2 _)
  have K65 := Aside0.mk (show w5c.heap[g6]? = some (.cells #[.slice (some ⟨gwb, 0, none⟩) n cb] 30 (0, 0)) from by rw [← hq]; exact blk_put Kb6.out 0 _ rfl)
  clear hq c4b c1b heb cb5 k6b f6b FSb Kb5 Kb6
  have c05 : w5c.cell? ⟨g, 0, none⟩ = some (.slice (some ad) f.length cf) := (blk_cell (TB0.out.blk' FS5.out) 0).trans rfl; obtain ⟨ad', eA', hx0, hx1⟩ := at_T51 (Kd.C_below TB0.out.fC FS5.out.bel) (at_ : Int) (by omega) (by have := HAT.out; omega); obtain rfl := (Option.some.inj eA'); rw [HF0.out, Int.toNat_natCast] at hx0; rw [HF1.out, Int.toNat_natCast] at hx1; clear eA'
  go_wp2_with (first | ((with_reducible refine gate_dst (N := 9) rfl ?_); go_must (refine box_event ?hg (N := 9) ?hd (cs := #[.int .i64 0, .int .i64 0]) (t := 51) ?hr ?_; (case hd => rfl); (case hg => rfl); (case hr => first | (go_simp; done) | (go_simp; rfl)); intro g9 hg9 w6 hbox hb; have K9 := Aside0.mk hbox; have FS6 := Aside0.mk (FS.below FS5.out hb); have K56 := Aside0.mk (blk_below K55.out hb); have K66 := Aside0.mk (blk_below K65.out hb); have G9 := Aside0.mk (show w.heap.size ≤ g9 ∧ gn ≠ g9 ∧ g5 ≠ g9 ∧ g6 ≠ g9 from ⟨by rw [hg9]; exact FS5.out.keep.1, by have := blk_lt FS5.out.nw; omega, by have := blk_lt K55.out; omega, by have := blk_lt K65.out; omega⟩); clear hb hbox hg9 FS5 K55 K65 c05 hx0 hx1; have k9a : w6.cell? ⟨g9, 0, none⟩ = some (.int .i64 0) := (blk_cell K9.out 0).trans rfl; have k9b : w6.cell? ⟨g9, 1, none⟩ = some (.int .i64 0) := (blk_cell K9.out 1).trans rfl; have f9a := blk_frozen K9.out 0; have f9b := blk_frozen K9.out 1)) | ((with_reducible refine gate_store (t := 51) (p := 9) (v := .tmp 68) rfl ?_); go_must (refine store_event (t := 51) (p := 9) (v := .tmp 68) (w1 := ((w6.setCell ⟨g9, 0, none⟩ (.int .i64 8)).setCell ⟨g9, 1, none⟩ (.int .i64 vl))) ?hg ?ho ?hn ?hr ?_; (case ho => rfl); (case hg => rfl); (case hn => rfl); (case hr => first | (go_simp; done) | (go_simp; rfl)); intro w7 hw; have K97 := Aside0.mk (show w7.heap[g9]? = some (.cells #[.int .i64 8, .int .i64 vl] 51 (0, 0)) from by rw [hw]; exact blk_put (blk_put K9.out 0 _ rfl) 1 _ rfl); have FS7 := Aside0.mk (show FS wB w w7 gr gn at_ n vals (List.replicate n false) from by rw [hw]; exact (FS6.out.far (p := ⟨g9, 0, none⟩) G9.out.1 G9.out.2.1 TB0.out.sizes.1 TB0.out.sizes.2.1 _).far (p := ⟨g9, 1, none⟩) G9.out.1 G9.out.2.1 TB0.out.sizes.1 TB0.out.sizes.2.1 _); have K57 := Aside0.mk (show w7.heap[g5]? = some (.cells #[.slice (some ⟨gwa, 0, none⟩) n ca] 30 (0, 0)) from by rw [hw]; exact blk_far (p := ⟨g9, 1, none⟩) (blk_far (p := ⟨g9, 0, none⟩) K56.out G9.out.2.2.1 _) G9.out.2.2.1 _); have K67 := Aside0.mk (show w7.heap[g6]? = some (.cells #[.slice (some ⟨gwb, 0, none⟩) n cb] 30 (0, 0)) from by rw [hw]; exact blk_far (p := ⟨g9, 1, none⟩) (blk_far (p := ⟨g9, 0, none⟩) K66.out G9.out.2.2.2 _) G9.out.2.2.2 _); clear hw K9 FS6 K56 K66 k9a k9b f9a f9b; have k70 : w7.cell? ⟨g9, 0, none⟩ = some (.int .i64 8) := (blk_cell K97.out 0).trans rfl)))
  have S7 := Aside0.mk (show SW w7 w7 gn (mkr (fun i => rdOf false a i && rdOf false b i) 0 ++ List.replicate (n - 0) false) from ⟨FS7.out.nw, KeepBut.refl _ _ _, Below.refl _ _⟩)
  go_loopg [73] n (fun kq v73 wr => ∃ j : Nat, v73 = .int .i64 j ∧ j + kq = n ∧ Aside0 (SW w7 wr gn (mkr (fun i => rdOf false a i && rdOf false b i) j ++ List.replicate (n - j) false)))
  case atStart => exact ⟨0, rfl, by omega, S7⟩
  case round =>
    obtain ⟨j, rfl, hj, hA⟩ := hrel
    by_cases hlt : j < n
    · have b1 : decide ((j : Int) < (n : Int)) = true := decide_eq_true (by omega)
      have b2 : ((j : Int) < (n : Int)) = True := eq_true (by omega)
      have b3 : wrap64 ((j : Int) + 1) = (j : Int) + 1 := by have := HN.out; unfold wrap64; omega
      have cell := hA.out.row.cell (j : Int) (by omega) (by simp [mkr_len]; omega)
      have fz := blk_frozen hA.out.row j
      rw [Int.toNat_natCast] at cell
      have k0 : wr.cell? ⟨g9, 0, none⟩ = some (.int .i64 8) := hA.out.cell ((blk_cell K97.out 0).trans rfl) (fun e => G9.out.2.1 e.symm)
      have k5 : wr.cell? ⟨g5, 0, none⟩ = some (.slice (some ⟨gwa, 0, none⟩) n ca) := hA.out.cell ((blk_cell K57.out 0).trans rfl) (fun e => G5.out.2 e.symm)
      have fs := FS7.out.sw hA.out TB0.out.sizes.1 TB0.out.sizes.2.1
      have ba := (fs.bb TB0.out BA.out).1
      have k6 : wr.cell? ⟨g6, 0, none⟩ = some (.slice (some ⟨gwb, 0, none⟩) n cb) := hA.out.cell ((blk_cell K67.out 0).trans rfl) (fun e => G6.out.2.1 e.symm)
      have bb := (fs.bb TB0.out BBb.out).1
      have cj := ba.cell (j : Int) (by omega) (by have := LA.out; omega)
      rw [Int.toNat_natCast] at cj
      obtain ⟨x, hx⟩ : ∃ x, rdOf false a (j : Int) = x := ⟨_, rfl⟩
      rw [hx] at cj
      have HXX := Aside0.mk hx
      clear hx
      have dj := bb.cell (j : Int) (by omega) (by have := LB.out; omega)
      rw [Int.toNat_natCast] at dj
      obtain ⟨y, hy⟩ : ∃ y, rdOf false b (j : Int) = y := ⟨_, rfl⟩
      rw [hy] at dj
      have HYY := Aside0.mk hy
      clear hy
      clear fs ba bb
      have HJ := Aside0.mk hj
      have HT := Aside0.mk hlt
      clear hj hlt
      cases x <;> cases y
      all_goals go_wp2
      all_goals go_roundg (n - (j + 1))
      case measure | measure | measure | measure => have := HJ.out; have := HT.out; omega
      case rel | rel | rel | rel =>
        refine ⟨j + 1, by simp; exact b3, by have := HT.out; have := HJ.out; omega, ⟨?_⟩⟩
        rw [← mkr_set _ HT.out]
        have q := hA.out.put (j : Int) (rdOf false a (j : Int) && rdOf false b (j : Int))
        rw [Int.toNat_natCast] at q
        rw [HXX.out, HYY.out] at q
        show SW w7 _ gn (List.set _ j (rdOf false a (j : Int) && rdOf false b (j : Int)))
        rw [HXX.out, HYY.out]
        exact q
    · have b1 : decide ((j : Int) < (n : Int)) = false := decide_eq_false (by omega)
      have b2 : ((j : Int) < (n : Int)) = False := eq_false (by omega)
      obtain rfl : j = n := by omega
      have HE := Aside0.mk (show SW w7 wr gn (mkr (fun i => rdOf false a i && rdOf false b i) j) from by have q := hA.out; rw [Nat.sub_self, List.replicate_zero, List.append_nil] at q; exact q)
      clear hA hlt hj
      go_wp2
      go_end0
      exact ⟨rfl, _, TB0.out.done (FS7.out.sw HE.out TB0.out.sizes.1 TB0.out.sizes.2.1) (mkr_len _ _)⟩
set_option maxHeartbeats 16000000 in
set_option maxRecDepth 100000 in
theorem word_fill9.calls (wB w : World) (g gr : Nat) (Af Ae Al : Option Addr) (cf ce cl cr n : Nat) (f : List S51) (es : List Int) (rs : List VV) (xs : List (List Bool)) (back : Int) (at_ : Nat) (vals : List Value) (rows : List (List Bool)) (vl : Int) (a b : List Bool) (p : Nat)
    (h : TB wB w g gr Af Ae Al cf ce cl cr n f es rs xs back (at_ + 1) vals rows) (hn0 : 1 ≤ n) (hn1 : n ≤ 100) (hb0 : 0 ≤ back) (hb1 : back < (n : Int)) (hlx : xs.length = n) (ho : f[at_]? = some ⟨9, vl⟩) (hf1 : f.length ≤ 1000) (ha : rows[0]? = some a) (he : es[at_ + 1]? = some ((at_ + 1 + p : Nat) : Int)) (hb : rows[p]? = some b) :
    Calls Tryd.prog 45 #[.pointer (some ⟨g, 0, none⟩), .int .i64 at_] w fun e w' => e = .returned (.tuple #[]) ∧ ∃ vals', TB wB w' g gr Af Ae Al cf ce cl cr n f es rs xs back at_ vals' (mkr (fun i => rdOf false a i || rdOf false b i) n :: rows) := by
  have info4 := (by kernel_rfl : (Tryd.prog.info? 4).map (fun i => (i.zero, i.size, i.bytes)) = some (some (.bool false), 1, 1))
  have hmf : ∀ (fn : Fn) (first cap : Array Value) (w : World), (Instr.makeFunc fn first cap).run Tryd.prog w = .ok (.func fn first cap) w := fun _ _ _ _ => rfl
  have HAT := Aside0.mk (List.getElem?_eq_some_iff.1 ho).1
  have TB0 := Aside0.mk h
  have HN := Aside0.mk (And.intro hn0 hn1)
  have HB := Aside0.mk (And.intro hb0 hb1)
  have HO := Aside0.mk ho
  have HF := Aside0.mk hf1
  obtain ⟨gwa, ca, hva, hba, hla⟩ := h.row 0 a ha
  have VA := Aside0.mk hva
  have BA := Aside0.mk hba
  have LA := Aside0.mk hla
  have HA0 := Aside0.mk (List.getElem?_eq_some_iff.1 ha).1
  have RL := Aside0.mk h.rlen
  obtain ⟨gwb, cb, hvb, hbb, hlb⟩ := h.row p b hb
  have VB := Aside0.mk hvb
  have BBb := Aside0.mk hbb
  have LB := Aside0.mk hlb
  have HE1 := Aside0.mk (List.getElem?_eq_some_iff.1 he).1
  have HE2 := Aside0.mk (show rd es ((at_ + 1 : Nat) : Int) = ((at_ + 1 + p : Nat) : Int) from by simp [rd, he])
  have HPB := Aside0.mk (List.getElem?_eq_some_iff.1 hb).1
  have r4 : ((at_ : Int) + 1 < (es.length : Int)) = True := eq_true (by have := HE1.out; omega)
  have r5 : ((at_ : Int) + 1 + (p : Int) < (f.length : Int)) = True := eq_true (by have := RL.out; have := HPB.out; omega)
  have r6 : (0 ≤ (at_ : Int) + 1 + (p : Int)) = True := eq_true (by omega)
  clear hvb hbb hlb he hb
  have r1 : wrap64 ((at_ : Int) + 1) = ((at_ + 1 : Nat) : Int) := by have := HAT.out; have := HF.out; unfold wrap64; omega
  have r2 : ((at_ : Int) + 1 < (f.length : Int)) = True := eq_true (by have := RL.out; have := HA0.out; omega)
  have r3 : (0 ≤ (at_ : Int) + 1) = True := eq_true (by omega)
  clear hva hba hla ha
  have HX := Aside0.mk hlx
  have c2 : w.cell? ⟨g, 2, none⟩ = some (.slice Al n cl) := (blk_cell h.blk 2).trans rfl
  have q0 : (0 ≤ (at_ : Int)) = True := eq_true (by omega)
  have q1 : ((at_ : Int) < (f.length : Int)) = True := eq_true (by have := HAT.out; omega)
  clear h hn0 hn1 hb0 hb1 ho hf1 hlx
  obtain ⟨v0, hv0⟩ : ∃ v0, vals[at_]? = some v0 := ⟨_, List.getElem?_eq_getElem (Nat.lt_of_lt_of_le HAT.out TB0.out.vlen)⟩
  have V0 := Aside0.mk hv0
  clear hv0
  obtain ⟨ad, eA, hx0, hx1⟩ := at_T51 (Kd.C_below TB0.out.fC TB0.out.bel) (at_ : Int) (by omega) (by have := HAT.out; omega)
  have eo : rd_T51 f (at_ : Int) = ⟨9, vl⟩ := by simp [rd_T51, HO.out]
  have HF0 := Aside0.mk (show (rd_T51 f (at_ : Int)).f0 = 9 from by rw [eo])
  have HF1 := Aside0.mk (show (rd_T51 f (at_ : Int)).f1 = vl from by rw [eo])
  have HP2 := Aside0.mk (show polish_Parts.f 9 = some (2, 0) from by decide)
  subst eA
  clear eo hx0 hx1
  obtain ⟨ade, eE, hee⟩ := Kd.at_int (Kd.C_below TB0.out.eC TB0.out.bel) ((at_ + 1 : Nat) : Int) (by omega) (by have := HE1.out; omega)
  subst eE
  clear hee
  go_enter Tryd.func45, Tryd.ntmps45
  go_wp2_with (first | ((with_reducible refine gate_dst (N := 16) rfl ?_); go_must (refine make_event rfl (N := 16) rfl 30 4 (.tmp 15) (.tmp 15) rfl n rfl rfl Tryd.underlying30 (.bool false) 1 info4 rfl (by have := HN.out.2; omega) (by have := HN.out.2; omega) ?_; intro gn hg w1 hb1 hbel; have N1 := Aside0.mk (show BB w1 gn (List.replicate n false) from by unfold BB; rw [hb1, List.map_replicate]); have B1 := Aside0.mk hbel; have HG := Aside0.mk hg; clear hb1 hbel hg c2; have c4 : w1.cell? ⟨g, 4, none⟩ = some (.slice (some ⟨gr, 0, none⟩) f.length cr) := (blk_cell (blk_below TB0.out.blk B1.out) 4).trans rfl; have cr0 : w1.cell? ⟨gr, at_, none⟩ = some v0 := (blk_cell (blk_below TB0.out.rblk B1.out) at_).trans (by rw [List.getElem?_toArray]; exact V0.out); have fr0 := blk_frozen (blk_below TB0.out.rblk B1.out) at_)) | ((with_reducible refine gate_store (t := 30) (p := 23) (v := .tmp 22) rfl ?_); go_must (refine store_event (t := 30) (p := 23) (v := .tmp 22) (w1 := (w1.setCell ⟨gr, at_, none⟩ (.slice (some ⟨gn, 0, none⟩) n n))) ?hg ?ho ?hn ?hr ?_; (case ho => rfl); (case hg => rfl); (case hn => rfl); (case hr => first | (go_simp; done) | (go_simp; rfl)); intro w2 hw; have FS2 := Aside0.mk (TB.start TB0.out HG.out N1.out B1.out hw rfl); clear hw c4 cr0 fr0 N1)) | ((with_reducible refine gate_dst (N := 5) rfl ?_); go_must (refine box_event ?hg (N := 5) ?hd (cs := #[.slice none 0 0]) (t := 30) ?hr ?_; (case hd => rfl); (case hg => rfl); (case hr => first | (go_simp; done) | (go_simp; rfl)); intro g5 hg5 w3 hbox hb; have K5 := Aside0.mk hbox; have FS3 := Aside0.mk (FS.below FS2.out hb); have G5 := Aside0.mk (show w.heap.size ≤ g5 ∧ gn ≠ g5 from ⟨by rw [hg5]; exact FS2.out.keep.1, by have := blk_lt FS2.out.nw; omega⟩); clear hb hbox hg5 FS2)) | ((with_reducible refine gate_dst (N := 6) rfl ?_); go_must (refine box_event ?hg (N := 6) ?hd (cs := #[.slice none 0 0]) (t := 30) ?hr ?_; (case hd => rfl); (case hg => rfl); (case hr => first | (go_simp; done) | (go_simp; rfl)); intro g6 hg6 w4 hbox hb; have K6 := Aside0.mk hbox; have K54 := Aside0.mk (blk_below K5.out hb); have FS4 := Aside0.mk (FS.below FS3.out hb); have G6 := Aside0.mk (show w.heap.size ≤ g6 ∧ gn ≠ g6 ∧ g5 ≠ g6 from ⟨by rw [hg6]; exact FS3.out.keep.1, by have := blk_lt FS3.out.nw; omega, by have := blk_lt K5.out; omega⟩); clear hb hbox hg6 FS3 K5; have c0 : w4.cell? ⟨g, 0, none⟩ = some (.slice (some ad) f.length cf) := (blk_cell (TB0.out.blk' FS4.out) 0).trans rfl; obtain ⟨ad', eA', hx0, hx1⟩ := at_T51 (Kd.C_below TB0.out.fC FS4.out.bel) (at_ : Int) (by omega) (by have := HAT.out; omega); obtain rfl := (Option.some.inj eA'); rw [HF0.out, Int.toNat_natCast] at hx0; clear hx1 eA')) | (go_at_call 46; go_must (refine (polish_Parts.calls 9 2 0 _ (TB0.out.gl.below FS4.out.bel) HP2.out).mono ?_; rintro e w5 ⟨rfl, m5, hm5⟩; have FS5 := Aside0.mk (show FS wB w w5 gr gn at_ n vals (List.replicate n false) from by rw [hm5]; exact FS4.out.drewN m5); have K55 := Aside0.mk (show w5.heap[g5]? = some (.cells #[.slice none 0 0] 30 (0, 0)) from by rw [hm5]; exact K54.out); have K65 := Aside0.mk (show w5.heap[g6]? = some (.cells #[.slice none 0 0] 30 (0, 0)) from by rw [hm5]; exact K6.out); clear hm5 c0 hx0 FS4 K54 K6; have c45 : w5.cell? ⟨g, 4, none⟩ = some (.slice (some ⟨gr, 0, none⟩) f.length cr) := (blk_cell (TB0.out.blk' FS5.out) 4).trans rfl; have ca5 : w5.cell? ⟨gr, at_ + 1, none⟩ = some (.slice (some ⟨gwa, 0, none⟩) n ca) := FS5.out.cellv (by omega) VA.out; have k55 : w5.cell? ⟨g5, 0, none⟩ = some (.slice none 0 0) := (blk_cell K55.out 0).trans rfl; have f55 := blk_frozen K55.out 0)) | ((with_reducible refine gate_store (t := 30) (p := 5) (v := .tmp 45) rfl ?_); go_must (refine store_event (t := 30) (p := 5) (v := .tmp 45) (w1 := (w5.setCell ⟨g5, 0, none⟩ (.slice (some ⟨gwa, 0, none⟩) n ca))) ?hg ?ho ?hn ?hr ?_; (case ho => rfl); (case hg => rfl); (case hn => rfl); (case hr => first | (go_simp; done) | (go_simp; rfl)); intro w5b hw; have FSb := Aside0.mk (show FS wB w w5b gr gn at_ n vals (List.replicate n false) from by rw [hw]; exact FS5.out.far (p := ⟨g5, 0, none⟩) G5.out.1 G5.out.2 TB0.out.sizes.1 TB0.out.sizes.2.1 _); have Kb5 := Aside0.mk (show w5b.heap[g5]? = some (.cells #[.slice (some ⟨gwa, 0, none⟩) n ca] 30 (0, 0)) from by rw [hw]; exact blk_put K55.out 0 _ rfl); have Kb6 := Aside0.mk (show w5b.heap[g6]? = some (.cells #[.slice none 0 0] 30 (0, 0)) from by rw [hw]; exact blk_far (p := ⟨g5, 0, none⟩) K65.out (fun e => G6.out.2.2 e.symm) _); clear hw c45 ca5 k55 f55 FS5 K55 K65; have c4b : w5b.cell? ⟨g, 4, none⟩ = some (.slice (some ⟨gr, 0, none⟩) f.length cr) := (blk_cell (TB0.out.blk' FSb.out) 4).trans rfl; have c1b : w5b.cell? ⟨g, 1, none⟩ = some (.slice (some ade) es.length ce) := (blk_cell (TB0.out.blk' FSb.out) 1).trans rfl; obtain ⟨ade', eE', heb⟩ := Kd.at_int (Kd.C_below TB0.out.eC FSb.out.bel) ((at_ + 1 : Nat) : Int) (by omega) (by have := HE1.out; omega); obtain rfl := (Option.some.inj eE'); rw [HE2.out, Int.toNat_natCast, show ade.add (at_ + 1) = (⟨ade.block, ade.off + (at_ + 1), none⟩ : Addr) from by simp [Addr.add]] at heb; clear eE'; have cb5 : w5b.cell? ⟨gr, at_ + 1 + p, none⟩ = some (.slice (some ⟨gwb, 0, none⟩) n cb) := FSb.out.cellv (by omega) VB.out; have k6b : w5b.cell? ⟨g6, 0, none⟩ = some (.slice none 0 0) := (blk_cell Kb6.out 0).trans rfl; have f6b := blk_frozen Kb6.out 0)))
  go_region
  generalize hq : World.drew _ = w5c
  have FS5 := Aside0.mk (show FS wB w w5c gr gn at_ n vals (List.replicate n false) from by rw [← hq]; exact (FSb.out.far (p := ⟨g6, 0, none⟩) G6.out.1 G6.out.2.1 TB0.out.sizes.1 TB0.out.sizes.2.1 _).drew)
  have K55 := Aside0.mk (show w5c.heap[g5]? = some (.cells #[.slice (some ⟨gwa, 0, none⟩) n ca] 30 (0, 0)) from by rw [← hq]; exact blk_far (p := ⟨g6, 0, none⟩) Kb5.out G6.out.2.2 _)
  have K65 := Aside0.mk (show w5c.heap[g6]? = some (.cells #[.slice (some ⟨gwb, 0, none⟩) n cb] 30 (0, 0)) from by rw [← hq]; exact blk_put Kb6.out 0 _ rfl)
  clear hq c4b c1b heb cb5 k6b f6b FSb Kb5 Kb6
  have c05 : w5c.cell? ⟨g, 0, none⟩ = some (.slice (some ad) f.length cf) := (blk_cell (TB0.out.blk' FS5.out) 0).trans rfl; obtain ⟨ad', eA', hx0, hx1⟩ := at_T51 (Kd.C_below TB0.out.fC FS5.out.bel) (at_ : Int) (by omega) (by have := HAT.out; omega); obtain rfl := (Option.some.inj eA'); rw [HF0.out, Int.toNat_natCast] at hx0; rw [HF1.out, Int.toNat_natCast] at hx1; clear eA'
  go_wp2_with (first | ((with_reducible refine gate_dst (N := 9) rfl ?_); go_must (refine box_event ?hg (N := 9) ?hd (cs := #[.int .i64 0, .int .i64 0]) (t := 51) ?hr ?_; (case hd => rfl); (case hg => rfl); (case hr => first | (go_simp; done) | (go_simp; rfl)); intro g9 hg9 w6 hbox hb; have K9 := Aside0.mk hbox; have FS6 := Aside0.mk (FS.below FS5.out hb); have K56 := Aside0.mk (blk_below K55.out hb); have K66 := Aside0.mk (blk_below K65.out hb); have G9 := Aside0.mk (show w.heap.size ≤ g9 ∧ gn ≠ g9 ∧ g5 ≠ g9 ∧ g6 ≠ g9 from ⟨by rw [hg9]; exact FS5.out.keep.1, by have := blk_lt FS5.out.nw; omega, by have := blk_lt K55.out; omega, by have := blk_lt K65.out; omega⟩); clear hb hbox hg9 FS5 K55 K65 c05 hx0 hx1; have k9a : w6.cell? ⟨g9, 0, none⟩ = some (.int .i64 0) := (blk_cell K9.out 0).trans rfl; have k9b : w6.cell? ⟨g9, 1, none⟩ = some (.int .i64 0) := (blk_cell K9.out 1).trans rfl; have f9a := blk_frozen K9.out 0; have f9b := blk_frozen K9.out 1)) | ((with_reducible refine gate_store (t := 51) (p := 9) (v := .tmp 68) rfl ?_); go_must (refine store_event (t := 51) (p := 9) (v := .tmp 68) (w1 := ((w6.setCell ⟨g9, 0, none⟩ (.int .i64 9)).setCell ⟨g9, 1, none⟩ (.int .i64 vl))) ?hg ?ho ?hn ?hr ?_; (case ho => rfl); (case hg => rfl); (case hn => rfl); (case hr => first | (go_simp; done) | (go_simp; rfl)); intro w7 hw; have K97 := Aside0.mk (show w7.heap[g9]? = some (.cells #[.int .i64 9, .int .i64 vl] 51 (0, 0)) from by rw [hw]; exact blk_put (blk_put K9.out 0 _ rfl) 1 _ rfl); have FS7 := Aside0.mk (show FS wB w w7 gr gn at_ n vals (List.replicate n false) from by rw [hw]; exact (FS6.out.far (p := ⟨g9, 0, none⟩) G9.out.1 G9.out.2.1 TB0.out.sizes.1 TB0.out.sizes.2.1 _).far (p := ⟨g9, 1, none⟩) G9.out.1 G9.out.2.1 TB0.out.sizes.1 TB0.out.sizes.2.1 _); have K57 := Aside0.mk (show w7.heap[g5]? = some (.cells #[.slice (some ⟨gwa, 0, none⟩) n ca] 30 (0, 0)) from by rw [hw]; exact blk_far (p := ⟨g9, 1, none⟩) (blk_far (p := ⟨g9, 0, none⟩) K56.out G9.out.2.2.1 _) G9.out.2.2.1 _); have K67 := Aside0.mk (show w7.heap[g6]? = some (.cells #[.slice (some ⟨gwb, 0, none⟩) n cb] 30 (0, 0)) from by rw [hw]; exact blk_far (p := ⟨g9, 1, none⟩) (blk_far (p := ⟨g9, 0, none⟩) K66.out G9.out.2.2.2 _) G9.out.2.2.2 _); clear hw K9 FS6 K56 K66 k9a k9b f9a f9b; have k70 : w7.cell? ⟨g9, 0, none⟩ = some (.int .i64 9) := (blk_cell K97.out 0).trans rfl)))
  have S7 := Aside0.mk (show SW w7 w7 gn (mkr (fun i => rdOf false a i || rdOf false b i) 0 ++ List.replicate (n - 0) false) from ⟨FS7.out.nw, KeepBut.refl _ _ _, Below.refl _ _⟩)
  go_loopg [73] n (fun kq v73 wr => ∃ j : Nat, v73 = .int .i64 j ∧ j + kq = n ∧ Aside0 (SW w7 wr gn (mkr (fun i => rdOf false a i || rdOf false b i) j ++ List.replicate (n - j) false)))
  case atStart => exact ⟨0, rfl, by omega, S7⟩
  case round =>
    obtain ⟨j, rfl, hj, hA⟩ := hrel
    by_cases hlt : j < n
    · have b1 : decide ((j : Int) < (n : Int)) = true := decide_eq_true (by omega)
      have b2 : ((j : Int) < (n : Int)) = True := eq_true (by omega)
      have b3 : wrap64 ((j : Int) + 1) = (j : Int) + 1 := by have := HN.out; unfold wrap64; omega
      have cell := hA.out.row.cell (j : Int) (by omega) (by simp [mkr_len]; omega)
      have fz := blk_frozen hA.out.row j
      rw [Int.toNat_natCast] at cell
      have k0 : wr.cell? ⟨g9, 0, none⟩ = some (.int .i64 9) := hA.out.cell ((blk_cell K97.out 0).trans rfl) (fun e => G9.out.2.1 e.symm)
      have k5 : wr.cell? ⟨g5, 0, none⟩ = some (.slice (some ⟨gwa, 0, none⟩) n ca) := hA.out.cell ((blk_cell K57.out 0).trans rfl) (fun e => G5.out.2 e.symm)
      have fs := FS7.out.sw hA.out TB0.out.sizes.1 TB0.out.sizes.2.1
      have ba := (fs.bb TB0.out BA.out).1
      have k6 : wr.cell? ⟨g6, 0, none⟩ = some (.slice (some ⟨gwb, 0, none⟩) n cb) := hA.out.cell ((blk_cell K67.out 0).trans rfl) (fun e => G6.out.2.1 e.symm)
      have bb := (fs.bb TB0.out BBb.out).1
      have cj := ba.cell (j : Int) (by omega) (by have := LA.out; omega)
      rw [Int.toNat_natCast] at cj
      obtain ⟨x, hx⟩ : ∃ x, rdOf false a (j : Int) = x := ⟨_, rfl⟩
      rw [hx] at cj
      have HXX := Aside0.mk hx
      clear hx
      have dj := bb.cell (j : Int) (by omega) (by have := LB.out; omega)
      rw [Int.toNat_natCast] at dj
      obtain ⟨y, hy⟩ : ∃ y, rdOf false b (j : Int) = y := ⟨_, rfl⟩
      rw [hy] at dj
      have HYY := Aside0.mk hy
      clear hy
      clear fs ba bb
      have HJ := Aside0.mk hj
      have HT := Aside0.mk hlt
      clear hj hlt
      cases x <;> cases y
      all_goals go_wp2
      all_goals go_roundg (n - (j + 1))
      case measure | measure | measure | measure => have := HJ.out; have := HT.out; omega
      case rel | rel | rel | rel =>
        refine ⟨j + 1, by simp; exact b3, by have := HT.out; have := HJ.out; omega, ⟨?_⟩⟩
        rw [← mkr_set _ HT.out]
        have q := hA.out.put (j : Int) (rdOf false a (j : Int) || rdOf false b (j : Int))
        rw [Int.toNat_natCast] at q
        rw [HXX.out, HYY.out] at q
        show SW w7 _ gn (List.set _ j (rdOf false a (j : Int) || rdOf false b (j : Int)))
        rw [HXX.out, HYY.out]
        exact q
    · have b1 : decide ((j : Int) < (n : Int)) = false := decide_eq_false (by omega)
      have b2 : ((j : Int) < (n : Int)) = False := eq_false (by omega)
      obtain rfl : j = n := by omega
      have HE := Aside0.mk (show SW w7 wr gn (mkr (fun i => rdOf false a i || rdOf false b i) j) from by have q := hA.out; rw [Nat.sub_self, List.replicate_zero, List.append_nil] at q; exact q)
      clear hA hlt hj
      go_wp2
      go_end0
      exact ⟨rfl, _, TB0.out.done (FS7.out.sw HE.out TB0.out.sizes.1 TB0.out.sizes.2.1) (mkr_len _ _)⟩

end Go.Proofs.YtcoaeefmmnohkaaDoor.P
end
