-- PACKED by pack.py of this repo: FOpen
import Derived.WalkSpells
import Derived.StillTailTactics
import Derived.Deep.RegionHeld3
import Derived.Deep.DeepCutAuto
import Derived.Test.YtcoaeefmmnohkaaDoorM2
import Derived.Test.YtcoaeefmmnohkaaDoorM9
import Derived.Test.YtcoaeefmmnohkaaDoorM5
import Derived.Test.YtcoaeefmmnohkaaDoorM11
import Derived.Test.YtcoaeefmmnohkaaDoorM12
section
namespace Go.Proofs.YtcoaeefmmnohkaaDoor.P
open Go.RowKit Go.Proofs.YtcoaeefmmnohkaaDoorW.PrintWords Go.Proofs.YtcoaeefmmnohkaaDoorW.PrintLast Go.Proofs.YtcoaeefmmnohkaaDoorW.PrintMore Go.Proofs.YtcoaeefmmnohkaaDoor.G
attribute [local go_sem] max2_int min2_int max_two min_two max_three min_three max_four min_four   -- for this text's walks alone
set_option linter.unusedVariables false
set_option linter.unusedSimpArgs false

--IMPORT FWordFillA
--IMPORT FWordFillB
--IMPORT FWordFillC
--IMPORT FLogicCheck
--IMPORT FPolishEnds
--IMPORT Derived.WalkSpells
--IMPORT Derived.StillTailTactics
--IMPORT Derived.Deep.RegionHeld3
--IMPORT Derived.Deep.DeepCutAuto
/-! ### word_open: function 35 -/
/-- The row of the op at a place. -/
def word_row (k : Nat) (o : S51) (es : List Int) (xs : List (List Bool)) (back : Int) (at_ : Nat) (rows : List (List Bool)) : Option (List Bool) :=
  if o.f0 = 13 ∨ o.f0 = 11 ∨ o.f0 = 12 then row0 xs xs.length o.f0 o.f1
  else (rows[0]?).bind fun a => if o.f0 = 17 ∨ o.f0 = 18 ∨ o.f0 = 10 ∨ o.f0 = 14 then row1 xs.length back a k o.f0
    else (es[at_ + 1]?).bind fun e => if (at_ : Int) + 1 ≤ e then (rows[(e - ((at_ : Int) + 1)).toNat]?).bind fun b => row2 xs.length back a b k o.f0 else none
def word_rows (k : Nat) (ops : List S51) (es : List Int) (xs : List (List Bool)) (back : Int) : Nat → List (List Bool) → Option (List (List Bool))
  | 0, rows => some rows
  | i + 1, rows => (word_row k (rd_T51 ops (i : Int)) es xs back i rows).bind fun r => word_rows k ops es xs back i (r :: rows)
/-- What word.open makes: the rows, or what is wrong. -/
def word_opn (k : Nat) (ops : List S51) (stem loop : List (List Bool)) (props : Int) : Option (List (List Bool) × Int) :=
  (logic_Check.f k ops props).bind fun e => if e = 0 then (if word_chk stem loop props = 0 then (polish_Ends.f k ops).bind fun es => if 0 < ops.length ∧ ops.length ≤ 1000 ∧ 0 < es.1.length then (word_rows k ops es.1 (stem ++ loop) (stem.length : Int) ops.length []).bind fun rows => some (rows, 0) else none else some ([], word_chk stem loop props)) else some ([], e)
theorem word_fill.calls (wB w : World) (g gr : Nat) (Af Ae Al : Option Addr) (cf ce cl cr : Nat) (f : List S51) (es : List Int) (rs : List VV) (xs : List (List Bool)) (back : Int) (at_ : Nat) (vals : List Value) (rows : List (List Bool)) (k : Nat) (r : List Bool)
    (h : TB wB w g gr Af Ae Al cf ce cl cr xs.length f es rs xs back (at_ + 1) vals rows) (hn0 : 1 ≤ xs.length) (hn1 : xs.length ≤ 100) (hb0 : 0 ≤ back) (hb1 : back < (xs.length : Int)) (hf1 : f.length ≤ 1000) (hat : at_ < f.length) (hr : word_row k (rd_T51 f (at_ : Int)) es xs back at_ rows = some r) :
    Calls Tryd.prog 45 #[.pointer (some ⟨g, 0, none⟩), .int .i64 at_] w fun e w' => e = .returned (.tuple #[]) ∧ ∃ vals', TB wB w' g gr Af Ae Al cf ce cl cr xs.length f es rs xs back at_ vals' (r :: rows) := by
  obtain ⟨kd, vl, ho⟩ : ∃ kd vl, f[at_]? = some ⟨kd, vl⟩ := ⟨_, _, List.getElem?_eq_getElem hat⟩
  have eo : rd_T51 f (at_ : Int) = ⟨kd, vl⟩ := by simp [rd_T51, ho]
  rw [eo] at hr
  unfold word_row at hr
  simp only at hr
  by_cases c0 : kd = 13 ∨ kd = 11 ∨ kd = 12
  · rw [if_pos c0] at hr
    unfold row0 at hr
    by_cases c13 : kd = 13
    · rw [if_pos c13] at hr
      subst c13
      by_cases cv : 0 ≤ vl ∧ ∀ i, i < xs.length → vl < ((xs.getD i []).length : Int)
      · rw [if_pos cv] at hr
        obtain rfl := Option.some.inj hr
        exact word_fill13.calls wB w g gr Af Ae Al cf ce cl cr _ f es rs xs back at_ vals rows vl h hn0 hn1 hb0 hb1 rfl ho hf1 cv.1 cv.2
      · rw [if_neg cv] at hr
        exact absurd hr (by simp)
    rw [if_neg c13] at hr
    by_cases c11 : kd = 11
    · rw [if_pos c11] at hr
      subst c11
      obtain rfl := Option.some.inj hr
      exact word_fill11.calls wB w g gr Af Ae Al cf ce cl cr _ f es rs xs back at_ vals rows vl h hn0 hn1 hb0 hb1 rfl ho hf1
    rw [if_neg c11] at hr
    obtain rfl : kd = 12 := by omega
    rw [if_pos rfl] at hr
    obtain rfl := Option.some.inj hr
    exact word_fill12.calls wB w g gr Af Ae Al cf ce cl cr _ f es rs xs back at_ vals rows vl h hn0 hn1 hb0 hb1 rfl ho hf1
  rw [if_neg c0] at hr
  obtain ⟨a, ha, hr1⟩ := Option.bind_eq_some_iff.mp hr
  clear hr
  have hr := hr1
  clear hr1
  by_cases c1 : kd = 17 ∨ kd = 18 ∨ kd = 10 ∨ kd = 14
  · rw [if_pos c1] at hr
    unfold row1 at hr
    by_cases c17 : kd = 17
    · rw [if_pos c17] at hr
      subst c17
      exact word_fill17.calls wB w g gr Af Ae Al cf ce cl cr _ f es rs xs back at_ vals rows vl a k r h hn0 hn1 hb0 hb1 rfl ho hf1 ha hr
    rw [if_neg c17] at hr
    by_cases c18 : kd = 18
    · rw [if_pos c18] at hr
      subst c18
      exact word_fill18.calls wB w g gr Af Ae Al cf ce cl cr _ f es rs xs back at_ vals rows vl a k r h hn0 hn1 hb0 hb1 rfl ho hf1 ha hr
    rw [if_neg c18] at hr
    by_cases c10 : kd = 10
    · rw [if_pos c10] at hr
      subst c10
      obtain rfl := Option.some.inj hr
      exact word_fill10.calls wB w g gr Af Ae Al cf ce cl cr _ f es rs xs back at_ vals rows vl a h hn0 hn1 hb0 hb1 rfl ho hf1 ha
    rw [if_neg c10] at hr
    obtain rfl : kd = 14 := by omega
    rw [if_pos rfl] at hr
    obtain rfl := Option.some.inj hr
    exact word_fill14.calls wB w g gr Af Ae Al cf ce cl cr _ f es rs xs back at_ vals rows vl a h hn0 hn1 hb0 hb1 rfl ho hf1 ha
  rw [if_neg c1] at hr
  obtain ⟨e, he, hr1⟩ := Option.bind_eq_some_iff.mp hr
  clear hr
  have hr := hr1
  clear hr1
  by_cases ce1 : (at_ : Int) + 1 ≤ e
  · rw [if_pos ce1] at hr
    obtain ⟨b, hb, hr1⟩ := Option.bind_eq_some_iff.mp hr
    clear hr
    have hr := hr1
    clear hr1
    obtain ⟨p, hp⟩ : ∃ p : Nat, e = ((at_ + 1 + p : Nat) : Int) := ⟨(e - ((at_ : Int) + 1)).toNat, by omega⟩
    have hp' : (e - ((at_ : Int) + 1)).toNat = p := by omega
    rw [hp'] at hb
    rw [hp] at he
    unfold row2 at hr
    by_cases c15 : kd = 15
    · rw [if_pos c15] at hr
      subst c15
      exact word_fill15.calls wB w g gr Af Ae Al cf ce cl cr _ f es rs xs back at_ vals rows vl a b p k r h hn0 hn1 hb0 hb1 rfl ho hf1 ha he hb hr
    rw [if_neg c15] at hr
    by_cases c16 : kd = 16
    · rw [if_pos c16] at hr
      subst c16
      exact word_fill16.calls wB w g gr Af Ae Al cf ce cl cr _ f es rs xs back at_ vals rows vl a b p k r h hn0 hn1 hb0 hb1 rfl ho hf1 ha he hb hr
    rw [if_neg c16] at hr
    by_cases c8 : kd = 8
    · rw [if_pos c8] at hr
      subst c8
      obtain rfl := Option.some.inj hr
      exact word_fill8.calls wB w g gr Af Ae Al cf ce cl cr _ f es rs xs back at_ vals rows vl a b p h hn0 hn1 hb0 hb1 rfl ho hf1 ha he hb
    rw [if_neg c8] at hr
    by_cases c9 : kd = 9
    · rw [if_pos c9] at hr
      subst c9
      obtain rfl := Option.some.inj hr
      exact word_fill9.calls wB w g gr Af Ae Al cf ce cl cr _ f es rs xs back at_ vals rows vl a b p h hn0 hn1 hb0 hb1 rfl ho hf1 ha he hb
    rw [if_neg c9] at hr
    exact absurd hr (by simp)
  · rw [if_neg ce1] at hr
    exact absurd hr (by simp)
theorem make_run {P : Program} (t e : TypeId) (n : Nat) (ht : P.underlying t = some (.slice e)) (z : Value) (bytes : Nat) (hinfo : (P.info? e).map (fun i => (i.zero, i.size, i.bytes)) = some (some z, 1, bytes)) (hz : z.cells = #[z]) (hl : (bytes : Int) * n ≤ 281474976710656) (hn : (n : Int) ≤ 9223372036854775807) :
    ∀ W : World, (Instr.makeSlice t (.int .i64 n) (.int .i64 n)).run P W = .ok (.slice (some ⟨W.heap.size, 0, none⟩) n n) (W.alloc (.cells (List.replicate n z).toArray e)) := by
  intro W
  obtain ⟨i0, hi, hzz⟩ := Option.map_eq_some_iff.1 hinfo
  simp only [Prod.mk.injEq] at hzz
  obtain ⟨hz0, hz1, hz2⟩ := hzz
  have hr := run_make (P := P) W t e i0 z ht hi hz0 .i64 .i64 (n : Int) (n : Int) (by omega) (by omega) (by rw [hz2]; exact hl) hn
  simp only [Int.toNat_natCast] at hr
  rw [hz1, Nat.mul_one, hz, ← Array.toArray_toList (xs := madeCells #[z] n), toList_madeCells_one] at hr
  exact hr
theorem chk_zero {stem loop : List (List Bool)} {props : Int} (h : word_chk stem loop props = 0) : stem.length ≤ 12 ∧ 1 ≤ loop.length ∧ loop.length ≤ 12 := by
  unfold word_chk at h
  split at h
  · omega
  split at h
  · omega
  split at h
  · omega
  split at h
  · omega
  split at h
  · omega
  omega
/-- The table in memory, open and filled. -/
def Opened (w w' : World) (p : Value) (f : List S51) (xs : List (List Bool)) (back : Int) (rows : List (List Bool)) : Prop :=
  ∃ (wB : World) (g gr : Nat) (Af Ae Al : Option Addr) (cf ce cl cr : Nat) (es : List Int) (rs : List VV) (vals : List Value), p = .pointer (some ⟨g, 0, none⟩) ∧ Below w.heap.size w wB ∧ TB wB w' g gr Af Ae Al cf ce cl cr xs.length f es rs xs back 0 vals rows
theorem open_TB {w3 wx : World} {g gr gc ge cc ce c0 : Nat} {A0 : Option Addr} {l0 : List S51} {es : List Int} {stem loop : List (List Bool)} {rs : List VV} (hb : Below w3.heap.size w3 wx)
    (ht : wx.heap[g]? = some (.cells #[.slice A0 l0.length c0, .slice (some ⟨ge, 0, none⟩) es.length ce, .slice (some ⟨gc, 0, none⟩) (stem.length + loop.length) cc, .int .i64 (stem.length : Int), .slice (some ⟨gr, 0, none⟩) l0.length l0.length] 74 (0, 0)))
    (hrr : wx.heap[gr]? = some (.cells (Array.replicate l0.length (.slice none 0 0)) 30 (0, 0))) (hC : kV.C wx (some ⟨gc, 0, none⟩) (stem ++ loop).length rs) (hne : gc ≠ gr) (h1 : w3.heap.size ≤ g) (h2 : w3.heap.size ≤ gr)
    (hf : Kd.C k51 w3 A0 l0.length l0) (he : Kd.C (Kd.int .i64) w3 (some ⟨ge, 0, none⟩) es.length es) (hl : LR w3 rs (stem ++ loop)) (hg : Glob w3) :
    TB w3 wx g gr A0 (some ⟨ge, 0, none⟩) (some ⟨gc, 0, none⟩) c0 ce cc l0.length (stem ++ loop).length l0 es rs (stem ++ loop) (stem.length : Int) l0.length (List.replicate l0.length (.slice none 0 0)) [] :=
  ⟨by rw [List.length_append]; exact ht, by rw [hrr]; simp, by simp, hf, he, hC, fun ad e _ => by cases e; exact hne, hl, hg, hb, h1, h2, by simp, fun p r hp => by simp at hp, fun p v _ hp => by simp at hp⟩
set_option maxHeartbeats 16000000 in
set_option maxRecDepth 100000 in
theorem word_open.calls (k : Nat) (A0 : Option Addr) (c0 : Nat) (l0 : List S51) (A1 : Option Addr) (c1 : Nat) (stem : List (List Bool)) (A2 : Option Addr) (c2 : Nat) (loop : List (List Bool)) (props : Int) (rows : List (List Bool)) (r2 : Int) (w : World)
    (hr0 : Kd.C k51 w A0 l0.length l0) (hc0 : l0.length ≤ c0) (hx : Kd.C (Kd.slice 4 Kd.bool) w A1 stem.length stem) (hy : Kd.C (Kd.slice 4 Kd.bool) w A2 loop.length loop) (hG_ : Glob w) (h : word_opn k l0 stem loop props = some (rows, r2)) :
    Calls Tryd.prog 35 #[.slice A0 l0.length c0, .agg #[.slice A1 stem.length c1, .slice A2 loop.length c2], .int .i64 props] w fun e w' => ∃ p, e = .returned (.tuple #[p, .int .i64 r2]) ∧ Below w.heap.size w w' ∧ (r2 = 0 → Opened w w' p l0 (stem ++ loop) (stem.length : Int) rows) := by
  have info := (by kernel_rfl : (Tryd.prog.info? 30).map (fun i => (i.zero, i.size, i.bytes)) = some (some (.slice none 0 0), 1, 24))
  have R0 := Aside0.mk hr0
  have L0 := Aside0.mk hc0
  have X1 := Aside0.mk hx
  have X2 := Aside0.mk hy
  have GL := Aside0.mk hG_
  clear hr0 hc0 hx hy hG_
  unfold word_opn at h
  obtain ⟨e1, hE1, h1⟩ := Option.bind_eq_some_iff.mp h
  clear h
  have HE1 := Aside0.mk hE1
  clear hE1
  by_cases q1 : e1 = 0
  · rw [if_pos q1] at h1
    subst q1
    by_cases q2 : word_chk stem loop props = 0
    · rw [if_pos q2] at h1
      have Q2 := Aside0.mk q2
      clear q2
      obtain ⟨⟨es, ee⟩, hE2, h2⟩ := Option.bind_eq_some_iff.mp h1
      clear h1
      have HE2 := Aside0.mk hE2
      clear hE2
      by_cases q3 : 0 < l0.length ∧ l0.length ≤ 1000 ∧ 0 < es.length
      · rw [if_pos q3] at h2
        have Q3 := Aside0.mk q3
        clear q3
        obtain ⟨rows', hR, h3⟩ := Option.bind_eq_some_iff.mp h2
        clear h2
        obtain ⟨rfl, rfl⟩ := Prod.mk.inj (Option.some.inj h3)
        have HR := Aside0.mk hR
        clear h3 hR
        obtain ⟨rs, hrs, lrs⟩ := raw_of X1.out
        obtain ⟨ss, hss, lss⟩ := raw_of X2.out
        have RS := Aside0.mk hrs
        have SS := Aside0.mk hss
        have LL := Aside0.mk (lrs.append lss)
        clear hrs hss lrs lss
        go_enter Tryd.func35, Tryd.ntmps35
        go_upto_region 8 with (first | ((with_reducible refine gate_dst (N := 4) rfl ?_); go_must (refine box_event ?hg (N := 4) ?hd (cs := #[.slice A1 stem.length c1, .slice A2 loop.length c2]) (t := 43) ?hr ?_; (case hd => rfl); (case hg => rfl); (case hr => first | (go_simp; done) | (go_simp; rfl)); intro g4 hg4 wb hbox hb; have KB := Aside0.mk hbox; have BB0 := Aside0.mk hb; clear hb hbox hg4)) | (go_at_call 30; go_must (refine (logic_Check.calls k A0 c0 l0 props 0 _ ?hx L0.out ?hG HE1.out).mono ?_; (case hx => exact Kd.C_below R0.out BB0.out); (case hG => exact Glob.below GL.out BB0.out); rintro e w1 ⟨rfl, hb⟩; have B1 := Aside0.mk (below_step BB0.out hb); have K1 := Aside0.mk (blk_below KB.out hb); have k40 : w1.cell? ⟨g4, 0, none⟩ = some (.slice A1 stem.length c1) := (blk_cell K1.out 0).trans rfl; have k41 : w1.cell? ⟨g4, 1, none⟩ = some (.slice A2 loop.length c2) := (blk_cell K1.out 1).trans rfl; clear hb)) | (go_at_call 43; go_must (refine (word_check.calls A1 A2 stem.length loop.length c1 c2 stem loop props _ ?hx ?hy).mono ?_; (case hx => exact Kd.C_below X1.out B1.out); (case hy => exact Kd.C_below X2.out B1.out); rw [Q2.out]; rintro e w2 ⟨rfl, hb⟩; have B2 := Aside0.mk (below_step B1.out hb); have K2 := Aside0.mk (blk_below K1.out hb); clear hb k40 k41)) | (go_at_call 32; go_must (refine (polish_Ends.calls k A0 c0 l0 es ee _ (Kd.C_below R0.out B2.out) L0.out (Glob.below GL.out B2.out) HE2.out).mono ?_; rintro e w3 ⟨v0, rfl, ho, hb⟩; obtain ⟨ge, ce, he6, hge, hgl, cge, hgc⟩ := Kd.R_form ho Q3.out.2.2; subst he6; have RE := Aside0.mk ho; have B3 := Aside0.mk (below_step B2.out hb); have K3 := Aside0.mk (blk_below K2.out hb); clear ho hb hge hgl hgc)))
        have k30 : w3.cell? ⟨g4, 0, none⟩ = some (.slice A1 stem.length c1) := (blk_cell K3.out 0).trans rfl
        have k31 : w3.cell? ⟨g4, 1, none⟩ = some (.slice A2 loop.length c2) := (blk_cell K3.out 1).trans rfl
        have hg4 : w3.heap.size ≠ g4 := World.new_ne w3 ⟨g4, 0, none⟩ k30
        have hl0 : (0 : Int) ≤ (l0.length : Int) := by omega
        have hu41 := Tryd.underlying41
        have NL := Aside0.mk (chk_zero Q2.out)
        have hmk := make_run (P := Tryd.prog) 41 30 l0.length Tryd.underlying41 (.slice none 0 0) 24 info rfl (by have := Q3.out; omega) (by have := Q3.out; omega)
        go_cut [12] (fun s12 wx => ∃ (g gr : Nat) (Al : Option Addr) (cl cr : Nat) (rs2 : List VV) (vals : List Value), s12 = .pointer (some ⟨g, 0, none⟩) ∧ Aside0 (TB w3 wx g gr A0 (some ⟨ge, 0, none⟩) Al c0 ce cl cr (stem ++ loop).length l0 es rs2 (stem ++ loop) (stem.length : Int) l0.length vals []))
        case first =>
          go_region_held3 (fun w' => w'.cell? ⟨g4, 0, none⟩ = some (.slice A1 stem.length c1) ∧ w'.cell? ⟨g4, 1, none⟩ = some (.slice A2 loop.length c2)) (go_keep)
            ((go_at_call 44; refine (word_concat.calls _ A1 A2 stem.length loop.length c1 c2 rs ss _ ?hq0 ?hq1 ?hx ?hy ?h0 ?h1).mono ?_; (case hq0 => first | exact (blk_cell (blk_new w3 _) 0).trans rfl | exact (blk_cell (two_new w3 _ _ _) 0).trans rfl | exact (blk_cell (blk_below (blk_new w3 _) (below_alloc (Below.refl _ _) _)) 0).trans rfl); (case hq1 => first | exact (blk_cell (blk_new w3 _) 1).trans rfl | exact (blk_cell (two_new w3 _ _ _) 1).trans rfl | exact (blk_cell (blk_below (blk_new w3 _) (below_alloc (Below.refl _ _) _)) 1).trans rfl); (case hx => first | exact Kd.C_below RS.out (below_drew1 (below_alloc B3.out _)) | exact Kd.C_below RS.out (below_drew1 (below_alloc (below_alloc B3.out _) _))); (case hy => first | exact Kd.C_below SS.out (below_drew1 (below_alloc B3.out _)) | exact Kd.C_below SS.out (below_drew1 (below_alloc (below_alloc B3.out _) _))); (case h0 => have := NL.out; omega); (case h1 => have := NL.out; omega); rintro e w4 ⟨v, rfl, hr, hb⟩; obtain ⟨gc, cc, rfl, hgb, hgl, _, _⟩ := Kd.R_form hr (by rw [LL.out.1, List.length_append]; have := NL.out; omega); rw [LL.out.1] at hr ⊢; have z0 : w4.cell? ⟨g4, 0, none⟩ = some (.slice A1 stem.length c1) := pw_cell_below hb (by simp [*]); have z1 : w4.cell? ⟨g4, 1, none⟩ = some (.slice A2 loop.length c2) := pw_cell_below hb (by simp [*])))
          · go_wp2_with fail
            go_meet
            have b4 : Below w3.heap.size w3 w4 := below_step (below_drew1 (below_alloc (Below.refl _ _) _)) hb
            have hC := (Kd.R_reads' hr).2.2
            rw [LL.out.1] at hC
            have hs := b4.size
            exact ⟨_, _, _, _, _, _, _, rfl, ⟨open_TB (below_alloc (below_alloc b4 _) _) (two_new w4 _ _ _) (blk_below (blk_new w4 _) (below_alloc (Below.refl _ _) _)) (Kd.C_below hC (below_alloc (below_alloc (Below.refl _ _) _) _)) (by omega) (by omega) (by omega) (Kd.C_below R0.out B3.out) (Kd.R_reads' RE.out).2.2 (LL.out.below B3.out) (Glob.below GL.out B3.out)⟩⟩
          · go_wp2_with fail
            go_meet
            have b4 : Below w3.heap.size w3 w4 := below_step (below_drew1 (below_alloc (below_alloc (Below.refl _ _) _) _)) hb
            have hC := (Kd.R_reads' hr).2.2
            rw [LL.out.1] at hC
            have hs := b4.size
            have hR := two_new w3 (.cells #[.slice A1 stem.length c1, .slice A2 loop.length c2] 41) (Array.replicate l0.length (.slice none 0 0)) 30
            have hlt := blk_lt hR
            have hR2 := blk_below (blk_below hR (below_drew1 (Below.refl _ _))) hb
            have hgb2 : w3.heap.size + 1 < gc := Nat.lt_of_lt_of_le hlt hgb
            exact ⟨_, _, _, _, _, _, _, rfl, ⟨open_TB (below_alloc b4 _) (blk_new w4 _) (blk_below hR2 (below_alloc (Below.refl _ _) _)) (Kd.C_below hC (below_alloc (Below.refl _ _) _)) (by omega) (by omega) (by omega) (Kd.C_below R0.out B3.out) (Kd.R_reads' RE.out).2.2 (LL.out.below B3.out) (Glob.below GL.out B3.out)⟩⟩
          · go_wp2_with fail
            go_meet
            have b4 : Below w3.heap.size w3 w4 := below_step (below_drew1 (below_alloc (below_alloc (Below.refl _ _) _) _)) hb
            have hC := (Kd.R_reads' hr).2.2
            rw [LL.out.1] at hC
            have hs := b4.size
            have hR := blk_below (blk_new w3 (.cells (Array.replicate l0.length (.slice none 0 0)) 30)) (below_alloc (Below.refl _ _) (.cells #[.slice A1 stem.length c1, .slice A2 loop.length c2] 41))
            have hlt := blk_lt hR
            have hR2 := blk_below (blk_below hR (below_drew1 (Below.refl _ _))) hb
            have hgb2 : w3.heap.size < gc := Nat.lt_of_lt_of_le hlt hgb
            exact ⟨_, _, _, _, _, _, _, rfl, ⟨open_TB (below_alloc b4 _) (blk_new w4 _) (blk_below hR2 (below_alloc (Below.refl _ _) _)) (Kd.C_below hC (below_alloc (Below.refl _ _) _)) (by omega) (by omega) (by omega) (Kd.C_below R0.out B3.out) (Kd.R_reads' RE.out).2.2 (LL.out.below B3.out) (Glob.below GL.out B3.out)⟩⟩
        case rest =>
          obtain ⟨g, gr, Al, cl, cr, rs2, vals, rfl, hT⟩ := hcut
          have HN := Aside0.mk (show 1 ≤ (stem ++ loop).length ∧ (stem ++ loop).length ≤ 100 ∧ (stem.length : Int) < ((stem ++ loop).length : Int) from by have := NL.out; rw [List.length_append]; omega)
          have ew : wrap64 ((l0.length : Int) - 1) = (l0.length : Int) - 1 := by have := Q3.out; unfold wrap64; omega
          clear k30 k31 hg4 hmk
          obtain ⟨xs, hxs⟩ : ∃ xs, stem ++ loop = xs := ⟨_, rfl⟩
          rw [hxs] at hT
          have HN' := HN.out
          rw [hxs] at HN'
          have HN1 := Aside0.mk HN'
          have HR1 := HR.out
          rw [hxs] at HR1
          have HR2 := Aside0.mk HR1
          clear HN HN' HR HR1
          go_wp2
          go_loopg [13] l0.length (fun kq v13 wr => ∃ (vals : List Value) (rws : List (List Bool)), v13 = .int .i64 ((kq : Int) - 1) ∧ kq ≤ l0.length ∧ Aside0 (word_rows k l0 es xs (stem.length : Int) kq rws = some rows') ∧ Aside0 (TB w3 wr g gr A0 (some ⟨ge, 0, none⟩) Al c0 ce cl cr xs.length l0 es rs2 xs (stem.length : Int) kq vals rws))
          case atStart => exact ⟨vals, [], (by rw [ew]), Nat.le_refl _, HR2, hT⟩
          case round =>
            clear hT HR2 ew
            obtain ⟨vals, rws, rfl, hk, HR, HT⟩ := hrel
            have LK := Aside0.mk hk
            generalize hx : (gk : Int) - 1 = x at *
            have HX := Aside0.mk hx
            clear hk hx
            cases gk with
            | zero =>
              have hx0 : decide (x ≥ 0) = false := decide_eq_false (by have := HX.out; omega)
              have hr := HR.out
              obtain rfl := Option.some.inj hr
              clear hr
              go_wp2
              go_ret2
              exact ⟨_, rfl, below_step B3.out HT.out.bel, fun _ => ⟨w3, g, gr, A0, some ⟨ge, 0, none⟩, Al, c0, ce, cl, cr, es, rs2, vals, rfl, B3.out, by rw [hxs]; exact HT.out⟩⟩
            | succ i =>
              have hx0 : decide (x ≥ 0) = true := decide_eq_true (by have := HX.out; omega)
              have hxi : x = (i : Int) := by have := HX.out; omega
              have HXI := Aside0.mk hxi
              clear hxi
              have hr := HR.out
              rw [word_rows] at hr
              obtain ⟨r, hr1, hr2⟩ := Option.bind_eq_some_iff.mp hr
              have H1 := Aside0.mk hr1
              have H2 := Aside0.mk hr2
              have ex : wrap64 (x - 1) = x - 1 := by have := HX.out; have := LK.out; have := Q3.out; unfold wrap64; omega
              clear hr hr1 hr2
              have CF := Aside0.mk (show Calls Tryd.prog 45 #[.pointer (some ⟨g, 0, none⟩), .int .i64 x] wr fun e w' => e = .returned (.tuple #[]) ∧ ∃ vals', TB w3 w' g gr A0 (some ⟨ge, 0, none⟩) Al c0 ce cl cr xs.length l0 es rs2 xs (stem.length : Int) i vals' (r :: rws) from by
                rw [HXI.out]
                exact word_fill.calls w3 wr g gr A0 (some ⟨ge, 0, none⟩) Al c0 ce cl cr l0 es rs2 xs (stem.length : Int) i vals rws k r HT.out HN1.out.1 HN1.out.2.1 (by omega) HN1.out.2.2 (by have := Q3.out; omega) (by have := LK.out; omega) H1.out)
              have EX := Aside0.mk ex
              clear ex
              go_wp2_with (go_at_call 45; go_must (refine CF.out.mono ?_; rintro e w5 ⟨rfl, vals', hT5⟩; have HT5 := Aside0.mk hT5; clear hT5))
              go_roundg i
              case measure => omega
              case rel => exact ⟨vals', r :: rws, (by have h1 := EX.out; have h2 := HXI.out; rw [h1, h2]), (by have := LK.out; omega), H2, HT5⟩
      · rw [if_neg q3] at h2
        exact absurd h2 (by simp)
    · rw [if_neg q2] at h1
      obtain ⟨rfl, rfl⟩ := Prod.mk.inj (Option.some.inj h1)
      have d2 : (word_chk stem loop props != 0) = true := by simp [q2]
      have Q2 := Aside0.mk q2
      clear q2 h1
      obtain ⟨z, hz⟩ : ∃ z, word_chk stem loop props = z := ⟨_, rfl⟩
      have HZ := Aside0.mk hz
      rw [hz] at d2 Q2 ⊢
      clear hz
      go_enter Tryd.func35, Tryd.ntmps35
      go_wp2_with (first | ((with_reducible refine gate_dst (N := 4) rfl ?_); go_must (refine box_event ?hg (N := 4) ?hd (cs := #[.slice A1 stem.length c1, .slice A2 loop.length c2]) (t := 43) ?hr ?_; (case hd => rfl); (case hg => rfl); (case hr => first | (go_simp; done) | (go_simp; rfl)); intro g4 hg4 wb hbox hb; have KB := Aside0.mk hbox; have BB0 := Aside0.mk hb; clear hb hbox hg4)) | (go_at_call 30; go_must (refine (logic_Check.calls k A0 c0 l0 props 0 _ ?hx L0.out ?hG HE1.out).mono ?_; (case hx => exact Kd.C_below R0.out BB0.out); (case hG => exact Glob.below GL.out BB0.out); rintro e w1 ⟨rfl, hb⟩; have B1 := Aside0.mk (below_step BB0.out hb); have K1 := Aside0.mk (blk_below KB.out hb); have k40 : w1.cell? ⟨g4, 0, none⟩ = some (.slice A1 stem.length c1) := (blk_cell K1.out 0).trans rfl; have k41 : w1.cell? ⟨g4, 1, none⟩ = some (.slice A2 loop.length c2) := (blk_cell K1.out 1).trans rfl; clear hb)) | (go_at_call 43; go_must (refine (word_check.calls A1 A2 stem.length loop.length c1 c2 stem loop props _ ?hx ?hy).mono ?_; (case hx => exact Kd.C_below X1.out B1.out); (case hy => exact Kd.C_below X2.out B1.out); rw [HZ.out]; rintro e w2 ⟨rfl, hb⟩; have B2 := Aside0.mk (below_step B1.out hb); clear hb k40 k41)))
      go_ret2
      exact ⟨_, rfl, B2.out, fun h => absurd h Q2.out⟩
  · rw [if_neg q1] at h1
    obtain ⟨rfl, rfl⟩ := Prod.mk.inj (Option.some.inj h1)
    have d1 : (e1 != 0) = true := by simp [q1]
    have Q1 := Aside0.mk q1
    clear q1 h1
    go_enter Tryd.func35, Tryd.ntmps35
    go_wp2_with (first | ((with_reducible refine gate_dst (N := 4) rfl ?_); go_must (refine box_event ?hg (N := 4) ?hd (cs := #[.slice A1 stem.length c1, .slice A2 loop.length c2]) (t := 43) ?hr ?_; (case hd => rfl); (case hg => rfl); (case hr => first | (go_simp; done) | (go_simp; rfl)); intro g4 hg4 wb hbox hb; have KB := Aside0.mk hbox; have BB0 := Aside0.mk hb; clear hb hbox hg4)) | (go_at_call 30; go_must (refine (logic_Check.calls k A0 c0 l0 props e1 _ ?hx L0.out ?hG HE1.out).mono ?_; (case hx => exact Kd.C_below R0.out BB0.out); (case hG => exact Glob.below GL.out BB0.out); rintro e w1 ⟨rfl, hb⟩; have B1 := Aside0.mk (below_step BB0.out hb); clear hb)))
    go_ret2
    exact ⟨_, rfl, B1.out, fun h => absurd h Q1.out⟩
/-- A filled row, as a result. -/
theorem TB.res {w wB w' : World} {g gr : Nat} {Af Ae Al : Option Addr} {cf ce cl cr n : Nat} {f : List S51} {es : List Int} {rs : List VV} {xs : List (List Bool)} {back : Int} {vals : List Value} {rows : List (List Bool)} {r : List Bool}
    (h : TB wB w' g gr Af Ae Al cf ce cl cr n f es rs xs back 0 vals rows) (hw : w.heap.size ≤ wB.heap.size) (hn : n ≤ 100) (hr : rows[0]? = some r) :
    ∃ gw : Nat, vals[0]? = some (.slice (some ⟨gw, 0, none⟩) n n) ∧ w'.cell? ⟨gr, 0, none⟩ = some (.slice (some ⟨gw, 0, none⟩) n n) ∧ Kd.R Kd.bool 4 w' w.heap.size (fun _ => True) (.slice (some ⟨gw, 0, none⟩) n n) r := by
  obtain ⟨gw, c, hv, hb, hl⟩ := h.row 0 r hr
  obtain ⟨gw', e, hge⟩ := h.own 0 _ hv (List.getElem?_eq_some_iff.1 hr).1
  obtain ⟨rfl, -, rfl⟩ : gw = gw' ∧ n = n ∧ c = n := by
    simp only [Value.slice.injEq, Option.some.injEq, Addr.mk.injEq] at e
    omega
  rw [Nat.zero_add] at hv
  refine ⟨gw, hv, (blk_cell h.rblk 0).trans (by rw [List.getElem?_toArray]; exact hv), ?_⟩
  refine Kd.R_of_own (enc := Value.bool) ⟨?_, .inr ⟨gw, c, _, by rw [hl], by omega, hb, by omega, ?_, ?_, ?_⟩⟩ (fun _ _ => trivial)
  · simp [encs]
  · unfold maxLen; omega
  · simp [hl]
  · simp only [encs, Nat.mul_one]
    exact List.take_of_length_le (by rw [List.length_map]; omega)
theorem stl_mono (L : Int → Bool → Bool) (n : Nat) (back : Int) : ∀ (k : Nat) (r : List Bool), LeO (stl L n back k r) (stl L n back (k + 1) r)
  | 0, r => by intro x h; simp [stl] at h
  | k + 1, r => by
    rw [stl, stl]
    exact LeO.ite (stl_mono L n back k _) (LeO.refl _)
theorem word_row_mono (k : Nat) (o : S51) (es : List Int) (xs : List (List Bool)) (back : Int) (at_ : Nat) (rows : List (List Bool)) : LeO (word_row k o es xs back at_ rows) (word_row (k + 1) o es xs back at_ rows) := by
  unfold word_row
  refine LeO.ite (LeO.refl _) (LeO.bind (LeO.refl _) (fun a => LeO.ite ?_ (LeO.bind (LeO.refl _) (fun e => LeO.ite (LeO.bind (LeO.refl _) (fun b => ?_)) (LeO.refl _)))))
  · unfold row1
    exact LeO.ite (stl_mono _ _ _ _ _) (LeO.ite (stl_mono _ _ _ _ _) (LeO.refl _))
  · unfold row2
    exact LeO.ite (stl_mono _ _ _ _ _) (LeO.ite (stl_mono _ _ _ _ _) (LeO.refl _))
theorem word_rows_mono (k : Nat) (ops : List S51) (es : List Int) (xs : List (List Bool)) (back : Int) : ∀ (i : Nat) (rows : List (List Bool)), LeO (word_rows k ops es xs back i rows) (word_rows (k + 1) ops es xs back i rows)
  | 0, rows => LeO.refl _
  | i + 1, rows => by
    rw [word_rows, word_rows]
    exact LeO.bind (word_row_mono _ _ _ _ _ _ _) (fun r => word_rows_mono k ops es xs back i _)
theorem word_opn_mono (k : Nat) (ops : List S51) (stem loop : List (List Bool)) (props : Int) : LeO (word_opn k ops stem loop props) (word_opn (k + 1) ops stem loop props) := by
  unfold word_opn
  exact LeO.bind (logic_Check.mono _ _ _) (fun e => LeO.ite (LeO.ite (LeO.bind (polish_Ends.mono _ _) (fun es => LeO.ite (LeO.bind (word_rows_mono _ _ _ _ _ _ _) (fun _ => LeO.refl _)) (LeO.refl _))) (LeO.refl _)) (LeO.refl _))
theorem word_opn_ok {k : Nat} {ops : List S51} {stem loop : List (List Bool)} {props : Int} {rows : List (List Bool)} (h : word_opn k ops stem loop props = some (rows, 0)) : 0 < ops.length ∧ stem.length ≤ 12 ∧ 1 ≤ loop.length ∧ loop.length ≤ 12 := by
  unfold word_opn at h
  obtain ⟨e, _, h1⟩ := Option.bind_eq_some_iff.mp h
  by_cases q1 : e = 0
  · rw [if_pos q1] at h1
    by_cases q2 : word_chk stem loop props = 0
    · rw [if_pos q2] at h1
      obtain ⟨es, _, h2⟩ := Option.bind_eq_some_iff.mp h1
      by_cases q3 : 0 < ops.length ∧ ops.length ≤ 1000 ∧ 0 < es.1.length
      · exact ⟨q3.1, chk_zero q2⟩
      · rw [if_neg q3] at h2
        exact absurd h2 (by simp)
    · rw [if_neg q2] at h1
      exact absurd (Prod.mk.inj (Option.some.inj h1)).2 q2
  · rw [if_neg q1] at h1
    exact absurd (Prod.mk.inj (Option.some.inj h1)).2 q1

/-! ### word_Moments: function 24 -/
--IMPORT Derived.WalkSpells
--IMPORT Derived.StillTailTactics
def word_Moments.f (k : Nat) (l0 : List (S51)) (l1_0 : List (List Bool)) (l1_1 : List (List Bool)) (a2 : Int) : Option (List Bool × Int) := (word_opn k l0 l1_0 l1_1 a2).bind fun r => if r.2 = 0 then (r.1[0]?).bind fun x => some (x, 0) else some ([], r.2)
theorem word_Moments.mono : ∀ a0 a1 a2 a3 k, LeO (word_Moments.f k a0 a1 a2 a3) (word_Moments.f (k + 1) a0 a1 a2 a3) := by
  intro a0 a1 a2 a3 k
  unfold word_Moments.f
  exact LeO.bind (word_opn_mono _ _ _ _ _) (fun r => LeO.refl _)
set_option maxHeartbeats 8000000 in
set_option maxRecDepth 100000 in
theorem word_Moments.calls (k : Nat) (A0 : Option Addr) (c0 : Nat) (l0 : List (S51)) (A1_0 : Option Addr) (c1_0 : Nat) (l1_0 : List (List Bool)) (A1_1 : Option Addr) (c1_1 : Nat) (l1_1 : List (List Bool)) (a2 : Int) (r1 : List Bool) (r2 : Int) (w : World) (hr0 : Kd.C k51 w A0 l0.length l0) (hc0 : l0.length ≤ c0) (hr1_0 : Kd.C (Kd.slice 4 Kd.bool) w A1_0 l1_0.length l1_0) (hc1_0 : l1_0.length ≤ c1_0) (hr1_1 : Kd.C (Kd.slice 4 Kd.bool) w A1_1 l1_1.length l1_1) (hc1_1 : l1_1.length ≤ c1_1) (hG_ : Glob w) (h : word_Moments.f k l0 l1_0 l1_1 a2 = some (r1, r2)) :
    Calls Tryd.prog 24 #[.slice A0 l0.length c0, .agg #[.slice A1_0 l1_0.length c1_0, .slice A1_1 l1_1.length c1_1], .int .i64 a2] w fun e w' => ∃ v0_ : Value, e = .returned (.tuple #[v0_, .int .i64 r2]) ∧ Kd.R Kd.bool 4 w' w.heap.size (fun _ => True) v0_ r1 ∧ Below w.heap.size w w' := by
  have R0 := Aside0.mk hr0
  have L0 := Aside0.mk hc0
  have X1 := Aside0.mk hr1_0
  have X2 := Aside0.mk hr1_1
  have GL := Aside0.mk hG_
  clear hr0 hc0 hr1_0 hc1_0 hr1_1 hc1_1 hG_
  unfold word_Moments.f at h
  obtain ⟨⟨rows, e1⟩, hO, h1⟩ := Option.bind_eq_some_iff.mp h
  clear h
  have HO := Aside0.mk hO
  clear hO
  simp only at h1
  by_cases q1 : e1 = 0
  · rw [if_pos q1] at h1
    subst q1
    obtain ⟨x, hx, h2⟩ := Option.bind_eq_some_iff.mp h1
    obtain ⟨rfl, rfl⟩ := Prod.mk.inj (Option.some.inj h2)
    have HX := Aside0.mk hx
    clear h1 h2 hx
    have NZ := Aside0.mk (word_opn_ok HO.out)
    go_enter Tryd.func24, Tryd.ntmps24
    go_wp2_with (go_at_call 35; go_must (refine (word_open.calls k A0 c0 l0 A1_0 c1_0 l1_0 A1_1 c1_1 l1_1 a2 rows 0 _ ?hx L0.out ?hy ?hz ?hG HO.out).mono ?_; (case hx => exact Kd.C_below R0.out (below_alloc (Below.refl _ _) _)); (case hy => exact Kd.C_below X1.out (below_alloc (Below.refl _ _) _)); (case hz => exact Kd.C_below X2.out (below_alloc (Below.refl _ _) _)); (case hG => exact Glob.below GL.out (below_alloc (Below.refl _ _) _)); rintro e w1 ⟨p, rfl, hb, hop⟩; obtain ⟨wB, g, gr, Af, Ae, Al, cf, ce, cl, cr, es, rs, vals, rfl, hbB, hT⟩ := hop rfl; have HT := Aside0.mk hT; have B1 := Aside0.mk (below_step (below_alloc (Below.refl _ _) _) hb); have BW := Aside0.mk (Nat.le_trans (below_alloc (Below.refl _ w) _).size hbB.size); clear hb hbB hT hop; obtain ⟨gw, hv, hc0, hR⟩ := HT.out.res (w := w) BW.out (by have := NZ.out; rw [List.length_append]; omega) HX.out; have HRR := Aside0.mk hR; clear hR hv; have hc4 : w1.cell? ⟨g, 4, none⟩ = some (.slice (some ⟨gr, 0, none⟩) l0.length cr) := (blk_cell HT.out.blk 4).trans rfl; have hl0 : (0 : Int) < (l0.length : Int) := by have := NZ.out; omega))
    go_ret2
    have q := HRR.out
    rw [List.length_append] at q
    exact ⟨_, rfl, q, B1.out⟩
  · rw [if_neg q1] at h1
    obtain ⟨rfl, rfl⟩ := Prod.mk.inj (Option.some.inj h1)
    have d1 : (e1 != 0) = true := by simp [q1]
    have Q1 := Aside0.mk q1
    clear q1 h1
    go_enter Tryd.func24, Tryd.ntmps24
    go_wp2_with (go_at_call 35; go_must (refine (word_open.calls k A0 c0 l0 A1_0 c1_0 l1_0 A1_1 c1_1 l1_1 a2 rows e1 _ ?hx L0.out ?hy ?hz ?hG HO.out).mono ?_; (case hx => exact Kd.C_below R0.out (below_alloc (Below.refl _ _) _)); (case hy => exact Kd.C_below X1.out (below_alloc (Below.refl _ _) _)); (case hz => exact Kd.C_below X2.out (below_alloc (Below.refl _ _) _)); (case hG => exact Glob.below GL.out (below_alloc (Below.refl _ _) _)); rintro e w1 ⟨p, rfl, hb, hop⟩; have B1 := Aside0.mk (below_step (below_alloc (Below.refl _ _) _) hb); clear hb hop))
    go_ret2
    exact ⟨_, rfl, Kd.R_nil _ _ _ _ _, B1.out⟩

/-! ### word_Holds: function 36 -/
def word_Holds.f (k : Nat) (l0 : List (S51)) (l1_0 : List (List Bool)) (l1_1 : List (List Bool)) (a2 : Int) : Option (Bool × Int) := (word_Moments.f k l0 l1_0 l1_1 a2).bind fun bt314 => (if bt314.2 = 0 then (if 0 < (bt314.1.length : Int) then (some (rdOf false bt314.1 0, 0)) else (none)) else (some (false, bt314.2)))
theorem word_Holds.mono : ∀ a0 a1 a2 a3 k, LeO (word_Holds.f k a0 a1 a2 a3) (word_Holds.f (k + 1) a0 a1 a2 a3) := by
  intro a0 a1 a2 a3 k
  unfold word_Holds.f
  repeat' first
      | (with_reducible exact word_Moments.mono _ _ _ _ _)
      | (with_reducible exact LeO.refl _)
      | (with_reducible exact LeO.none _)
      | (with_reducible refine LeO.ite ?_ ?_)
      | (with_reducible refine LeO.bind ?_ (fun _ => ?_))
      | exact word_Moments.mono _ _ _ _ _
      | exact LeO.none _
      | refine LeO.ite ?_ ?_
      | refine LeO.bind ?_ (fun _ => ?_)
set_option maxHeartbeats 8000000 in
set_option maxRecDepth 100000 in
theorem word_Holds.calls (k : Nat) (A0 : Option Addr) (c0 : Nat) (l0 : List (S51)) (A1_0 : Option Addr) (c1_0 : Nat) (l1_0 : List (List Bool)) (A1_1 : Option Addr) (c1_1 : Nat) (l1_1 : List (List Bool)) (a2 : Int) (r1 : Bool) (r2 : Int) (w : World) (hr0 : Kd.C k51 w A0 l0.length l0) (hc0 : l0.length ≤ c0) (hr1_0 : Kd.C (Kd.slice 4 Kd.bool) w A1_0 l1_0.length l1_0) (hc1_0 : l1_0.length ≤ c1_0) (hr1_1 : Kd.C (Kd.slice 4 Kd.bool) w A1_1 l1_1.length l1_1) (hc1_1 : l1_1.length ≤ c1_1) (hG_ : Glob w) (h : word_Holds.f k l0 l1_0 l1_1 a2 = some (r1, r2)) :
    Calls Tryd.prog 36 #[.slice A0 l0.length c0, .agg #[.slice A1_0 l1_0.length c1_0, .slice A1_1 l1_1.length c1_1], .int .i64 a2] w fun e w' => e = .returned (.tuple #[.bool r1, .int .i64 r2]) ∧ Below w.heap.size w w' := by
  have hu43 := Tryd.underlying43
  have HR0 := Aside0.mk hr0
  have HC0 := Aside0.mk hc0
  clear hr0 hc0
  have HR1_0 := Aside0.mk hr1_0
  have HC1_0 := Aside0.mk hc1_0
  clear hr1_0 hc1_0
  have HR1_1 := Aside0.mk hr1_1
  have HC1_1 := Aside0.mk hc1_1
  clear hr1_1 hc1_1
  have HB := Aside0.mk (Below.refl w.heap.size w)
  have H : ((word_Moments.f k l0 l1_0 l1_1 a2).bind fun bt314 => (if bt314.2 = 0 then (if 0 < (bt314.1.length : Int) then (some (rdOf false bt314.1 0, 0)) else (none)) else (some (false, bt314.2)))) = some (r1, r2) := h
  clear h
  replace H := Option.bind_eq_some_iff.mp H
  obtain ⟨⟨t314, t317⟩, A40, H⟩ := H
  replace H : (if t317 = 0 then (if 0 < (t314.length : Int) then (some (rdOf false t314 0, 0)) else (none)) else (some (false, t317))) = some (r1, r2) := H
  have A4 := Aside0.mk A40
  clear A40
  by_cases c5 : t317 = 0
  · rw [if_pos c5] at H
    have c5b0 : (t317 == 0) = true := beq_iff_eq.mpr c5
    have c5b1 : (t317 != 0) = false := bne_eq_false_iff_eq.mpr c5
    clear c5
    by_cases c6 : 0 < (t314.length : Int)
    · rw [if_pos c6] at H
      have c6b0 : decide (0 < (t314.length : Int)) = true := decide_eq_true c6
      have c6b1 : decide (0 < t314.length) = true := decide_eq_true (by omega)
      clear c6
      simp only [Option.some.injEq, Prod.mk.injEq] at H
      obtain ⟨rfl, rfl⟩ := H
      go_enter Tryd.func36, Tryd.ntmps36
      go_wp2_with (first | ((with_reducible refine gate_dst (N := 4) rfl ?_); refine box_event ?hg (N := 4) ?hd (cs := #[.slice A1_0 l1_0.length c1_0, .slice A1_1 l1_1.length c1_1]) (t := 43) ?hr ?_; (case hd => rfl); (case hg => rfl); (case hr => first | (go_simp; done) | (go_simp; rfl)); intro gb313 hg w7 hbox hb; have n0_ := Aside0.mk (below_step (by repeat (first | (with_reducible first | exact HB.out | apply below_alloc | apply pw_below_drewN | apply below_drew1) | exact HB.out)) hb); have n1_ := Aside0.mk (hbox); have n2_ := Aside0.mk ((by rw [hg]; exact (below_size (by repeat (first | (with_reducible first | exact HB.out | apply below_alloc | apply pw_below_drewN | apply below_drew1) | exact HB.out))) : w.heap.size ≤ gb313)); have n3_ := Aside0.mk ((by rw [hg]; exact (below_size (by repeat (first | (with_reducible first | exact HB.out | apply below_alloc | apply pw_below_drewN | apply below_drew1) | exact HB.out))) : w.heap.size ≤ gb313)); clear HB; have HB := n0_; have BK313 := n1_; have GW313 := n2_; have GE313 := n3_; clear n0_ n1_ n2_ n3_; clear hb hbox hg; have hcz8_0 : w7.cell? ⟨gb313, 0, none⟩ = some (.slice A1_0 l1_0.length c1_0) := (blk_cell BK313.out 0).trans rfl; have hcz8_1 : w7.cell? ⟨gb313, 1, none⟩ = some (.slice A1_1 l1_1.length c1_1) := (blk_cell BK313.out 1).trans rfl; have hfz8_0 := blk_frozen BK313.out 0; have hfz8_1 := blk_frozen BK313.out 1) | ((with_reducible refine gate_callee (f := 24) rfl ?_); refine goesL_ (some 14) rfl rfl Tryd.func24 (by kernel_rfl) rfl #[.slice A0 l0.length c0, .agg #[.slice A1_0 l1_0.length c1_0, .slice A1_1 l1_1.length c1_1], .int .i64 a2] rfl (by (try simp only [List.map_toArray, List.map_cons, List.map_nil]); first | done | rfl | (simp only [List.length_drop, List.length_take]; rfl)) ?_; (with_reducible refine (word_Moments.calls k _ _ l0 _ _ l1_0 _ _ l1_1 a2 t314 t317 _ ?side1 ?side2 ?side3 ?side4 ?side5 ?side6 ?side7 A4.out).mono ?_); (case side1 => repeat (first | exact (Kd.C_below HR0.out HB.out) | (with_reducible refine Kd.C_alloc ?_ _) | (with_reducible refine Kd.C_drewN ?_ _) | (with_reducible refine Kd.C_drew ?_))); (case side2 => exact HC0.out); (case side3 => repeat (first | exact (Kd.C_below HR1_0.out HB.out) | (with_reducible refine Kd.C_alloc ?_ _) | (with_reducible refine Kd.C_drewN ?_ _) | (with_reducible refine Kd.C_drew ?_))); (case side4 => exact HC1_0.out); (case side5 => repeat (first | exact (Kd.C_below HR1_1.out HB.out) | (with_reducible refine Kd.C_alloc ?_ _) | (with_reducible refine Kd.C_drewN ?_ _) | (with_reducible refine Kd.C_drew ?_))); (case side6 => exact HC1_1.out); (case side7 => first | exact hG_ | exact Glob.drewN hG_ _ | exact Glob.below hG_ (by repeat (first | (with_reducible first | exact HB.out | apply below_alloc | apply pw_below_drewN | apply below_drew1 | refine below_set ?_ GE313.out) | exact HB.out))); rintro e w9 ⟨v315, rfl, ho0, hb⟩; refine ⟨_, rfl, ?_⟩; have n0_ := Aside0.mk (Kd.R_lower ho0 (below_size (by repeat (first | (with_reducible first | exact HB.out | apply below_alloc | apply pw_below_drewN | apply below_drew1 | refine below_set ?_ GE313.out) | exact HB.out)))); have n1_ := Aside0.mk (blk_below (g := gb313) (o := .cells #[.slice A1_0 l1_0.length c1_0, .slice A1_1 l1_1.length c1_1] 43 (0, 0)) (by (with_reducible repeat (first | refine blk_drewN ?_ _ | refine blk_drew ?_ | refine blk_alloc ?_ _)); exact BK313.out) hb); have n2_ := Aside0.mk (below_step (by repeat (first | (with_reducible first | exact HB.out | apply below_alloc | apply pw_below_drewN | apply below_drew1 | refine below_set ?_ GE313.out) | exact HB.out)) hb); clear BK313; clear HB; have HO316 := n0_; have BK313 := n1_; have HB := n2_; clear n0_ n1_ n2_; (try clear hb); (try clear hb2); (try clear hk); (try clear hi); (try clear ho0); obtain ⟨Ao10, co10, eo10⟩ := Kd.R_slice HO316.out; subst eo10; have p318 : 0 ≤ (0 : Int) := (by omega); have q318 : 0 < (t314.length : Int) := of_decide_eq_true (by first | (with_reducible assumption) | assumption); obtain ⟨ad318, e318, hx318_0⟩ := Kd.at_bool (Kd.R_reads' HO316.out).2.2 0 p318 q318; cases e318; have qi318 : (0 < t314.length) = True := eq_true (by omega); (try rw [show ((0 : Int)).toNat = 0 from rfl] at hx318_0); (try rw [Addr.add_zero'] at hx318_0); replace p318 := eq_true p318; replace q318 := eq_true q318))
      go_ret2
      exact ⟨by first | rfl | (simp [errW_none, errW_some] <;> rfl) | (simp [*, errW_none, errW_some] <;> rfl), by repeat (first | (with_reducible first | exact HB.out | apply below_alloc | apply pw_below_drewN | apply below_drew1 | refine below_set ?_ GE313.out) | exact HB.out)⟩
    · rw [if_neg c6] at H
      exact absurd H (by simp)
  · rw [if_neg c5] at H
    have c5b0 : (t317 == 0) = false := beq_eq_false_iff_ne.mpr c5
    have c5b1 : (t317 != 0) = true := bne_iff_ne.mpr c5
    simp only [Option.some.injEq, Prod.mk.injEq] at H
    obtain ⟨rfl, rfl⟩ := H
    go_enter Tryd.func36, Tryd.ntmps36
    go_wp2_with (first | ((with_reducible refine gate_dst (N := 4) rfl ?_); refine box_event ?hg (N := 4) ?hd (cs := #[.slice A1_0 l1_0.length c1_0, .slice A1_1 l1_1.length c1_1]) (t := 43) ?hr ?_; (case hd => rfl); (case hg => rfl); (case hr => first | (go_simp; done) | (go_simp; rfl)); intro gb313 hg w11 hbox hb; have n0_ := Aside0.mk (below_step (by repeat (first | (with_reducible first | exact HB.out | apply below_alloc | apply pw_below_drewN | apply below_drew1) | exact HB.out)) hb); have n1_ := Aside0.mk (hbox); have n2_ := Aside0.mk ((by rw [hg]; exact (below_size (by repeat (first | (with_reducible first | exact HB.out | apply below_alloc | apply pw_below_drewN | apply below_drew1) | exact HB.out))) : w.heap.size ≤ gb313)); have n3_ := Aside0.mk ((by rw [hg]; exact (below_size (by repeat (first | (with_reducible first | exact HB.out | apply below_alloc | apply pw_below_drewN | apply below_drew1) | exact HB.out))) : w.heap.size ≤ gb313)); clear HB; have HB := n0_; have BK313 := n1_; have GW313 := n2_; have GE313 := n3_; clear n0_ n1_ n2_ n3_; clear hb hbox hg; have hcz12_0 : w11.cell? ⟨gb313, 0, none⟩ = some (.slice A1_0 l1_0.length c1_0) := (blk_cell BK313.out 0).trans rfl; have hcz12_1 : w11.cell? ⟨gb313, 1, none⟩ = some (.slice A1_1 l1_1.length c1_1) := (blk_cell BK313.out 1).trans rfl; have hfz12_0 := blk_frozen BK313.out 0; have hfz12_1 := blk_frozen BK313.out 1) | ((with_reducible refine gate_callee (f := 24) rfl ?_); refine goesL_ (some 14) rfl rfl Tryd.func24 (by kernel_rfl) rfl #[.slice A0 l0.length c0, .agg #[.slice A1_0 l1_0.length c1_0, .slice A1_1 l1_1.length c1_1], .int .i64 a2] rfl (by (try simp only [List.map_toArray, List.map_cons, List.map_nil]); first | done | rfl | (simp only [List.length_drop, List.length_take]; rfl)) ?_; (with_reducible refine (word_Moments.calls k _ _ l0 _ _ l1_0 _ _ l1_1 a2 t314 t317 _ ?side1 ?side2 ?side3 ?side4 ?side5 ?side6 ?side7 A4.out).mono ?_); (case side1 => repeat (first | exact (Kd.C_below HR0.out HB.out) | (with_reducible refine Kd.C_alloc ?_ _) | (with_reducible refine Kd.C_drewN ?_ _) | (with_reducible refine Kd.C_drew ?_))); (case side2 => exact HC0.out); (case side3 => repeat (first | exact (Kd.C_below HR1_0.out HB.out) | (with_reducible refine Kd.C_alloc ?_ _) | (with_reducible refine Kd.C_drewN ?_ _) | (with_reducible refine Kd.C_drew ?_))); (case side4 => exact HC1_0.out); (case side5 => repeat (first | exact (Kd.C_below HR1_1.out HB.out) | (with_reducible refine Kd.C_alloc ?_ _) | (with_reducible refine Kd.C_drewN ?_ _) | (with_reducible refine Kd.C_drew ?_))); (case side6 => exact HC1_1.out); (case side7 => first | exact hG_ | exact Glob.drewN hG_ _ | exact Glob.below hG_ (by repeat (first | (with_reducible first | exact HB.out | apply below_alloc | apply pw_below_drewN | apply below_drew1 | refine below_set ?_ GE313.out) | exact HB.out))); rintro e w13 ⟨v315, rfl, ho0, hb⟩; refine ⟨_, rfl, ?_⟩; have n0_ := Aside0.mk (Kd.R_lower ho0 (below_size (by repeat (first | (with_reducible first | exact HB.out | apply below_alloc | apply pw_below_drewN | apply below_drew1 | refine below_set ?_ GE313.out) | exact HB.out)))); have n1_ := Aside0.mk (blk_below (g := gb313) (o := .cells #[.slice A1_0 l1_0.length c1_0, .slice A1_1 l1_1.length c1_1] 43 (0, 0)) (by (with_reducible repeat (first | refine blk_drewN ?_ _ | refine blk_drew ?_ | refine blk_alloc ?_ _)); exact BK313.out) hb); have n2_ := Aside0.mk (below_step (by repeat (first | (with_reducible first | exact HB.out | apply below_alloc | apply pw_below_drewN | apply below_drew1 | refine below_set ?_ GE313.out) | exact HB.out)) hb); clear BK313; clear HB; have HO316 := n0_; have BK313 := n1_; have HB := n2_; clear n0_ n1_ n2_; (try clear hb); (try clear hb2); (try clear hk); (try clear hi); (try clear ho0)))
    go_ret2
    exact ⟨by first | rfl | (simp [errW_none, errW_some] <;> rfl) | (simp [*, errW_none, errW_some] <;> rfl), by repeat (first | (with_reducible first | exact HB.out | apply below_alloc | apply pw_below_drewN | apply below_drew1 | refine below_set ?_ GE313.out) | exact HB.out)⟩

/-! ### foretellkeep_holds: function 25 -/
def foretellkeep_holds.f (k : Nat) (l0 : List (S51)) (l1_0 : List (List Bool)) (l1_1 : List (List Bool)) : Option (Bool × Bool) := (word_Holds.f k l0 l1_0 l1_1 3).bind fun bt320 => (some (bt320.1, (bt320.2 == 0)))
theorem foretellkeep_holds.mono : ∀ a0 a1 a2 k, LeO (foretellkeep_holds.f k a0 a1 a2) (foretellkeep_holds.f (k + 1) a0 a1 a2) := by
  intro a0 a1 a2 k
  unfold foretellkeep_holds.f
  repeat' first
      | (with_reducible exact word_Holds.mono _ _ _ _ _)
      | (with_reducible exact LeO.refl _)
      | (with_reducible exact LeO.none _)
      | (with_reducible refine LeO.ite ?_ ?_)
      | (with_reducible refine LeO.bind ?_ (fun _ => ?_))
      | exact word_Holds.mono _ _ _ _ _
      | exact LeO.none _
      | refine LeO.ite ?_ ?_
      | refine LeO.bind ?_ (fun _ => ?_)
set_option maxHeartbeats 8000000 in
set_option maxRecDepth 100000 in
theorem foretellkeep_holds.calls (k : Nat) (A0 : Option Addr) (c0 : Nat) (l0 : List (S51)) (A1_0 : Option Addr) (c1_0 : Nat) (l1_0 : List (List Bool)) (A1_1 : Option Addr) (c1_1 : Nat) (l1_1 : List (List Bool)) (r1 : Bool) (r2 : Bool) (w : World) (hr0 : Kd.C k51 w A0 l0.length l0) (hc0 : l0.length ≤ c0) (hr1_0 : Kd.C (Kd.slice 4 Kd.bool) w A1_0 l1_0.length l1_0) (hc1_0 : l1_0.length ≤ c1_0) (hr1_1 : Kd.C (Kd.slice 4 Kd.bool) w A1_1 l1_1.length l1_1) (hc1_1 : l1_1.length ≤ c1_1) (hG_ : Glob w) (h : foretellkeep_holds.f k l0 l1_0 l1_1 = some (r1, r2)) :
    Calls Tryd.prog 25 #[.slice A0 l0.length c0, .agg #[.slice A1_0 l1_0.length c1_0, .slice A1_1 l1_1.length c1_1]] w fun e w' => e = .returned (.tuple #[.bool r1, .bool r2]) ∧ Below w.heap.size w w' := by
  have hu43 := Tryd.underlying43
  have HR0 := Aside0.mk hr0
  have HC0 := Aside0.mk hc0
  clear hr0 hc0
  have HR1_0 := Aside0.mk hr1_0
  have HC1_0 := Aside0.mk hc1_0
  clear hr1_0 hc1_0
  have HR1_1 := Aside0.mk hr1_1
  have HC1_1 := Aside0.mk hc1_1
  clear hr1_1 hc1_1
  have HB := Aside0.mk (Below.refl w.heap.size w)
  have H : ((word_Holds.f k l0 l1_0 l1_1 3).bind fun bt320 => (some (bt320.1, (bt320.2 == 0)))) = some (r1, r2) := h
  clear h
  replace H := Option.bind_eq_some_iff.mp H
  obtain ⟨⟨t320, t321⟩, A30, H⟩ := H
  replace H : (some (t320, (t321 == 0))) = some (r1, r2) := H
  have A3 := Aside0.mk A30
  clear A30
  simp only [Option.some.injEq, Prod.mk.injEq] at H
  obtain ⟨rfl, rfl⟩ := H
  go_enter Tryd.func25, Tryd.ntmps25
  go_wp2_with (first | ((with_reducible refine gate_dst (N := 3) rfl ?_); refine box_event ?hg (N := 3) ?hd (cs := #[.slice A1_0 l1_0.length c1_0, .slice A1_1 l1_1.length c1_1]) (t := 43) ?hr ?_; (case hd => rfl); (case hg => rfl); (case hr => first | (go_simp; done) | (go_simp; rfl)); intro gb319 hg w4 hbox hb; have n0_ := Aside0.mk (below_step (by repeat (first | (with_reducible first | exact HB.out | apply below_alloc | apply pw_below_drewN | apply below_drew1) | exact HB.out)) hb); have n1_ := Aside0.mk (hbox); have n2_ := Aside0.mk ((by rw [hg]; exact (below_size (by repeat (first | (with_reducible first | exact HB.out | apply below_alloc | apply pw_below_drewN | apply below_drew1) | exact HB.out))) : w.heap.size ≤ gb319)); have n3_ := Aside0.mk ((by rw [hg]; exact (below_size (by repeat (first | (with_reducible first | exact HB.out | apply below_alloc | apply pw_below_drewN | apply below_drew1) | exact HB.out))) : w.heap.size ≤ gb319)); clear HB; have HB := n0_; have BK319 := n1_; have GW319 := n2_; have GE319 := n3_; clear n0_ n1_ n2_ n3_; clear hb hbox hg; have hcz5_0 : w4.cell? ⟨gb319, 0, none⟩ = some (.slice A1_0 l1_0.length c1_0) := (blk_cell BK319.out 0).trans rfl; have hcz5_1 : w4.cell? ⟨gb319, 1, none⟩ = some (.slice A1_1 l1_1.length c1_1) := (blk_cell BK319.out 1).trans rfl; have hfz5_0 := blk_frozen BK319.out 0; have hfz5_1 := blk_frozen BK319.out 1) | ((with_reducible refine gate_callee (f := 36) rfl ?_); refine goesL_ (some 11) rfl rfl Tryd.func36 (by kernel_rfl) rfl #[.slice A0 l0.length c0, .agg #[.slice A1_0 l1_0.length c1_0, .slice A1_1 l1_1.length c1_1], .int .i64 3] rfl (by (try simp only [List.map_toArray, List.map_cons, List.map_nil]); first | done | rfl | (simp only [List.length_drop, List.length_take]; rfl)) ?_; (with_reducible refine (word_Holds.calls k _ _ l0 _ _ l1_0 _ _ l1_1 3 t320 t321 _ ?side1 ?side2 ?side3 ?side4 ?side5 ?side6 ?side7 A3.out).mono ?_); (case side1 => repeat (first | exact (Kd.C_below HR0.out HB.out) | (with_reducible refine Kd.C_alloc ?_ _) | (with_reducible refine Kd.C_drewN ?_ _) | (with_reducible refine Kd.C_drew ?_))); (case side2 => exact HC0.out); (case side3 => repeat (first | exact (Kd.C_below HR1_0.out HB.out) | (with_reducible refine Kd.C_alloc ?_ _) | (with_reducible refine Kd.C_drewN ?_ _) | (with_reducible refine Kd.C_drew ?_))); (case side4 => exact HC1_0.out); (case side5 => repeat (first | exact (Kd.C_below HR1_1.out HB.out) | (with_reducible refine Kd.C_alloc ?_ _) | (with_reducible refine Kd.C_drewN ?_ _) | (with_reducible refine Kd.C_drew ?_))); (case side6 => exact HC1_1.out); (case side7 => first | exact hG_ | exact Glob.drewN hG_ _ | exact Glob.below hG_ (by repeat (first | (with_reducible first | exact HB.out | apply below_alloc | apply pw_below_drewN | apply below_drew1 | refine below_set ?_ GE319.out) | exact HB.out))); rintro e w6 ⟨rfl, hb⟩; refine ⟨_, rfl, ?_⟩; have n0_ := Aside0.mk (blk_below (g := gb319) (o := .cells #[.slice A1_0 l1_0.length c1_0, .slice A1_1 l1_1.length c1_1] 43 (0, 0)) (by (with_reducible repeat (first | refine blk_drewN ?_ _ | refine blk_drew ?_ | refine blk_alloc ?_ _)); exact BK319.out) hb); have n1_ := Aside0.mk (below_step (by repeat (first | (with_reducible first | exact HB.out | apply below_alloc | apply pw_below_drewN | apply below_drew1 | refine below_set ?_ GE319.out) | exact HB.out)) hb); clear BK319; clear HB; have BK319 := n0_; have HB := n1_; clear n0_ n1_; (try clear hb); (try clear hb2); (try clear hk); (try clear hi)))
  go_ret2
  exact ⟨by first | rfl | (simp [errW_none, errW_some] <;> rfl) | (simp [*, errW_none, errW_some] <;> rfl), by repeat (first | (with_reducible first | exact HB.out | apply below_alloc | apply pw_below_drewN | apply below_drew1 | refine below_set ?_ GE319.out) | exact HB.out)⟩

end Go.Proofs.YtcoaeefmmnohkaaDoor.P
end
