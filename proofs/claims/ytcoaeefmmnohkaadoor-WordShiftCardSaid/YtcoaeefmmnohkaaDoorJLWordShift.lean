/- The walk of WordShift: what holds at the next moment holds of the word without its first letter. -/
import Derived.WalkSpells
import Derived.StillTailTactics
import Derived.Deep.RegionHeld3
import Derived.Deep.DeepCutAuto
import Derived.Deep.QuietTactic
import Derived.BigQuiet
import Derived.Deep.DrawnRows
import Derived.Test.YtcoaeefmmnohkaaDoorJ16
namespace Go.Proofs.YtcoaeefmmnohkaaDoor.P
open Go.RowKit Go.Proofs.YtcoaeefmmnohkaaDoorW.PrintWords Go.Proofs.YtcoaeefmmnohkaaDoorW.PrintLast Go.Proofs.YtcoaeefmmnohkaaDoorW.PrintMore Go.Proofs.YtcoaeefmmnohkaaDoor.G Go.Proofs.YtcoaeefmmnohkaaDoor.Q
attribute [local go_sem] max2_int min2_int max_two min_two max_three min_three max_four min_four
set_option linter.unusedVariables false
set_option linter.unusedSimpArgs false
/-- A row that is read is read wherever the heap is the same. -/
theorem row_all {w : World} {A : Option Addr} {n : Nat} {xs : List (List Bool)} (h : Kd.C (Kd.slice 4 Kd.bool) w A n xs) : Kd.F (Kd.slice 4 Kd.bool) w (fun k => True ∧ k < w.heap.size) A n xs := Kd.F_bound (fun W' hW => by
  have hz : w.heap.size ≤ W'.heap.size := by
    refine Nat.le_of_not_lt fun hc => ?_
    have h2 := hW W'.heap.size trivial hc
    rw [Array.getElem?_eq_none (Nat.le_refl _), Array.getElem?_eq_getElem hc] at h2
    cases h2
  have hb : Below w.heap.size w { w with heap := W'.heap } := ⟨rfl, rfl, rfl, hz, fun k hk => hW k trivial hk⟩
  have h2 := Kd.C_below h hb
  exact h2)
theorem let_all {w : World} {A : Option Addr} {c : Nat} {l : List Bool} (hl : l.length ≤ c) (h : Kd.C Kd.bool w A l.length l) : Kd.FK (Kd.slice 4 Kd.bool) w (fun k => True ∧ k < w.heap.size) l [.slice A l.length c] := Kd.FK_bound (fun W' hW => by
  have hz : w.heap.size ≤ W'.heap.size := by
    refine Nat.le_of_not_lt fun hc => ?_
    have h2 := hW W'.heap.size trivial hc
    rw [Array.getElem?_eq_none (Nat.le_refl _), Array.getElem?_eq_getElem hc] at h2
    cases h2
  have hb : Below w.heap.size w { w with heap := W'.heap } := ⟨rfl, rfl, rfl, hz, fun k hk => hW k trivial hk⟩
  have h2 := Kd.C_below h hb
  exact ⟨A, c, rfl, hl, h2⟩)
/-- A row of one letter, in a block of its own. -/
theorem one_row {w : World} {q c : Nat} {A : Option Addr} {l : List Bool} {ok : Nat → Prop} (hq : w.heap[q]? = some (.cells #[.slice A l.length c] 30 (0, 0))) (h : Kd.FK (Kd.slice 4 Kd.bool) w ok l [.slice A l.length c]) : Kd.F (Kd.slice 4 Kd.bool) w (fun k => k = q ∨ ok k) (some ⟨q, 0, none⟩) 1 [l] := fun W' hW => by
  have hq' := (hW q (.inl rfl) (blk_lt hq)).trans hq
  have hK := h W' (fun k hk hlt => hW k (.inr hk) hlt)
  have q0 := (blk_cell hq' 0).trans rfl
  refine ⟨rfl, by decide, fun _ => ⟨_, rfl, fun j p hj => ?_⟩⟩
  match j, hj with
  | 0, hj =>
    obtain rfl := Option.some.inj hj
    refine ⟨[.slice A l.length c], rfl, hK, fun i u hu => ?_⟩
    match i, hu with
    | 0, hu =>
      obtain rfl := Option.some.inj hu
      exact q0
/-- A word's box is filled: both words are there. -/
theorem amb_two {w0 W Wv : World} {gw gv m1 m2 : Nat} {X1 X2 Y1 Y2 : Option Addr} {d1 d2 e1 e2 : Nat} {stem loop st lp : List (List Bool)} {L : Trms} {u0 u1 : Value} (ha : Amb w0 W gw X1 X2 d1 d2 stem loop L) (hb : Below W.heap.size W Wv) (hge : W.heap.size ≤ gv) (hv : Wv.heap[gv]? = some (.cells #[u0, u1] 43 (0, 0))) (q1 : m1 = st.length) (q2 : m2 = lp.length)
    (hs : Below W.heap.size W ((Wv.setCell ⟨gv, 0, none⟩ (.slice Y1 m1 e1)).setCell ⟨gv, 1, none⟩ (.slice Y2 m2 e2)) → Kd.C (Kd.slice 4 Kd.bool) ((Wv.setCell ⟨gv, 0, none⟩ (.slice Y1 m1 e1)).setCell ⟨gv, 1, none⟩ (.slice Y2 m2 e2)) Y1 st.length st) (hl : Below W.heap.size W ((Wv.setCell ⟨gv, 0, none⟩ (.slice Y1 m1 e1)).setCell ⟨gv, 1, none⟩ (.slice Y2 m2 e2)) → Kd.C (Kd.slice 4 Kd.bool) ((Wv.setCell ⟨gv, 0, none⟩ (.slice Y1 m1 e1)).setCell ⟨gv, 1, none⟩ (.slice Y2 m2 e2)) Y2 lp.length lp) (h1 : st.length ≤ e1) (h2 : lp.length ≤ e2) :
    Amb w0 ((Wv.setCell ⟨gv, 0, none⟩ (.slice Y1 m1 e1)).setCell ⟨gv, 1, none⟩ (.slice Y2 m2 e2)) gw X1 X2 d1 d2 stem loop L ∧ Amb w0 ((Wv.setCell ⟨gv, 0, none⟩ (.slice Y1 m1 e1)).setCell ⟨gv, 1, none⟩ (.slice Y2 m2 e2)) gv Y1 Y2 e1 e2 st lp L := by
  subst q1
  subst q2
  have hn : Below W.heap.size W ((Wv.setCell ⟨gv, 0, none⟩ (.slice Y1 st.length e1)).setCell ⟨gv, 1, none⟩ (.slice Y2 lp.length e2)) := (hb.setCell (p := ⟨gv, 0, none⟩) hge _).setCell (p := ⟨gv, 1, none⟩) hge _
  exact ⟨ha.below hn, ⟨below_step ha.bel hn, ha.glob.below hn, blk_put (blk_put hv 0 _ rfl) 1 _ rfl, hs hn, hl hn, h1, h2, fun x hx => (ha.ts x hx).below hn⟩⟩
theorem shift_ok {stem loop : List (List Bool)} (h : WordOk 3 stem loop) : WordOk 3 (stem.drop 1) loop :=
  ok_of (by have := h.s; rw [List.length_drop]; omega) h.l1 h.l2 (fun x hx => by
    have hm : x ∈ stem ++ loop := (List.mem_append.1 hx).elim (fun a => List.mem_append_left _ (List.mem_of_mem_drop a)) (fun a => List.mem_append_right _ a)
    have := h.all x hm
    omega)
theorem shift_stem {stem loop : List (List Bool)} (hs : 0 < stem.length) (hl : 0 < loop.length) : uw (stem.drop 1 ++ loop) (stem.drop 1).length 0 = (uw (stem ++ loop) stem.length 0).from_ 1 := by
  have e : stem.drop 1 ++ loop = (stem ++ loop).drop 1 := by rw [List.drop_append_of_le_length (by omega)]
  rw [e, uw_next, List.length_drop]
  have hlen : (stem ++ loop).length = stem.length + loop.length := List.length_append
  have hn : nx (stem ++ loop).length stem.length 0 = 1 := by unfold nx; rw [if_pos (by omega)]
  rw [hn]
  have key : ∀ j i, i + 1 < (stem ++ loop).length → itn (stem ++ loop).length stem.length j (i + 1) = itn ((stem ++ loop).length - 1) (stem.length - 1) j i + 1 := by
    intro j
    induction j with
    | zero => intro i _; rfl
    | succ j ih =>
      intro i hi
      show itn _ _ j (nx _ _ (i + 1)) = itn _ _ j (nx _ _ i) + 1
      have e1 : nx (stem ++ loop).length stem.length (i + 1) = nx ((stem ++ loop).length - 1) (stem.length - 1) i + 1 := by
        unfold nx
        split <;> split <;> omega
      rw [e1, ih _ (by have := nx_lt (n := (stem ++ loop).length - 1) (back := stem.length - 1) (i := i) (by omega); omega)]
  funext j
  show ((stem ++ loop).drop 1).getD (itn ((stem ++ loop).drop 1).length (stem.length - 1) j 0) [] = (stem ++ loop).getD (itn (stem ++ loop).length stem.length j 1) []
  rw [List.length_drop, key j 0 (by omega), List.getD_eq_getElem?_getD, List.getD_eq_getElem?_getD, List.getElem?_drop, Nat.add_comm 1]
theorem turn_at {loop : List (List Bool)} (hl : 0 < loop.length) {i : Nat} (hi : i < loop.length) : (loop.drop 1 ++ [loop.getD 0 []]).getD i [] = loop.getD (nx loop.length 0 i) [] := by
  unfold nx
  by_cases c : i + 1 < loop.length
  · rw [if_pos c, List.getD_eq_getElem?_getD, List.getElem?_append_left (by rw [List.length_drop]; omega), List.getElem?_drop, Nat.add_comm 1, List.getD_eq_getElem?_getD]
  · rw [if_neg c, List.getD_eq_getElem?_getD, List.getElem?_append_right (by rw [List.length_drop]; omega), List.length_drop, show i - (loop.length - 1) = 0 by omega]
    rfl
theorem turn_len {loop : List (List Bool)} (hl : 0 < loop.length) : (loop.drop 1 ++ [loop.getD 0 []]).length = loop.length := by rw [List.length_append, List.length_drop, List.length_singleton]; omega
theorem turn_ok {loop : List (List Bool)} {r0 : List Bool} (hr : loop.getD 0 [] = r0) (h : WordOk 3 [] loop) : WordOk 3 [] (loop.drop 1 ++ [r0]) := by
  have hl := h.l1
  rw [← hr]
  have hlen := turn_len (loop := loop) hl
  refine ok_of (by decide) (by omega) (by have := h.l2; omega) (fun x hx => ?_)
  have hm : x ∈ [] ++ loop := by
    rcases List.mem_append.1 hx with hx | hx
    · cases hx
    rcases List.mem_append.1 hx with hx | hx
    · exact List.mem_of_mem_drop hx
    · obtain rfl := List.mem_singleton.1 hx
      rw [List.getD_eq_getElem?_getD, List.getElem?_eq_getElem (by omega)]
      exact List.getElem_mem _
  have := h.all x hm
  omega
theorem shift_loop {loop : List (List Bool)} (hl : 0 < loop.length) : uw ([] ++ (loop.drop 1 ++ [loop.getD 0 []])) ([] : List (List Bool)).length 0 = (uw ([] ++ loop) ([] : List (List Bool)).length 0).from_ 1 := by
  rw [uw_next]
  funext j
  show (loop.drop 1 ++ [loop.getD 0 []]).getD (itn (loop.drop 1 ++ [loop.getD 0 []]).length 0 j 0) [] = loop.getD (itn loop.length 0 j (nx loop.length 0 0)) []
  rw [turn_len hl, turn_at hl (itn_lt hl j 0 hl)]
  congr 1
  have h1 := itn_add loop.length 0 j 1 0
  have h2 := itn_add loop.length 0 1 j 0
  rw [Nat.add_comm] at h2
  exact (show nx loop.length 0 (itn loop.length 0 j 0) = itn loop.length 0 (j + 1) 0 from h1.symm).trans h2

def foretellkeep_WordShift.T5 : Bool × List (List Nat × List Nat) := (true, [([], []), ([0], [0]), ([1], [1]), ([], []), ([3], [3]), ([2, 4], [2, 4]), ([5, 0, 1, 2, 3, 4, 5], [5])])
def foretellkeep_WordShift.B5 : List Nat := [0, 1, 3, 0, 8, 31, 63]
theorem foretellkeep_WordShift.tab5 : rtab .any (opsOf Tryd.f10 5) = foretellkeep_WordShift.T5 := by kernel_rfl
theorem foretellkeep_WordShift.bits5 : waitsOk foretellkeep_WordShift.T5.2 foretellkeep_WordShift.B5 = true := by kernel_rfl
def foretellkeep_WordShift.T6 : Bool × List (List Nat × List Nat) := (true, [([], []), ([0], [0]), ([1], [1]), ([2], [2]), ([], []), ([4], [4]), ([5], [5]), ([6], [6]), ([7], [7]), ([3, 8, 3], [3, 8]), ([9], [9]), ([10, 9, 0, 1, 2, 3, 4, 5, 6, 7, 8, 9, 10], [10])])
def foretellkeep_WordShift.B6 : List Nat := [0, 1, 3, 7, 0, 16, 48, 112, 240, 511, 1023, 2047]
theorem foretellkeep_WordShift.tab6 : rtab .any (opsOf Tryd.f10 6) = foretellkeep_WordShift.T6 := by kernel_rfl
theorem foretellkeep_WordShift.bits6 : waitsOk foretellkeep_WordShift.T6.2 foretellkeep_WordShift.B6 = true := by kernel_rfl
/-- What is left to prove of the law WordShift in the plain: nothing, its walk says all. -/
def foretellkeep_WordShift.Pur : Prop := True
set_option maxHeartbeats 16000000 in
set_option maxRecDepth 100000 in
theorem foretellkeep_WordShift.wlk (P : foretellkeep_WordShift.Pur) (A0 : Option Addr) (c0 : Nat) (l0 : List (S79)) (A1_0 : Option Addr) (c1_0 : Nat) (l1_0 : List Int) (A1_1 : Option Addr) (c1_1 : Nat) (l1_1 : List Int) (w : World) (hr0 : Kd.C k79 w A0 l0.length l0) (hc0 : l0.length ≤ c0) (hr1_0 : Kd.C (Kd.int .i64) w A1_0 l1_0.length l1_0) (hc1_0 : l1_0.length ≤ c1_0) (hr1_1 : Kd.C (Kd.int .i64) w A1_1 l1_1.length l1_1) (hc1_1 : l1_1.length ≤ c1_1) (w0 : (l0.length ≤ maxLen ∧ ∀ y ∈ l0, ((Lit.int .i64 y.f0).wf = true ∧ (Lit.int .i64 y.f1).wf = true))) (w1 : ((l1_0.length ≤ maxLen ∧ ∀ y ∈ l1_0, (Lit.int .i64 y).wf = true) ∧ (l1_1.length ≤ maxLen ∧ ∀ y ∈ l1_1, (Lit.int .i64 y).wf = true))) (hG_ : Glob w) :
    Calls Tryd.prog 10 #[.slice A0 l0.length c0, .agg #[.slice A1_0 l1_0.length c1_0, .slice A1_1 l1_1.length c1_1]] w fun e w' => e = .returned (.bool true) ∧ Below w.heap.size w w' := by
  have R0 := Aside0.mk hr0
  have L0 := Aside0.mk hc0
  have F0 := Aside0.mk w0.2
  have S0 := Aside0.mk hr1_0
  have T0 := Aside0.mk hc1_0
  have S1 := Aside0.mk hr1_1
  have T1 := Aside0.mk hc1_1
  have V0 := Aside0.mk w1.1.2
  have V1 := Aside0.mk w1.2.2
  have GL := Aside0.mk hG_
  clear hr0 hc0 w0 hr1_0 hc1_0 hr1_1 hc1_1 w1 hG_ P
  go_enter Tryd.func10, Tryd.ntmps10
  go_upto_region 4 with (first | (go_at_call 23; go_must (refine (word_sem V0.out V1.out A1_0 A1_1 c1_0 c1_1 ?h0 T0.out ?h1 T1.out).mono ?_; (case h0 => exact Kd.C_below S0.out (below_alloc (Below.refl _ _) _)); (case h1 => exact Kd.C_below S1.out (below_alloc (Below.refl _ _) _)); rintro e w1 ⟨X1, X2, d1, d2, stem, loop, rfl, z1, z2, z3, z4, hs, hl, sc, lc, hb⟩; have ZZ := Aside0.mk (And.intro z1 (And.intro z2 (And.intro z3 z4))); have HS := Aside0.mk hs; have HL := Aside0.mk hl; have SL := Aside0.mk (And.intro sc lc); have B1 := Aside0.mk (below_step (below_alloc (Below.refl _ _) _) hb); clear z1 z2 z3 z4 hs hl sc lc hb)) | ((with_reducible refine gate_dst (N := 5) rfl ?_); go_must (refine box_event ?hg (N := 5) ?hd (cs := #[.slice none 0 0, .slice none 0 0]) (t := 43) ?hr ?_; (case hd => rfl); (case hg => rfl); (case hr => first | (go_simp; done) | (go_simp; rfl)); intro gw hgw w2 hbox hb; have KW := Aside0.mk hbox; have GW := Aside0.mk hgw; have BW := Aside0.mk hb; have ka := (blk_cell hbox 0).trans rfl; have kb := (blk_cell hbox 1).trans rfl; have fa := blk_frozen hbox 0; have fb := blk_frozen hbox 1; clear hb hbox hgw)) | ((with_reducible refine gate_store (t := 43) (p := 5) (v := .tmp 15) rfl ?_); go_must (refine store_event (t := 43) (p := 5) (v := .tmp 15) (w1 := ((w2.setCell ⟨gw, 0, none⟩ (.slice X1 stem.length d1)).setCell ⟨gw, 1, none⟩ (.slice X2 loop.length d2))) ?hg ?ho ?hn ?hr ?_; (case ho => rfl); (case hg => rfl); (case hn => rfl); (case hr => first | (go_simp; done) | (go_simp; rfl)); intro w3 hw; have BX := Aside0.mk (show Below w1.heap.size w1 w3 from by rw [hw]; exact (BW.out.setCell (p := ⟨gw, 0, none⟩) (by have := GW.out; show _ ≤ gw; omega) _).setCell (p := ⟨gw, 1, none⟩) (by have := GW.out; show _ ≤ gw; omega) _); have HA : Aside0 (Amb w w3 gw X1 X2 d1 d2 stem loop []) := Aside0.mk ⟨below_step B1.out BX.out, GL.out.below (below_step B1.out BX.out), (by rw [hw]; exact blk_put (blk_put KW.out 0 _ rfl) 1 _ rfl), Kd.C_below HS.out BX.out, Kd.C_below HL.out BX.out, SL.out.1, SL.out.2, fun x hx => by simp at hx⟩; clear hw ka kb fa fb KW GW BW HS HL SL B1 BX)) | (go_at_call_of 16 (Value.slice A0 l0.length c0); go_must (refine (formula_sem F0.out 4 (by decide) (by decide) A0 c0 (Kd.C_below R0.out HA.out.bel) L0.out).mono ?_; rintro e w4 ⟨Bf, nf, ef, f, rfl, hf, sf, tf, hT, hb⟩; have Gf := Aside0.mk (And.intro hf (And.intro sf tf)); replace HA := Aside0.mk ((HA.out.below hb).add hT); clear hf sf tf hT hb)) | ((with_reducible refine gate_dst (N := 7) rfl ?_); go_must (refine box_event ?hg (N := 7) ?hd (cs := #[.slice none 0 0, .slice none 0 0]) (t := 43) ?hr ?_; (case hd => rfl); (case hg => rfl); (case hr => first | (go_simp; done) | (go_simp; rfl)); intro gv hgv w5 hbox hb; have KV := Aside0.mk hbox; have GV := Aside0.mk (Nat.le_of_eq hgv.symm); have BV := Aside0.mk hb; clear hb hbox hgv)))
  have WO := Aside0.mk (ok_of (by have := ZZ.out.1; omega) ZZ.out.2.1 (by have := ZZ.out.2.2.1; omega) ZZ.out.2.2.2)
  have H5 := Aside0.mk (HA.out.below BV.out)
  have k0 := H5.out.c0
  have k1 := H5.out.c1'
  have ka := (blk_cell KV.out 0).trans rfl
  have kb := (blk_cell KV.out 1).trans rfl
  have fa := blk_frozen KV.out 0
  have fb := blk_frozen KV.out 1
  have LP := Aside0.mk (show 0 < loop.length from by have := WO.out.l1; omega)
  have LB := Aside0.mk (show stem.length ≤ 12 ∧ loop.length ≤ 12 from ⟨WO.out.s, WO.out.l2⟩)
  have infoR := (by kernel_rfl : (Tryd.prog.info? 30).map (fun i => (i.zero, i.size, i.bytes)) = some (some (.slice none 0 0), 1, 24))
  go_upto_if 21 with fail
  go_cut [] (fun wc => ∃ (Y1 Y2 : Option Addr) (e1 e2 : Nat) (st lp : List (List Bool)), Aside0 (Amb w wc gw X1 X2 d1 d2 stem loop [(Bf, nf, ef, f)]) ∧ Aside0 (Amb w wc gv Y1 Y2 e1 e2 st lp [(Bf, nf, ef, f)]) ∧ Aside0 (WordOk 3 st lp ∧ uw (st ++ lp) st.length 0 = (uw (stem ++ loop) stem.length 0).from_ 1))
  case first =>
    by_cases hs0 : 0 < stem.length
    · have b1 : decide ((stem.length : Int) > 0) = true := decide_eq_true (by omega)
      have b2 : decide ((0 : Int) < (stem.length : Int)) = true := decide_eq_true (by omega)
      have b3 : ((0 : Int) < (stem.length : Int)) = True := eq_true (by omega)
      have b4 : (0 < stem.length) = True := eq_true hs0
      have HS0 := Aside0.mk hs0
      obtain ⟨Y, hY⟩ : ∃ Y, (if d1 = 1 then X1 else X1.map (·.add (1 * 1))) = Y := ⟨_, rfl⟩
      have hcut : ∀ W : World, (Instr.slice 41 (.slice X1 stem.length d1) (some (.int .i64 1)) none none).run Tryd.prog W = .ok (.slice Y (stem.length - 1) (d1 - 1)) W := by
        obtain ⟨i0, hi0, _, hsz, _⟩ := info_parts infoR
        intro W
        have hsc := HA.out.sc
        rw [cut_from 41 30 .i64 Tryd.underlying41 hi0 1 hsz X1 stem.length d1 1 (by omega) (by omega) W, show (1 : Int).toNat = 1 from rfl, hY]
      have hCY := Kd.C_drop (m := 1) HA.out.s (by omega) HA.out.sc
      rw [show (Kd.slice 4 Kd.bool).sz = 1 from rfl, hY] at hCY
      have HCY := Aside0.mk hCY
      clear hCY hY hs0
      go_upto_region 5 with fail
      rotate_left
      · rename_i hn_
        exact absurd HS0.out hn_
      refine start_ (n := 7) (S := fun w' => w'.cell? ⟨gw, 0, none⟩ = some (.slice X1 stem.length d1) ∧ w'.cell? ⟨gw, 1, none⟩ = some (.slice X2 loop.length d2)) (ds := [6]) (bl 7 0) (by kernel_rfl) rfl (by kernel_rfl) ⟨k0, k1⟩ (fun hHeld => ?_)
      refine with_tabW foretellkeep_WordShift.tab5 foretellkeep_WordShift.bits5 (fun HT_ HW_ => ?_)
      refine puQ 0 (some 22) (bl 7 1) ?_
      refine puQ 3 (some 25) (bl 7 9) ?_
      refine taQ 1 (some 23) (bl 7 11) hHeld ?_
      refine puQ 2 (some 24) (bl 7 15) ?_
      refine taQ 4 (some 26) (bl 7 31) hHeld ?_
      refine puQ 5 (some 27) (bl 7 63) ?_
      refine last_ (i := 6) (N := none) (bl 7 127) rfl rfl (one_of HT_.out (by kernel_rfl)) (by decide) (fun K hK => ?_)
      refine skip_ (w1 := ?_) (by rfl) rfl ?_ ?_
      rotate_left
      · go_simp
        rfl
      refine hK.out _ _ ?_
      clear hK K
      refine done_ (done_of HT_.out (by kernel_rfl)) ?_
      go_wp2
      go_meet
      case rel =>
        obtain ⟨ha1, ha2⟩ := amb_two (st := stem.drop 1) (lp := loop) (Y1 := Y) (Y2 := X2) (e1 := d1 - 1) (e2 := d2) HA.out BV.out GV.out KV.out (List.length_drop).symm rfl (fun hn => Kd.C_below HCY.out hn) (fun hn => Kd.C_below HA.out.l hn) (by have := HA.out.sc; rw [List.length_drop]; omega) HA.out.lc
        exact ⟨Y, X2, d1 - 1, d2, stem.drop 1, loop, ⟨ha1.below (below_drew (Below.refl _ _))⟩, ⟨ha2.below (below_drew (Below.refl _ _))⟩, ⟨shift_ok WO.out, shift_stem HS0.out LP.out⟩⟩
    · have b1 : decide ((stem.length : Int) > 0) = false := decide_eq_false (by omega)
      have b2 : decide ((0 : Int) < (stem.length : Int)) = false := decide_eq_false (by omega)
      have b3 : ((0 : Int) < (stem.length : Int)) = False := eq_false (by omega)
      have b4 : (0 < stem.length) = False := eq_false hs0
      have hnil : stem = [] := List.eq_nil_of_length_eq_zero (by omega)
      have HS0 := Aside0.mk hnil
      have hlp := LP.out
      obtain ⟨Y, hY⟩ : ∃ Y, (if d2 = 1 then X2 else X2.map (·.add (1 * 1))) = Y := ⟨_, rfl⟩
      have hcut : ∀ W : World, (Instr.slice 41 (.slice X2 loop.length d2) (some (.int .i64 1)) none none).run Tryd.prog W = .ok (.slice Y (loop.length - 1) (d2 - 1)) W := by
        obtain ⟨i0, hi0, _, hsz, _⟩ := info_parts infoR
        intro W
        have hsc := HA.out.lc
        rw [cut_from 41 30 .i64 Tryd.underlying41 hi0 1 hsz X2 loop.length d2 1 (by omega) (by omega) W, show (1 : Int).toNat = 1 from rfl, hY]
      have hFY := Kd.F_cut (m := 1) (row_all HA.out.l) (by omega) HA.out.lc
      rw [show (Kd.slice 4 Kd.bool).sz = 1 from rfl, hY] at hFY
      have HFY := Aside0.mk hFY
      obtain ⟨adr, ccr, er, hclr, ⟨Ar, cr, rfl, hlr, hCr⟩, hcell⟩ := Kd.C_get HA.out.l ([] : List Bool) 0 (by omega) (by omega)
      subst er
      have hxc := pw_cell_below BV.out (hcell 0 _ rfl)
      simp only [show (Kd.slice 4 Kd.bool).sz = 1 from rfl, Nat.mul_one, Nat.add_zero, Int.toNat_zero] at hxc
      rw [show adr.add 0 = adr by cases adr; simp [Addr.add]] at hxc
      have HFR := Aside0.mk (let_all hlr hCr)
      simp only [Int.toNat_zero] at HFR
      obtain ⟨r0, hr0⟩ : ∃ r0, loop.getD 0 [] = r0 := ⟨_, rfl⟩
      rw [hr0] at hxc HFR
      have HR0 := Aside0.mk hr0
      have GL5 := Aside0.mk (blk_lt KV.out)
      clear hr0
      have q0 : ((0 : Int) < (loop.length : Int)) = True := eq_true (by omega)
      have q1 : (0 < loop.length) = True := eq_true hlp
      clear hFY hY hs0 hnil hcell hclr hlr hCr
      go_upto_region 5 with fail
      · rename_i hn_
        exact absurd hn_ (by rw [HS0.out]; simp)
      refine start_ (n := 12) (S := fun w' => w'.cell? ⟨gw, 1, none⟩ = some (.slice (some adr) loop.length d2) ∧ w'.cell? adr = some (.slice Ar r0.length cr)) (ds := [11]) (bl 12 0) (by kernel_rfl) rfl (by kernel_rfl) ⟨k1, hxc⟩ (fun hHeld => ?_)
      refine with_tabW foretellkeep_WordShift.tab6 foretellkeep_WordShift.bits6 (fun HT_ HW_ => ?_)
      refine puQ 0 (some 28) (bl 12 1) ?_
      refine puQ 4 (some 32) (bl 12 17) ?_
      refine taQ 1 (some 29) (bl 12 19) hHeld ?_
      refine puQ 2 (some 30) (bl 12 23) ?_
      refine taQ 5 (some 33) (bl 12 55) hHeld ?_
      refine puQ 6 (some 34) (bl 12 119) ?_
      refine taQ 7 (some 35) (bl 12 247) hHeld ?_
      refine two_ (i := 3) (j := 8) (Ni := some 31) (Nj := some 36) (bl 12 255) (bl 12 503) rfl rfl rfl rfl (two_of HT_.out (by kernel_rfl)) (by decide) (by decide) (fun K hK => ?_) (fun K hK => ?_)
      · skip
        refine Kd.N_append_rows_step (Kd.slice 4 Kd.bool) (w0 := w5) w5.heap.size (by rfl) (.const (.slice none 0 0)) (.tmp 30) 41 30 (.slice none 0 0) 24 (by rfl) Tryd.underlying41 infoR rfl (by decide) (by omega) (.slice none 0 0) ([] : List (List Bool)) (loop.drop 1) Y (loop.length - 1) (d2 - 1) (fun k => k ≠ gv) (fun k => True ∧ k < w4.heap.size) (by rfl) (by rfl) (Kd.N_nil _ _ _ _ _) (by rw [show loop.length - 1 = (loop.drop 1).length from List.length_drop.symm]; exact Kd.F_step HFY.out (fun k _ hk => ((below_step BV.out (show Below w5.heap.size w5 _ from (by repeat (first | assumption | exact Below.refl _ _ | exact BD.out | apply below_drew1 | apply below_alloc | apply pw_below_drewN)))).block k hk))) (fun k hk => ⟨fun e => by have h1 := GV.out; have h2 := hk.2; omega, by simp [Value.ownBlock]⟩) (fun k hk => Nat.ne_of_gt (Nat.lt_of_lt_of_le GL5.out (Nat.le_trans (Below.size (B := w5.heap.size) (w := w5) (by repeat (first | assumption | exact Below.refl _ _ | exact BD.out | apply below_drew1 | apply below_alloc | apply pw_below_drewN))) hk))) (by repeat (first | assumption | exact Below.refl _ _ | exact BD.out | apply below_drew1 | apply below_alloc | apply pw_below_drewN)) (below_size (by repeat (first | assumption | exact Below.refl _ _ | exact BD.out | apply below_drew1 | apply below_alloc | apply pw_below_drewN))) (by have := LB.out; simp only [List.length_nil]; omega) ?_
        intro va w8 hra hba hga hata
        rw [List.nil_append] at hra
        have HRA := Aside0.mk hra
        have HBA := Aside0.mk hba
        have HTA := Aside0.mk hata
        clear hra hba hata hga
        have z1 := pw_cell_below HBA.out k1
        have z2 := pw_cell_below HBA.out hxc
        refine hK.out _ _ ⟨z1, z2⟩ (fun hHeld => ?_)
        clear hK K
        refine norm_ (a' := ?_) ?_ ?_
        rotate_left
        · show Act.put _ (some 31) _ = _
          simp only [Act.put, List.setIfInBounds_toArray, List.set_cons_zero, List.set_cons_succ, i64_w, i32_w]
          rfl
        refine one_ (i := 8) (N := some 36) (bl 12 511) rfl rfl (one_of HT_.out (by kernel_rfl)) (by decide) (fun K hK => ?_)
        refine value_ (w1 := ?_) (v := ?_) (by rfl) rfl ?_ ?_
        rotate_left 2
        · go_simp
          constructor
          · rfl
          · rfl
        refine hK.out _ _ ⟨(World.cell?_alloc_lt _ _ _ (World.block_lt_of_cell? _ _ (hHeld.1))).trans (hHeld.1), (World.cell?_alloc_lt _ _ _ (World.block_lt_of_cell? _ _ (hHeld.2))).trans (hHeld.2)⟩ (fun hHeld => ?_)
        clear hK K
        refine norm_ (a' := ?_) ?_ ?_
        rotate_left
        · show Act.put _ (some 36) _ = _
          simp only [Act.put, List.setIfInBounds_toArray, List.set_cons_zero, List.set_cons_succ, i64_w, i32_w]
          rfl
        refine one_ (i := 9) (N := some 37) (bl 12 1023) rfl rfl (one_of HT_.out (by kernel_rfl)) (by decide) (fun K hK => ?_)
        refine Kd.N_append_step (Kd.slice 4 Kd.bool) (w0 := w5) w5.heap.size (by rfl) (.tmp 31) (.tmp 36) 41 30 (.slice none 0 0) 24 (by rfl) Tryd.underlying41 infoR rfl (by decide) (by omega) va (loop.drop 1) r0 [.slice Ar r0.length cr] (fun k => k ≠ gv) (fun k => True ∧ k < w4.heap.size) (by rfl) (by rfl) (Kd.FK_step HFR.out (fun k _ hk => (below_step BV.out HBA.out).block k hk)) (fun k hk => ⟨fun e => by have h1 := GV.out; have h2 := GL5.out; have h3 := (show w5.drew.heap.size = w5.heap.size from rfl); omega, fun e => by rcases HTA.out with h | ⟨b, h, hb⟩ <;> rw [h] at e <;> simp [Value.ownBlock] at e; have hg5 := (show w4.heap.size ≤ w5.heap.size from BV.out.size); have hz := (show w5.heap.size ≤ w5.drew.heap.size from (below_drew (Below.refl 0 w5)).size); have := hk.2; omega⟩) (fun k hk e => by have h2 := GL5.out; have h3 := below_size HBA.out; omega) HRA.out HBA.out (below_size HBA.out) (by have := LB.out; simp only [List.length_drop]; omega) ?_
        intro vb w9 hrb hbb hgb hatb
        clear hgb
        obtain ⟨Yb, eb, rfl⟩ := Kd.N_slice hrb
        have HRB := Aside0.mk hrb
        have HBB := Aside0.mk hbb
        have HTB := Aside0.mk hatb
        clear hrb hbb hatb
        have ka9 := (blk_cell (blk_below KV.out HBB.out) 0).trans rfl
        have kb9 := (blk_cell (blk_below KV.out HBB.out) 1).trans rfl
        have fa9 := blk_frozen (blk_below KV.out HBB.out) 0
        have fb9 := blk_frozen (blk_below KV.out HBB.out) 1
        have z3 := pw_cell_below HBB.out k1
        have z4 := pw_cell_below HBB.out hxc
        refine hK.out _ _ ⟨z3, z4⟩ (fun hHeld => ?_)
        clear hK K
        refine norm_ (a' := ?_) ?_ ?_
        rotate_left
        · show Act.put _ (some 37) _ = _
          simp only [Act.put, List.setIfInBounds_toArray, List.set_cons_zero, List.set_cons_succ, i64_w, i32_w]
          rfl
        refine puQ 10 (some 38) (bl 12 2047) ?_
        refine last_ (i := 11) (N := none) (bl 12 4095) rfl rfl (one_of HT_.out (by kernel_rfl)) (by decide) (fun K hK => ?_)
        refine skip_ (w1 := ?_) (by rfl) rfl ?_ ?_
        rotate_left
        · go_simp
          rfl
        refine hK.out _ _ ?_
        clear hK K
        refine done_ (done_of HT_.out (by kernel_rfl)) ?_
        go_wp2
        go_meet
        case rel =>
          obtain ⟨ha1, ha2⟩ := amb_two (st := []) (lp := loop.drop 1 ++ [r0]) (Y1 := none) (Y2 := Yb) (m1 := 0) (m2 := loop.length - 1 + 1) (e1 := 0) (e2 := eb) HA.out (below_step BV.out HBB.out) GV.out (blk_below KV.out HBB.out) rfl (by simp) (fun _ => ⟨rfl, by decide, fun h => absurd h (by decide)⟩) (fun _ => (Kd.N_reads' (Kd.N_far (p := ⟨gv, 1, none⟩) (Kd.N_far (p := ⟨gv, 0, none⟩) HRB.out (fun _ hk => hk) _) (fun _ hk => hk) _)).2.2) (Nat.le_refl _) (Kd.N_reads' HRB.out).2.1
          refine ⟨none, Yb, 0, eb, [], loop.drop 1 ++ [r0], ⟨?_⟩, ⟨?_⟩, ⟨turn_ok HR0.out (HS0.out ▸ WO.out), by rw [← HR0.out, HS0.out]; exact shift_loop LP.out⟩⟩
          · exact ha1
          · exact ha2
      · skip
        refine value_ (w1 := ?_) (v := ?_) (by rfl) rfl ?_ ?_
        rotate_left 2
        · go_simp
          constructor
          · rfl
          · rfl
        have KB := Aside0.mk (blk_new w5.drew (.cells #[.slice Ar r0.length cr] 30 (0, 0)))
        have BD := Aside0.mk (below_alloc (below_drew (Below.refl w5.heap.size w5)) (.cells #[.slice Ar r0.length cr] 30 (0, 0)))
        refine hK.out _ _ ⟨(World.cell?_alloc_lt _ _ _ (World.block_lt_of_cell? _ _ (hHeld.1))).trans (hHeld.1), (World.cell?_alloc_lt _ _ _ (World.block_lt_of_cell? _ _ (hHeld.2))).trans (hHeld.2)⟩ (fun hHeld => ?_)
        clear hK K
        refine norm_ (a' := ?_) ?_ ?_
        rotate_left
        · show Act.put _ (some 36) _ = _
          simp only [Act.put, List.setIfInBounds_toArray, List.set_cons_zero, List.set_cons_succ, i64_w, i32_w]
          rfl
        refine one_ (i := 3) (N := some 31) (bl 12 511) rfl rfl (one_of HT_.out (by kernel_rfl)) (by decide) (fun K hK => ?_)
        refine Kd.N_append_rows_step (Kd.slice 4 Kd.bool) (w0 := w5) w5.heap.size (by rfl) (.const (.slice none 0 0)) (.tmp 30) 41 30 (.slice none 0 0) 24 (by rfl) Tryd.underlying41 infoR rfl (by decide) (by omega) (.slice none 0 0) ([] : List (List Bool)) (loop.drop 1) Y (loop.length - 1) (d2 - 1) (fun k => k ≠ gv) (fun k => True ∧ k < w4.heap.size) (by rfl) (by rfl) (Kd.N_nil _ _ _ _ _) (by rw [show loop.length - 1 = (loop.drop 1).length from List.length_drop.symm]; exact Kd.F_step HFY.out (fun k _ hk => ((below_step BV.out (show Below w5.heap.size w5 _ from (by repeat (first | assumption | exact Below.refl _ _ | exact BD.out | apply below_drew1 | apply below_alloc | apply pw_below_drewN)))).block k hk))) (fun k hk => ⟨fun e => by have h1 := GV.out; have h2 := hk.2; omega, by simp [Value.ownBlock]⟩) (fun k hk => Nat.ne_of_gt (Nat.lt_of_lt_of_le GL5.out (Nat.le_trans (Below.size (B := w5.heap.size) (w := w5) (by repeat (first | assumption | exact Below.refl _ _ | exact BD.out | apply below_drew1 | apply below_alloc | apply pw_below_drewN))) hk))) (by repeat (first | assumption | exact Below.refl _ _ | exact BD.out | apply below_drew1 | apply below_alloc | apply pw_below_drewN)) (below_size (by repeat (first | assumption | exact Below.refl _ _ | exact BD.out | apply below_drew1 | apply below_alloc | apply pw_below_drewN))) (by have := LB.out; simp only [List.length_nil]; omega) ?_
        intro va w8 hra hba hga hata
        rw [List.nil_append] at hra
        have HRA := Aside0.mk hra
        have HBA := Aside0.mk hba
        have HTA := Aside0.mk hata
        have KB8 := Aside0.mk (blk_grown KB.out hga (by simp [Value.ownBlock]))
        clear hra hba hata hga
        have z1 := pw_cell_below HBA.out k1
        have z2 := pw_cell_below HBA.out hxc
        refine hK.out _ _ ⟨z1, z2⟩ (fun hHeld => ?_)
        clear hK K
        refine norm_ (a' := ?_) ?_ ?_
        rotate_left
        · show Act.put _ (some 31) _ = _
          simp only [Act.put, List.setIfInBounds_toArray, List.set_cons_zero, List.set_cons_succ, i64_w, i32_w]
          rfl
        refine one_ (i := 9) (N := some 37) (bl 12 1023) rfl rfl (one_of HT_.out (by kernel_rfl)) (by decide) (fun K hK => ?_)
        refine Kd.N_append_rows_step (Kd.slice 4 Kd.bool) (w0 := w5) w5.heap.size (by rfl) (.tmp 31) (.tmp 36) 41 30 (.slice none 0 0) 24 (by rfl) Tryd.underlying41 infoR rfl (by decide) (by omega) va (loop.drop 1) [r0] (some ⟨w5.drew.heap.size, 0, none⟩) 1 1 (fun k => k ≠ gv) (fun k => k = w5.drew.heap.size ∨ (True ∧ k < w4.heap.size)) (by rfl) (by rfl) HRA.out (one_row KB8.out (Kd.FK_step HFR.out (fun k _ hk => (below_step BV.out HBA.out).block k hk))) (fun k hk => ⟨fun e => by have h1 := GV.out; have h2 := GL5.out; have h3 := (show w5.drew.heap.size = w5.heap.size from rfl); omega, fun e => by rcases HTA.out with h | ⟨b, h, hb⟩ <;> rw [h] at e <;> simp [Value.ownBlock] at e; have hg5 := (show w4.heap.size ≤ w5.heap.size from BV.out.size); have hz := (show w5.heap.size ≤ w5.drew.heap.size from (below_drew (Below.refl 0 w5)).size); have hz3 : w5.drew.heap.size = w5.heap.size := rfl; have hb2 : w5.heap.size + 1 ≤ b := Nat.le_trans (Nat.le_of_eq (World.size_alloc w5 _).symm) hb; omega⟩) (fun k hk e => by have h2 := GL5.out; have h3 := below_size HBA.out; omega) HBA.out (below_size HBA.out) (by have := LB.out; simp only [List.length_drop]; omega) ?_
        intro vb w9 hrb hbb hgb hatb
        clear hgb
        obtain ⟨Yb, eb, rfl⟩ := Kd.N_slice hrb
        have HRB := Aside0.mk hrb
        have HBB := Aside0.mk hbb
        have HTB := Aside0.mk hatb
        clear hrb hbb hatb
        have ka9 := (blk_cell (blk_below KV.out HBB.out) 0).trans rfl
        have kb9 := (blk_cell (blk_below KV.out HBB.out) 1).trans rfl
        have fa9 := blk_frozen (blk_below KV.out HBB.out) 0
        have fb9 := blk_frozen (blk_below KV.out HBB.out) 1
        have z3 := pw_cell_below HBB.out k1
        have z4 := pw_cell_below HBB.out hxc
        refine hK.out _ _ ⟨z3, z4⟩ (fun hHeld => ?_)
        clear hK K
        refine norm_ (a' := ?_) ?_ ?_
        rotate_left
        · show Act.put _ (some 37) _ = _
          simp only [Act.put, List.setIfInBounds_toArray, List.set_cons_zero, List.set_cons_succ, i64_w, i32_w]
          rfl
        refine puQ 10 (some 38) (bl 12 2047) ?_
        refine last_ (i := 11) (N := none) (bl 12 4095) rfl rfl (one_of HT_.out (by kernel_rfl)) (by decide) (fun K hK => ?_)
        refine skip_ (w1 := ?_) (by rfl) rfl ?_ ?_
        rotate_left
        · go_simp
          rfl
        refine hK.out _ _ ?_
        clear hK K
        refine done_ (done_of HT_.out (by kernel_rfl)) ?_
        go_wp2
        go_meet
        case rel =>
          obtain ⟨ha1, ha2⟩ := amb_two (st := []) (lp := loop.drop 1 ++ [r0]) (Y1 := none) (Y2 := Yb) (m1 := 0) (m2 := loop.length - 1 + 1) (e1 := 0) (e2 := eb) HA.out (below_step BV.out HBB.out) GV.out (blk_below KV.out HBB.out) rfl (by simp) (fun _ => ⟨rfl, by decide, fun h => absurd h (by decide)⟩) (fun _ => (Kd.N_reads' (Kd.N_far (p := ⟨gv, 1, none⟩) (Kd.N_far (p := ⟨gv, 0, none⟩) HRB.out (fun _ hk => hk) _) (fun _ hk => hk) _)).2.2) (Nat.le_refl _) (Kd.N_reads' HRB.out).2.1
          refine ⟨none, Yb, 0, eb, [], loop.drop 1 ++ [r0], ⟨?_⟩, ⟨?_⟩, ⟨turn_ok HR0.out (HS0.out ▸ WO.out), by rw [← HR0.out, HS0.out]; exact shift_loop LP.out⟩⟩
          · exact ha1
          · exact ha2
  case rest =>
    obtain ⟨Y1, Y2, e1, e2, st, lp, HC, HV, HW⟩ := hcut
    clear k0 k1 ka kb fa fb HA H5 KV GV BV
    have HA := HC
    clear HC
    have y0 := HA.out.c0
    have y1 := HA.out.c1'
    have hne := World.new_ne _ ⟨gw, 0, none⟩ y0
    go_upto_region 7 with fail
    go_region_held3 (fun w' => w'.cell? ⟨gw, 0, none⟩ = some (.slice X1 stem.length d1) ∧ w'.cell? ⟨gw, 1, none⟩ = some (.slice X2 loop.length d2)) (go_keep)
      ((first | (go_at_call 21; refine (joined1_sem 14 _ HA.out (below_drew1 (below_alloc (Below.refl _ _) _)) ((blk_cell (blk_new _ _) 0).trans rfl) (by (repeat (first | exact List.Mem.head _ | refine List.Mem.tail _ ?_))) (by have := Gf.out.2.1; (try simp only [Tm.size]); omega)).mono ?_; rintro e wj ⟨Bj, nj, ej, rfl, hj, hbj⟩; have z0 := hj.c0; have z1 := hj.c1'; replace HV := Aside0.mk (HV.out.below hbj); replace HA := Aside0.mk hj; clear hj hbj) | (go_at_call 25; refine (holds_sem (t := .un ⟨14, 0⟩ f) WO.out HA.out (Below.refl _ _) (HA.out.get (List.Mem.head _)) ⟨(.look 14 _ (by decide) Gf.out.1), (by have := Gf.out.2.1; have := Gf.out.2.2; (try simp only [Tm.size]); omega), (by have := Gf.out.2.1; have := Gf.out.2.2; (try simp [Tm.tempo]); omega)⟩).mono ?_; rintro e u1 ⟨va, rfl, hv, ha, hb⟩; have HP := Aside0.mk hv; have z0 := ha.c0; have z1 := ha.c1'; replace HV := Aside0.mk (HV.out.below hb); have z2 := HV.out.c0; have z3 := HV.out.c1'; replace HA := Aside0.mk ha; clear hv ha hb)))
    clear y0 y1 hne
    go_upto_region 9 with (go_at_call 25; go_must (refine (holds_sem (t := f) HW.out.1 HV.out (Below.refl _ _) (HV.out.get (by (repeat (first | exact List.Mem.head _ | refine List.Mem.tail _ ?_)))) ⟨Gf.out.1, (by have := Gf.out.2.1; have := Gf.out.2.2; (try simp only [Tm.size]); omega), (by have := Gf.out.2.1; have := Gf.out.2.2; (try simp [Tm.tempo]); omega)⟩).mono ?_; rintro e u2 ⟨vb, rfl, hv, ha, hb⟩; obtain rfl : vb = va := Bool.eq_iff_iff.mpr (hv.trans (by rw [HW.out.2]; exact HP.out.symm)); replace HA := Aside0.mk (HA.out.below hb); clear hv ha hb z0 z1 z2 z3))
    have k2 : ∀ o, (u2.alloc o).cell? ⟨gw, 0, none⟩ = some (.slice X1 stem.length d1) := fun o => (HA.out.below (below_alloc (Below.refl _ _) o)).c0
    have k3 : ∀ o, (u2.alloc o).cell? ⟨gw, 1, none⟩ = some (.slice X2 loop.length d2) := fun o => (HA.out.below (below_alloc (Below.refl _ _) o)).c1'
    go_wp2_with (go_at_call 25; go_must (refine (holds_sem (t := .leaf ⟨11, 0⟩) WO.out (HA.out.below (below_alloc (Below.refl _ _) _)) (Below.refl _ _) (trm_lit (blk_new _ _)) ⟨.yes 11 (.inl rfl), by decide, by decide⟩).mono ?_; rintro e w9 ⟨v9, rfl, hv, ha, _⟩; obtain rfl : v9 = true := hv.mpr rfl; have B9 := Aside0.mk ha.bel; clear hv ha))
    go_ret
    exact ⟨rfl, B9.out⟩
end Go.Proofs.YtcoaeefmmnohkaaDoor.P
