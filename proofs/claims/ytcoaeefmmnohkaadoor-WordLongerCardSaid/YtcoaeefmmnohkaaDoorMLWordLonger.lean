/- The walk of WordLonger: a word may be told in other ways: its loop twice, or a letter of the loop in the stem: the same holds. -/
import Derived.WalkSpells
import Derived.StillTailTactics
import Derived.Deep.RegionHeld3
import Derived.Deep.DeepCutAuto
import Derived.Deep.QuietTactic
import Derived.BigQuiet
import Derived.Deep.DrawnRows
import Derived.Test.YtcoaeefmmnohkaaDoorM16
namespace Go.Proofs.YtcoaeefmmnohkaaDoor.P
open Go.RowKit Go.Proofs.YtcoaeefmmnohkaaDoorW.PrintWords Go.Proofs.YtcoaeefmmnohkaaDoorW.PrintLast Go.Proofs.YtcoaeefmmnohkaaDoorW.PrintMore Go.Proofs.YtcoaeefmmnohkaaDoor.G Go.Proofs.YtcoaeefmmnohkaaDoor.Q
attribute [local go_sem] max2_int min2_int max_two min_two max_three min_three max_four min_four
set_option linter.unusedVariables false
set_option linter.unusedSimpArgs false
/-- A row that is read is read wherever the heap is the same. -/
theorem row_all {w : World} {A : Option Addr} {n : Nat} {xs : List (List Bool)} (h : Kd.C (Kd.slice 4 Kd.bool) w A n xs) : Kd.F (Kd.slice 4 Kd.bool) w (fun k => True ∧ k < w.heap.size) A n xs := Kd.F_bound (fun W' hW => by
  have hz : w.heap.size ≤ W'.heap.size := by
    refine Nat.le_of_not_lt fun hc => ?_
    have h2 := hW W'.heap.size trivial hc
    rw [Array.getElem?_eq_none (Nat.le_refl _), Array.getElem?_eq_getElem hc] at h2
    cases h2
  have hb : Below w.heap.size w { w with heap := W'.heap } := ⟨rfl, rfl, rfl, hz, fun k hk => hW k trivial hk⟩
  have h2 := Kd.C_below h hb
  exact h2)
theorem let_all {w : World} {A : Option Addr} {c : Nat} {l : List Bool} (hl : l.length ≤ c) (h : Kd.C Kd.bool w A l.length l) : Kd.FK (Kd.slice 4 Kd.bool) w (fun k => True ∧ k < w.heap.size) l [.slice A l.length c] := Kd.FK_bound (fun W' hW => by
  have hz : w.heap.size ≤ W'.heap.size := by
    refine Nat.le_of_not_lt fun hc => ?_
    have h2 := hW W'.heap.size trivial hc
    rw [Array.getElem?_eq_none (Nat.le_refl _), Array.getElem?_eq_getElem hc] at h2
    cases h2
  have hb : Below w.heap.size w { w with heap := W'.heap } := ⟨rfl, rfl, rfl, hz, fun k hk => hW k trivial hk⟩
  have h2 := Kd.C_below h hb
  exact ⟨A, c, rfl, hl, h2⟩)
/-- A row of one letter, in a block of its own. -/
theorem one_row {w : World} {q c : Nat} {A : Option Addr} {l : List Bool} {ok : Nat → Prop} (hq : w.heap[q]? = some (.cells #[.slice A l.length c] 30 (0, 0))) (h : Kd.FK (Kd.slice 4 Kd.bool) w ok l [.slice A l.length c]) : Kd.F (Kd.slice 4 Kd.bool) w (fun k => k = q ∨ ok k) (some ⟨q, 0, none⟩) 1 [l] := fun W' hW => by
  have hq' := (hW q (.inl rfl) (blk_lt hq)).trans hq
  have hK := h W' (fun k hk hlt => hW k (.inr hk) hlt)
  have q0 := (blk_cell hq' 0).trans rfl
  refine ⟨rfl, by decide, fun _ => ⟨_, rfl, fun j p hj => ?_⟩⟩
  match j, hj with
  | 0, hj =>
    obtain rfl := Option.some.inj hj
    refine ⟨[.slice A l.length c], rfl, hK, fun i u hu => ?_⟩
    match i, hu with
    | 0, hu =>
      obtain rfl := Option.some.inj hu
      exact q0
/-- A word's box is filled: both words are there. -/
theorem amb_two {w0 W Wv : World} {gw gv m1 m2 : Nat} {X1 X2 Y1 Y2 : Option Addr} {d1 d2 e1 e2 : Nat} {stem loop st lp : List (List Bool)} {L : Trms} {u0 u1 : Value} (ha : Amb w0 W gw X1 X2 d1 d2 stem loop L) (hb : Below W.heap.size W Wv) (hge : W.heap.size ≤ gv) (hv : Wv.heap[gv]? = some (.cells #[u0, u1] 43 (0, 0))) (q1 : m1 = st.length) (q2 : m2 = lp.length)
    (hs : Below W.heap.size W ((Wv.setCell ⟨gv, 0, none⟩ (.slice Y1 m1 e1)).setCell ⟨gv, 1, none⟩ (.slice Y2 m2 e2)) → Kd.C (Kd.slice 4 Kd.bool) ((Wv.setCell ⟨gv, 0, none⟩ (.slice Y1 m1 e1)).setCell ⟨gv, 1, none⟩ (.slice Y2 m2 e2)) Y1 st.length st) (hl : Below W.heap.size W ((Wv.setCell ⟨gv, 0, none⟩ (.slice Y1 m1 e1)).setCell ⟨gv, 1, none⟩ (.slice Y2 m2 e2)) → Kd.C (Kd.slice 4 Kd.bool) ((Wv.setCell ⟨gv, 0, none⟩ (.slice Y1 m1 e1)).setCell ⟨gv, 1, none⟩ (.slice Y2 m2 e2)) Y2 lp.length lp) (h1 : st.length ≤ e1) (h2 : lp.length ≤ e2) :
    Amb w0 ((Wv.setCell ⟨gv, 0, none⟩ (.slice Y1 m1 e1)).setCell ⟨gv, 1, none⟩ (.slice Y2 m2 e2)) gw X1 X2 d1 d2 stem loop L ∧ Amb w0 ((Wv.setCell ⟨gv, 0, none⟩ (.slice Y1 m1 e1)).setCell ⟨gv, 1, none⟩ (.slice Y2 m2 e2)) gv Y1 Y2 e1 e2 st lp L := by
  subst q1
  subst q2
  have hn : Below W.heap.size W ((Wv.setCell ⟨gv, 0, none⟩ (.slice Y1 st.length e1)).setCell ⟨gv, 1, none⟩ (.slice Y2 lp.length e2)) := (hb.setCell (p := ⟨gv, 0, none⟩) hge _).setCell (p := ⟨gv, 1, none⟩) hge _
  exact ⟨ha.below hn, ⟨below_step ha.bel hn, ha.glob.below hn, blk_put (blk_put hv 0 _ rfl) 1 _ rfl, hs hn, hl hn, h1, h2, fun x hx => (ha.ts x hx).below hn⟩⟩
theorem uw_red {xs ys : List (List Bool)} {ba bb : Nat} (red : Nat → Nat) (hb : bb < ys.length) (hn : ∀ i, i < ys.length → nx xs.length ba (red i) = red (nx ys.length bb i)) (hx : ∀ i, i < ys.length → ys.getD i [] = xs.getD (red i) []) (h0 : red 0 = 0) : uw ys bb 0 = uw xs ba 0 := by
  have key : ∀ j i, i < ys.length → itn xs.length ba j (red i) = red (itn ys.length bb j i) := by
    intro j
    induction j with
    | zero => intro i _; rfl
    | succ j ih =>
      intro i hi
      show itn xs.length ba j (nx xs.length ba (red i)) = red (itn ys.length bb j (nx ys.length bb i))
      rw [hn i hi, ih _ (nx_lt hb)]
  funext j
  show ys.getD (itn ys.length bb j 0) [] = xs.getD (itn xs.length ba j 0) []
  have h := key j 0 (by omega)
  rw [h0] at h
  rw [hx _ (itn_lt hb j 0 (by omega)), h]
theorem gd_app (l m : List (List Bool)) (i : Nat) : (l ++ m).getD i [] = if i < l.length then l.getD i [] else m.getD (i - l.length) [] := by
  rw [List.getD_eq_getElem?_getD]
  split
  · rename_i h
    rw [List.getElem?_append_left h, List.getD_eq_getElem?_getD]
  · rename_i h
    rw [List.getElem?_append_right (by omega), List.getD_eq_getElem?_getD]
theorem gd_drop (l : List (List Bool)) (i : Nat) : (l.drop 1).getD i [] = l.getD (i + 1) [] := by
  rw [List.getD_eq_getElem?_getD, List.getElem?_drop, List.getD_eq_getElem?_getD, Nat.add_comm]
theorem twice_is {stem loop : List (List Bool)} (hl : 0 < loop.length) : uw (stem ++ (loop ++ loop)) stem.length 0 = uw (stem ++ loop) stem.length 0 := by
  have h1 : (stem ++ (loop ++ loop)).length = stem.length + (loop.length + loop.length) := by simp
  have h2 : (stem ++ loop).length = stem.length + loop.length := by simp
  refine uw_red (fun i => if i < stem.length + loop.length then i else i - loop.length) (by omega) (fun i hi => ?_) (fun i hi => ?_) (if_pos (by omega))
  · rw [h1] at hi
    rw [h1, h2]
    unfold nx
    repeat' split
    all_goals (try simp only [] at *)
    all_goals omega
  · rw [h1] at hi
    show _ = (stem ++ loop).getD (if i < stem.length + loop.length then i else i - loop.length) []
    rw [gd_app, gd_app loop loop, gd_app stem loop]
    by_cases c1 : i < stem.length
    · rw [if_pos c1, if_pos (show i < stem.length + loop.length by omega), if_pos c1]
    · by_cases c2 : i < stem.length + loop.length
      · rw [if_neg c1, if_pos c2, if_neg c1, if_pos (by omega)]
      · rw [if_neg c1, if_neg c2, if_neg (by omega), if_neg (by omega)]
        congr 1
        omega
theorem turned_is {stem loop : List (List Bool)} (hl : 0 < loop.length) : uw ((stem ++ [loop.getD 0 []]) ++ (loop.drop 1 ++ [loop.getD 0 []])) (stem ++ [loop.getD 0 []]).length 0 = uw (stem ++ loop) stem.length 0 := by
  have h1 : ((stem ++ [loop.getD 0 []]) ++ (loop.drop 1 ++ [loop.getD 0 []])).length = stem.length + 1 + loop.length := by simp; omega
  have h2 : (stem ++ loop).length = stem.length + loop.length := by simp
  have h3 : (stem ++ [loop.getD 0 []]).length = stem.length + 1 := by simp
  have h4 : (loop.drop 1).length = loop.length - 1 := List.length_drop
  refine uw_red (fun i => if i < stem.length + loop.length then i else stem.length) (by omega) (fun i hi => ?_) (fun i hi => ?_) (if_pos (by omega))
  · rw [h1] at hi
    rw [h1, h2, h3]
    unfold nx
    repeat' split
    all_goals (try simp only [] at *)
    all_goals omega
  · rw [h1] at hi
    show _ = (stem ++ loop).getD (if i < stem.length + loop.length then i else stem.length) []
    rw [gd_app (stem ++ [loop.getD 0 []]), gd_app (loop.drop 1), gd_app stem loop, gd_app stem, h3, h4]
    by_cases c1 : i < stem.length
    · rw [if_pos (show i < stem.length + 1 by omega), if_pos c1, if_pos (show i < stem.length + loop.length by omega), if_pos c1]
    · by_cases c2 : i = stem.length
      · rw [if_pos (show i < stem.length + 1 by omega), if_neg c1, if_pos (show i < stem.length + loop.length by omega), if_neg c1, c2, Nat.sub_self]
        rfl
      · rw [if_neg (show ¬ i < stem.length + 1 by omega)]
        by_cases c3 : i < stem.length + loop.length
        · rw [if_pos c3, if_neg c1, if_pos (by omega), gd_drop]
          congr 1
          omega
        · rw [if_neg c3, if_neg (by omega), if_neg (Nat.lt_irrefl _), Nat.sub_self, show i - (stem.length + 1) - (loop.length - 1) = 0 by omega]
          rfl

def foretellkeep_WordLonger.T3 : Bool × List (List Nat × List Nat) := (true, [([], []), ([0], [0]), ([], []), ([2], [2]), ([3], [3]), ([], []), ([5], [5]), ([4, 6, 4], [4, 6]), ([1, 7], [1, 7]), ([], []), ([9, 8, 7, 0, 1, 2, 3, 4, 5, 6, 7, 8, 9], [8, 9])])
def foretellkeep_WordLonger.B3 : List Nat := [0, 1, 0, 4, 12, 0, 32, 124, 255, 0, 1023]
theorem foretellkeep_WordLonger.tab3 : rtab .any (opsOf Tryd.f9 3) = foretellkeep_WordLonger.T3 := by kernel_rfl
theorem foretellkeep_WordLonger.bits3 : waitsOk foretellkeep_WordLonger.T3.2 foretellkeep_WordLonger.B3 = true := by kernel_rfl
def foretellkeep_WordLonger.T4 : Bool × List (List Nat × List Nat) := (true, [([], []), ([0], [0]), ([1], [1]), ([], []), ([3], [3]), ([4], [4]), ([5], [5]), ([6], [6]), ([2, 7, 2], [2, 7]), ([], []), ([9], [9]), ([10], [10]), ([11, 8], [11]), ([], []), ([13], [13]), ([14], [14]), ([15], [15]), ([16], [16]), ([12, 17, 12], [12, 17]), ([8, 18], [8, 18]), ([], []), ([20, 19, 18, 0, 1, 2, 3, 4, 5, 6, 7, 8, 9, 10, 11, 12, 13, 14, 15, 16, 17, 18, 19, 20], [19, 20])])
def foretellkeep_WordLonger.B4 : List Nat := [0, 1, 3, 0, 8, 24, 56, 120, 255, 0, 512, 1536, 4095, 0, 8192, 24576, 57344, 122880, 262143, 524287, 0, 2097151]
theorem foretellkeep_WordLonger.tab4 : rtab .any (opsOf Tryd.f9 4) = foretellkeep_WordLonger.T4 := by kernel_rfl
theorem foretellkeep_WordLonger.bits4 : waitsOk foretellkeep_WordLonger.T4.2 foretellkeep_WordLonger.B4 = true := by kernel_rfl
/-- What is left to prove of the law WordLonger in the plain: nothing, its walk says all. -/
def foretellkeep_WordLonger.Pur : Prop := True
set_option maxHeartbeats 16000000 in
set_option maxRecDepth 100000 in
theorem foretellkeep_WordLonger.wlk (P : foretellkeep_WordLonger.Pur) (A0 : Option Addr) (c0 : Nat) (l0 : List (S79)) (A1_0 : Option Addr) (c1_0 : Nat) (l1_0 : List Int) (A1_1 : Option Addr) (c1_1 : Nat) (l1_1 : List Int) (w : World) (hr0 : Kd.C k79 w A0 l0.length l0) (hc0 : l0.length ≤ c0) (hr1_0 : Kd.C (Kd.int .i64) w A1_0 l1_0.length l1_0) (hc1_0 : l1_0.length ≤ c1_0) (hr1_1 : Kd.C (Kd.int .i64) w A1_1 l1_1.length l1_1) (hc1_1 : l1_1.length ≤ c1_1) (w0 : (l0.length ≤ maxLen ∧ ∀ y ∈ l0, ((Lit.int .i64 y.f0).wf = true ∧ (Lit.int .i64 y.f1).wf = true))) (w1 : ((l1_0.length ≤ maxLen ∧ ∀ y ∈ l1_0, (Lit.int .i64 y).wf = true) ∧ (l1_1.length ≤ maxLen ∧ ∀ y ∈ l1_1, (Lit.int .i64 y).wf = true))) (hG_ : Glob w) :
    Calls Tryd.prog 9 #[.slice A0 l0.length c0, .agg #[.slice A1_0 l1_0.length c1_0, .slice A1_1 l1_1.length c1_1]] w fun e w' => e = .returned (.bool true) ∧ Below w.heap.size w w' := by
  have R0 := Aside0.mk hr0
  have L0 := Aside0.mk hc0
  have F0 := Aside0.mk w0.2
  have S0 := Aside0.mk hr1_0
  have T0 := Aside0.mk hc1_0
  have S1 := Aside0.mk hr1_1
  have T1 := Aside0.mk hc1_1
  have V0 := Aside0.mk w1.1.2
  have V1 := Aside0.mk w1.2.2
  have GL := Aside0.mk hG_
  clear hr0 hc0 w0 hr1_0 hc1_0 hr1_1 hc1_1 w1 hG_ P
  go_enter Tryd.func9, Tryd.ntmps9
  go_upto_region 3 with (first | (go_at_call 23; go_must (refine (word_sem V0.out V1.out A1_0 A1_1 c1_0 c1_1 ?h0 T0.out ?h1 T1.out).mono ?_; (case h0 => exact Kd.C_below S0.out (below_alloc (Below.refl _ _) _)); (case h1 => exact Kd.C_below S1.out (below_alloc (Below.refl _ _) _)); rintro e w1 ⟨X1, X2, d1, d2, stem, loop, rfl, z1, z2, z3, z4, hs, hl, sc, lc, hb⟩; have ZZ := Aside0.mk (And.intro z1 (And.intro z2 (And.intro z3 z4))); have HS := Aside0.mk hs; have HL := Aside0.mk hl; have SL := Aside0.mk (And.intro sc lc); have B1 := Aside0.mk (below_step (below_alloc (Below.refl _ _) _) hb); clear z1 z2 z3 z4 hs hl sc lc hb)) | ((with_reducible refine gate_dst (N := 5) rfl ?_); go_must (refine box_event ?hg (N := 5) ?hd (cs := #[.slice none 0 0, .slice none 0 0]) (t := 43) ?hr ?_; (case hd => rfl); (case hg => rfl); (case hr => first | (go_simp; done) | (go_simp; rfl)); intro gw hgw w2 hbox hb; have KW := Aside0.mk hbox; have GW := Aside0.mk hgw; have BW := Aside0.mk hb; have ka := (blk_cell hbox 0).trans rfl; have kb := (blk_cell hbox 1).trans rfl; have fa := blk_frozen hbox 0; have fb := blk_frozen hbox 1; clear hb hbox hgw)) | ((with_reducible refine gate_store (t := 43) (p := 5) (v := .tmp 18) rfl ?_); go_must (refine store_event (t := 43) (p := 5) (v := .tmp 18) (w1 := ((w2.setCell ⟨gw, 0, none⟩ (.slice X1 stem.length d1)).setCell ⟨gw, 1, none⟩ (.slice X2 loop.length d2))) ?hg ?ho ?hn ?hr ?_; (case ho => rfl); (case hg => rfl); (case hn => rfl); (case hr => first | (go_simp; done) | (go_simp; rfl)); intro w3 hw; have BX := Aside0.mk (show Below w1.heap.size w1 w3 from by rw [hw]; exact (BW.out.setCell (p := ⟨gw, 0, none⟩) (by have := GW.out; show _ ≤ gw; omega) _).setCell (p := ⟨gw, 1, none⟩) (by have := GW.out; show _ ≤ gw; omega) _); have HA : Aside0 (Amb w w3 gw X1 X2 d1 d2 stem loop []) := Aside0.mk ⟨below_step B1.out BX.out, GL.out.below (below_step B1.out BX.out), (by rw [hw]; exact blk_put (blk_put KW.out 0 _ rfl) 1 _ rfl), Kd.C_below HS.out BX.out, Kd.C_below HL.out BX.out, SL.out.1, SL.out.2, fun x hx => by simp at hx⟩; clear hw ka kb fa fb KW GW BW HS HL SL B1 BX)) | (go_at_call_of 16 (Value.slice A0 l0.length c0); go_must (refine (formula_sem F0.out 4 (by decide) (by decide) A0 c0 (Kd.C_below R0.out HA.out.bel) L0.out).mono ?_; rintro e w4 ⟨Bf, nf, ef, f, rfl, hf, sf, tf, hT, hb⟩; have Gf := Aside0.mk (And.intro hf (And.intro sf tf)); replace HA := Aside0.mk ((HA.out.below hb).add hT); clear hf sf tf hT hb)))
  have WO := Aside0.mk (ok_of (by have := ZZ.out.1; omega) ZZ.out.2.1 (by have := ZZ.out.2.2.1; omega) ZZ.out.2.2.2)
  have k0 := HA.out.c0
  have k1 := HA.out.c1'
  have LP := Aside0.mk (show 0 < loop.length from by have := WO.out.l1; omega)
  have LB := Aside0.mk (show stem.length ≤ 12 ∧ loop.length ≤ 12 from ⟨WO.out.s, WO.out.l2⟩)
  have infoR := (by kernel_rfl : (Tryd.prog.info? 30).map (fun i => (i.zero, i.size, i.bytes)) = some (some (.slice none 0 0), 1, 24))
  have FL := Aside0.mk (row_all HA.out.l)
  obtain ⟨L2, hL2⟩ : ∃ L2, loop ++ loop = L2 := ⟨_, rfl⟩
  have HL2 := Aside0.mk hL2
  clear hL2
  (try simp only [Act.put, List.setIfInBounds_toArray, List.set_cons_zero, List.set_cons_succ])
  go_cut [7] (fun v7 wc => ∃ (g7 : Nat) (Y2 : Option Addr) (e2 : Nat), v7 = .pointer (some ⟨g7, 0, none⟩) ∧ Aside0 (Amb w wc gw X1 X2 d1 d2 stem loop [(Bf, nf, ef, f)]) ∧ Aside0 (Amb w wc g7 X1 Y2 d1 e2 stem L2 [(Bf, nf, ef, f)]))
  case first =>
    refine start_ (n := 11) (S := fun w' => w'.cell? ⟨gw, 0, none⟩ = some (.slice X1 stem.length d1) ∧ w'.cell? ⟨gw, 1, none⟩ = some (.slice X2 loop.length d2)) (ds := [10]) (bl 11 0) (by kernel_rfl) rfl (by kernel_rfl) ⟨(pw_cell_below (below_drew (Below.refl _ _)) k0), (pw_cell_below (below_drew (Below.refl _ _)) k1)⟩ (fun hHeld => ?_)
    refine with_tabW foretellkeep_WordLonger.tab3 foretellkeep_WordLonger.bits3 (fun HT_ HW_ => ?_)
    refine join_ (σ := Value × (Nat → Prop) × Option Addr × Nat × (Nat → Prop) × Nat) 1 (bl 11 1023) (fun s_ => [(21, .pointer (some ⟨gw, 0, none⟩)), (23, .pointer (some ⟨gw, 1, none⟩)), (26, .pointer (some ⟨gw, 1, none⟩)), (22, .slice X1 stem.length d1), (24, .slice X2 loop.length d2), (27, .slice X2 loop.length d2), (25, s_.1), (28, (.slice s_.2.2.1 L2.length s_.2.2.2.1)), (29, .agg #[.slice X1 stem.length d1, .slice s_.2.2.1 L2.length s_.2.2.2.1]), (7, (.pointer (some ⟨s_.2.2.2.2.2, 0, none⟩)))]) (fun s_ w' => (Below w4.heap.size w4 w') ∧ (Kd.N (Kd.slice 4 Kd.bool) 30 w' w4.heap.size s_.2.2.2.2.1 (.slice s_.2.2.1 L2.length s_.2.2.2.1) L2) ∧ (∀ k, s_.2.2.2.2.1 k → k < w'.heap.size) ∧ (w'.heap[s_.2.2.2.2.2]? = some (.cells #[.slice none 0 0, .slice none 0 0] 43 (0, 0))) ∧ (w4.heap.size ≤ s_.2.2.2.2.2) ∧ (¬ s_.2.2.2.2.1 s_.2.2.2.2.2)) ?_ (fun hC5 => ?_)
    · rintro ⟨va, oa, Yl, el, ol, g7⟩ wD ⟨BD_, N7_, OB7_, K9_, G9_, P7_9_⟩
      have BD := Aside0.mk (show Below w4.heap.size w4 wD from BD_)
      have N7 := Aside0.mk (show Kd.N (Kd.slice 4 Kd.bool) 30 wD w4.heap.size ol (.slice Yl L2.length el) L2 from N7_)
      have OB7 := Aside0.mk (show ∀ k, ol k → k < wD.heap.size from OB7_)
      have K9 := Aside0.mk (show wD.heap[g7]? = some (.cells #[.slice none 0 0, .slice none 0 0] 43 (0, 0)) from K9_)
      have G9 := Aside0.mk (show w4.heap.size ≤ g7 from G9_)
      have P7_9 := Aside0.mk (show ¬ ol g7 from P7_9_)
      clear BD_ N7_ OB7_ K9_ G9_ P7_9_
      refine norm_ (a' := ?_) ?_ ?_
      rotate_left
      · simp only [putAll, Act.put, List.setIfInBounds_toArray, List.set_cons_zero, List.set_cons_succ, i64_w, i32_w]
        rfl
      refine last_ (i := 10) (N := none) (bl 11 2047) rfl rfl (one_of HT_.out (by kernel_rfl)) (by decide) (fun K hK => ?_)
      have ka := (blk_cell K9.out 0).trans rfl
      have kb := (blk_cell K9.out 1).trans rfl
      have fa := blk_frozen K9.out 0
      have fb := blk_frozen K9.out 1
      refine skip_ (w1 := ?_) (by rfl) rfl ?_ ?_
      rotate_left
      · go_simp
        rfl
      refine hK.out _ _ ?_
      clear hK K
      refine done_ (done_of HT_.out (by kernel_rfl)) ?_
      go_wp2
      go_meet
      case rel =>
        obtain ⟨ha1, ha2⟩ := amb_two (st := stem) (lp := L2) (Y1 := X1) (Y2 := Yl) (e1 := d1) (e2 := el) HA.out BD.out G9.out K9.out rfl rfl (fun hn => Kd.C_below HA.out.s hn) (fun _ => (Kd.N_reads' (Kd.N_far (p := ⟨g7, 1, none⟩) (Kd.N_far (p := ⟨g7, 0, none⟩) N7.out (fun k hk e => P7_9.out (show _ from (show k = g7 from e) ▸ hk)) _) (fun k hk e => P7_9.out (show _ from (show k = g7 from e) ▸ hk)) _)).2.2) HA.out.sc (Kd.N_reads' N7.out).2.1
        exact ⟨g7, Yl, el, rfl, ⟨ha1⟩, ⟨ha2⟩⟩
    refine join_ (σ := Value × (Nat → Prop) × Nat) 3 (bl 11 639) (fun s_ => [(21, .pointer (some ⟨gw, 0, none⟩)), (23, .pointer (some ⟨gw, 1, none⟩)), (26, .pointer (some ⟨gw, 1, none⟩)), (22, .slice X1 stem.length d1), (24, .slice X2 loop.length d2), (27, .slice X2 loop.length d2), (25, s_.1), (7, (.pointer (some ⟨s_.2.2, 0, none⟩)))]) (fun s_ w' => (Below w4.heap.size w4 w') ∧ (Kd.N (Kd.slice 4 Kd.bool) 30 w' w4.heap.size s_.2.1 s_.1 loop) ∧ (∀ k, s_.2.1 k → k < w'.heap.size) ∧ (w'.heap[s_.2.2]? = some (.cells #[.slice none 0 0, .slice none 0 0] 43 (0, 0))) ∧ (w4.heap.size ≤ s_.2.2) ∧ (¬ s_.2.1 s_.2.2)) ?_ (fun hC4 => ?_)
    · rintro ⟨va, oa, g7⟩ wD ⟨BD_, N4_, OB4_, K9_, G9_, P4_9_⟩
      have BD := Aside0.mk (show Below w4.heap.size w4 wD from BD_)
      have N4 := Aside0.mk (show Kd.N (Kd.slice 4 Kd.bool) 30 wD w4.heap.size oa va loop from N4_)
      have OB4 := Aside0.mk (show ∀ k, oa k → k < wD.heap.size from OB4_)
      have K9 := Aside0.mk (show wD.heap[g7]? = some (.cells #[.slice none 0 0, .slice none 0 0] 43 (0, 0)) from K9_)
      have G9 := Aside0.mk (show w4.heap.size ≤ g7 from G9_)
      have P4_9 := Aside0.mk (show ¬ oa g7 from P4_9_)
      clear BD_ N4_ OB4_ K9_ G9_ P4_9_
      refine norm_ (a' := ?_) ?_ ?_
      rotate_left
      · simp only [putAll, Act.put, List.setIfInBounds_toArray, List.set_cons_zero, List.set_cons_succ, i64_w, i32_w]
        rfl
      refine one_ (i := 7) (N := some 28) (bl 11 767) rfl rfl (one_of HT_.out (by kernel_rfl)) (by decide) (fun K hK => ?_)
      refine Kd.N_append_rows_step (Kd.slice 4 Kd.bool) (w0 := w4) w4.heap.size (by rfl) (.tmp 25) (.tmp 27) 41 30 (.slice none 0 0) 24 (by rfl) Tryd.underlying41 infoR rfl (by decide) (by omega) va (loop) (loop) X2 (loop.length) (d2) (fun k => oa k ∨ k < w4.heap.size ∨ wD.heap.size ≤ k) (fun k => True ∧ k < w4.heap.size) (by rfl) (by rfl) (Kd.N_mono N4.out (fun k h => .inl h)) (Kd.F_step FL.out (fun k _ hk => BD.out.block k hk)) (fun k hk => ⟨.inr (.inl hk.2), fun e => Nat.lt_irrefl _ (Nat.lt_of_lt_of_le hk.2 (Kd.N_base N4.out k e.symm))⟩) (fun k hk => .inr (.inr hk)) BD.out BD.out.size (by have := LB.out; omega) ?_
      intro vl w1 hra hba hga hata
      rw [HL2.out] at hra
      obtain ⟨Yl, el, rfl⟩ := Kd.N_slice hra
      obtain ⟨ol, ho⟩ : ∃ o_ : Nat → Prop, o_ = (fun k => (oa k ∨ k < w4.heap.size ∨ wD.heap.size ≤ k) ∧ k < w1.heap.size) := ⟨_, rfl⟩
      have hoI : ∀ k, ol k → (oa k ∨ k < w4.heap.size ∨ wD.heap.size ≤ k) ∧ k < w1.heap.size := fun k h => by rw [ho] at h; exact h
      have hn := Kd.N_bound hra
      rw [← ho] at hn
      refine hK.out _ _ ⟨(pw_cell_below (hba) k0), (pw_cell_below (hba) k1)⟩ (fun hHeld => ?_)
      clear hK K
      refine norm_ (a' := ?_) ?_ ?_
      rotate_left
      · show Act.put _ (some 28) _ = _
        simp only [Act.put, List.setIfInBounds_toArray, List.set_cons_zero, List.set_cons_succ, i64_w, i32_w]
        rfl
      refine puQ 8 (some 29) (bl 11 1023) ?_
      exact norm_ (by simp only [putAll, Act.put, List.setIfInBounds_toArray, List.set_cons_zero, List.set_cons_succ, i64_w, i32_w]) (hC5 (va, oa, Yl, el, ol, g7) _ ⟨hba, hn, fun k h => (hoI k h).2, blk_grown K9.out hga (fun e => P4_9.out (N4.out.1 _ e.symm)), (show w4.heap.size ≤ g7 from G9.out), (show ¬ ol g7 from fun h => by rcases (hoI _ h).1 with h1 | h1 | h1; exact P4_9.out h1; (have h2 := G9.out; omega); (have h3 := blk_lt K9.out; omega))⟩)
    refine join_ (σ := Value × (Nat → Prop) × Option Addr × Nat × (Nat → Prop)) 2 (bl 11 511) (fun s_ => [(21, .pointer (some ⟨gw, 0, none⟩)), (23, .pointer (some ⟨gw, 1, none⟩)), (26, .pointer (some ⟨gw, 1, none⟩)), (22, .slice X1 stem.length d1), (24, .slice X2 loop.length d2), (27, .slice X2 loop.length d2), (25, s_.1), (28, (.slice s_.2.2.1 L2.length s_.2.2.2.1)), (29, .agg #[.slice X1 stem.length d1, .slice s_.2.2.1 L2.length s_.2.2.2.1])]) (fun s_ w' => (Below w4.heap.size w4 w') ∧ (Kd.N (Kd.slice 4 Kd.bool) 30 w' w4.heap.size s_.2.2.2.2 (.slice s_.2.2.1 L2.length s_.2.2.2.1) L2) ∧ (∀ k, s_.2.2.2.2 k → k < w'.heap.size)) ?_ (fun hC3 => ?_)
    · rintro ⟨va, oa, Yl, el, ol⟩ wD ⟨BD_, N7_, OB7_⟩
      have BD := Aside0.mk (show Below w4.heap.size w4 wD from BD_)
      have N7 := Aside0.mk (show Kd.N (Kd.slice 4 Kd.bool) 30 wD w4.heap.size ol (.slice Yl L2.length el) L2 from N7_)
      have OB7 := Aside0.mk (show ∀ k, ol k → k < wD.heap.size from OB7_)
      clear BD_ N7_ OB7_
      refine norm_ (a' := ?_) ?_ ?_
      rotate_left
      · simp only [putAll, Act.put, List.setIfInBounds_toArray, List.set_cons_zero, List.set_cons_succ, i64_w, i32_w]
        rfl
      refine one_ (i := 9) (N := some 7) (bl 11 1023) rfl rfl (one_of HT_.out (by kernel_rfl)) (by decide) (fun K hK => ?_)
      refine value_ (w1 := ?_) (v := ?_) (by rfl) rfl ?_ ?_
      rotate_left 2
      · go_simp
        constructor
        · rfl
        · rfl
      refine hK.out _ _ ⟨(pw_cell_below (below_alloc BD.out _) k0), (pw_cell_below (below_alloc BD.out _) k1)⟩ (fun hHeld => ?_)
      clear hK K
      refine norm_ (a' := ?_) ?_ ?_
      rotate_left
      · show Act.put _ (some 7) _ = _
        simp only [Act.put, List.setIfInBounds_toArray, List.set_cons_zero, List.set_cons_succ, i64_w, i32_w]
        rfl
      exact norm_ (by simp only [putAll, Act.put, List.setIfInBounds_toArray, List.set_cons_zero, List.set_cons_succ, i64_w, i32_w]) (hC5 (va, oa, Yl, el, ol, wD.heap.size) _ ⟨below_alloc BD.out _, Kd.N_alloc N7.out _, fun k h => Nat.lt_trans (OB7.out k h) (by rw [World.size_alloc]; exact Nat.lt_succ_self _), blk_new wD _, (show w4.heap.size ≤ wD.heap.size from BD.out.size), (show ¬ ol wD.heap.size from fun h => Nat.lt_irrefl _ (OB7.out _ h))⟩)
    refine join_ (σ := Nat) 4 (bl 11 623) (fun s_ => [(21, .pointer (some ⟨gw, 0, none⟩)), (23, .pointer (some ⟨gw, 1, none⟩)), (26, .pointer (some ⟨gw, 1, none⟩)), (22, .slice X1 stem.length d1), (24, .slice X2 loop.length d2), (27, .slice X2 loop.length d2), (7, (.pointer (some ⟨s_, 0, none⟩)))]) (fun s_ w' => (Below w4.heap.size w4 w') ∧ (w'.heap[s_]? = some (.cells #[.slice none 0 0, .slice none 0 0] 43 (0, 0))) ∧ (w4.heap.size ≤ s_)) ?_ (fun hC2 => ?_)
    · rintro g7 wD ⟨BD_, K9_, G9_⟩
      have BD := Aside0.mk (show Below w4.heap.size w4 wD from BD_)
      have K9 := Aside0.mk (show wD.heap[g7]? = some (.cells #[.slice none 0 0, .slice none 0 0] 43 (0, 0)) from K9_)
      have G9 := Aside0.mk (show w4.heap.size ≤ g7 from G9_)
      clear BD_ K9_ G9_
      refine norm_ (a' := ?_) ?_ ?_
      rotate_left
      · simp only [putAll, Act.put, List.setIfInBounds_toArray, List.set_cons_zero, List.set_cons_succ, i64_w, i32_w]
        rfl
      refine one_ (i := 4) (N := some 25) (bl 11 639) rfl rfl (one_of HT_.out (by kernel_rfl)) (by decide) (fun K hK => ?_)
      refine Kd.N_append_rows_step (Kd.slice 4 Kd.bool) (w0 := w4) w4.heap.size (by rfl) (.const (.slice none 0 0)) (.tmp 24) 41 30 (.slice none 0 0) 24 (by rfl) Tryd.underlying41 infoR rfl (by decide) (by omega) (.slice none 0 0) ([] : List (List Bool)) (loop) X2 (loop.length) (d2) (fun k => k < w4.heap.size ∨ wD.heap.size ≤ k) (fun k => True ∧ k < w4.heap.size) (by rfl) (by rfl) (Kd.N_nil _ _ _ _ _) (Kd.F_step FL.out (fun k _ hk => BD.out.block k hk)) (fun k hk => ⟨.inl hk.2, by simp [Value.ownBlock]⟩) (fun k hk => .inr hk) BD.out BD.out.size (by have := LB.out; simp only [List.length_nil]; omega) ?_
      intro va w1 hra hba hga hata
      rw [List.nil_append] at hra
      obtain ⟨oa, ho⟩ : ∃ o_ : Nat → Prop, o_ = (fun k => (k < w4.heap.size ∨ wD.heap.size ≤ k) ∧ k < w1.heap.size) := ⟨_, rfl⟩
      have hoI : ∀ k, oa k → (k < w4.heap.size ∨ wD.heap.size ≤ k) ∧ k < w1.heap.size := fun k h => by rw [ho] at h; exact h
      have hn := Kd.N_bound hra
      rw [← ho] at hn
      refine hK.out _ _ ⟨(pw_cell_below (hba) k0), (pw_cell_below (hba) k1)⟩ (fun hHeld => ?_)
      clear hK K
      refine norm_ (a' := ?_) ?_ ?_
      rotate_left
      · show Act.put _ (some 25) _ = _
        simp only [Act.put, List.setIfInBounds_toArray, List.set_cons_zero, List.set_cons_succ, i64_w, i32_w]
        rfl
      exact norm_ (by simp only [putAll, Act.put, List.setIfInBounds_toArray, List.set_cons_zero, List.set_cons_succ, i64_w, i32_w]) (hC4 (va, oa, g7) _ ⟨hba, hn, fun k h => (hoI k h).2, blk_grown K9.out hga (by simp [Value.ownBlock]), (show w4.heap.size ≤ g7 from G9.out), (show ¬ oa g7 from fun h => by have h1 := hoI _ h; have h2 := G9.out; have h3 := blk_lt K9.out; omega)⟩)
    refine join_ (σ := Value × (Nat → Prop)) 4 (bl 11 127) (fun s_ => [(21, .pointer (some ⟨gw, 0, none⟩)), (23, .pointer (some ⟨gw, 1, none⟩)), (26, .pointer (some ⟨gw, 1, none⟩)), (22, .slice X1 stem.length d1), (24, .slice X2 loop.length d2), (27, .slice X2 loop.length d2), (25, s_.1)]) (fun s_ w' => (Below w4.heap.size w4 w') ∧ (Kd.N (Kd.slice 4 Kd.bool) 30 w' w4.heap.size s_.2 s_.1 loop) ∧ (∀ k, s_.2 k → k < w'.heap.size)) ?_ (fun hC1 => ?_)
    · rintro ⟨va, oa⟩ wD ⟨BD_, N4_, OB4_⟩
      have BD := Aside0.mk (show Below w4.heap.size w4 wD from BD_)
      have N4 := Aside0.mk (show Kd.N (Kd.slice 4 Kd.bool) 30 wD w4.heap.size oa va loop from N4_)
      have OB4 := Aside0.mk (show ∀ k, oa k → k < wD.heap.size from OB4_)
      clear BD_ N4_ OB4_
      refine norm_ (a' := ?_) ?_ ?_
      rotate_left
      · simp only [putAll, Act.put, List.setIfInBounds_toArray, List.set_cons_zero, List.set_cons_succ, i64_w, i32_w]
        rfl
      refine two_ (i := 7) (j := 9) (Ni := some 28) (Nj := some 7) (bl 11 255) (bl 11 639) rfl rfl rfl rfl (two_of HT_.out (by kernel_rfl)) (by decide) (by decide) (fun K hK => ?_) (fun K hK => ?_)
      · skip
        refine Kd.N_append_rows_step (Kd.slice 4 Kd.bool) (w0 := w4) w4.heap.size (by rfl) (.tmp 25) (.tmp 27) 41 30 (.slice none 0 0) 24 (by rfl) Tryd.underlying41 infoR rfl (by decide) (by omega) va (loop) (loop) X2 (loop.length) (d2) (fun k => oa k ∨ k < w4.heap.size ∨ wD.heap.size ≤ k) (fun k => True ∧ k < w4.heap.size) (by rfl) (by rfl) (Kd.N_mono N4.out (fun k h => .inl h)) (Kd.F_step FL.out (fun k _ hk => BD.out.block k hk)) (fun k hk => ⟨.inr (.inl hk.2), fun e => Nat.lt_irrefl _ (Nat.lt_of_lt_of_le hk.2 (Kd.N_base N4.out k e.symm))⟩) (fun k hk => .inr (.inr hk)) BD.out BD.out.size (by have := LB.out; omega) ?_
        intro vl w1 hra hba hga hata
        rw [HL2.out] at hra
        obtain ⟨Yl, el, rfl⟩ := Kd.N_slice hra
        obtain ⟨ol, ho⟩ : ∃ o_ : Nat → Prop, o_ = (fun k => (oa k ∨ k < w4.heap.size ∨ wD.heap.size ≤ k) ∧ k < w1.heap.size) := ⟨_, rfl⟩
        have hoI : ∀ k, ol k → (oa k ∨ k < w4.heap.size ∨ wD.heap.size ≤ k) ∧ k < w1.heap.size := fun k h => by rw [ho] at h; exact h
        have hn := Kd.N_bound hra
        rw [← ho] at hn
        refine hK.out _ _ ⟨(pw_cell_below (hba) k0), (pw_cell_below (hba) k1)⟩ (fun hHeld => ?_)
        clear hK K
        refine norm_ (a' := ?_) ?_ ?_
        rotate_left
        · show Act.put _ (some 28) _ = _
          simp only [Act.put, List.setIfInBounds_toArray, List.set_cons_zero, List.set_cons_succ, i64_w, i32_w]
          rfl
        refine puQ 8 (some 29) (bl 11 511) ?_
        exact norm_ (by simp only [putAll, Act.put, List.setIfInBounds_toArray, List.set_cons_zero, List.set_cons_succ, i64_w, i32_w]) (hC3 (va, oa, Yl, el, ol) _ ⟨hba, hn, fun k h => (hoI k h).2⟩)
      · skip
        refine value_ (w1 := ?_) (v := ?_) (by rfl) rfl ?_ ?_
        rotate_left 2
        · go_simp
          constructor
          · rfl
          · rfl
        refine hK.out _ _ ⟨(pw_cell_below (below_alloc BD.out _) k0), (pw_cell_below (below_alloc BD.out _) k1)⟩ (fun hHeld => ?_)
        clear hK K
        refine norm_ (a' := ?_) ?_ ?_
        rotate_left
        · show Act.put _ (some 7) _ = _
          simp only [Act.put, List.setIfInBounds_toArray, List.set_cons_zero, List.set_cons_succ, i64_w, i32_w]
          rfl
        exact norm_ (by simp only [putAll, Act.put, List.setIfInBounds_toArray, List.set_cons_zero, List.set_cons_succ, i64_w, i32_w]) (hC4 (va, oa, wD.heap.size) _ ⟨below_alloc BD.out _, Kd.N_alloc N4.out _, fun k h => Nat.lt_trans (OB4.out k h) (by rw [World.size_alloc]; exact Nat.lt_succ_self _), blk_new wD _, (show w4.heap.size ≤ wD.heap.size from BD.out.size), (show ¬ oa wD.heap.size from fun h => Nat.lt_irrefl _ (OB4.out _ h))⟩)
    refine join_ (σ := Unit) 5 (bl 11 111) (fun s_ => [(21, .pointer (some ⟨gw, 0, none⟩)), (23, .pointer (some ⟨gw, 1, none⟩)), (26, .pointer (some ⟨gw, 1, none⟩)), (22, .slice X1 stem.length d1), (24, .slice X2 loop.length d2), (27, .slice X2 loop.length d2)]) (fun s_ w' => (Below w4.heap.size w4 w')) ?_ (fun hC0 => ?_)
    · rintro ⟨⟩ wD BD_
      have BD := Aside0.mk (show Below w4.heap.size w4 wD from BD_)
      clear BD_
      refine norm_ (a' := ?_) ?_ ?_
      rotate_left
      · simp only [putAll, Act.put, List.setIfInBounds_toArray, List.set_cons_zero, List.set_cons_succ, i64_w, i32_w]
        rfl
      refine two_ (i := 4) (j := 9) (Ni := some 25) (Nj := some 7) (bl 11 127) (bl 11 623) rfl rfl rfl rfl (two_of HT_.out (by kernel_rfl)) (by decide) (by decide) (fun K hK => ?_) (fun K hK => ?_)
      · skip
        refine Kd.N_append_rows_step (Kd.slice 4 Kd.bool) (w0 := w4) w4.heap.size (by rfl) (.const (.slice none 0 0)) (.tmp 24) 41 30 (.slice none 0 0) 24 (by rfl) Tryd.underlying41 infoR rfl (by decide) (by omega) (.slice none 0 0) ([] : List (List Bool)) (loop) X2 (loop.length) (d2) (fun k => k < w4.heap.size ∨ wD.heap.size ≤ k) (fun k => True ∧ k < w4.heap.size) (by rfl) (by rfl) (Kd.N_nil _ _ _ _ _) (Kd.F_step FL.out (fun k _ hk => BD.out.block k hk)) (fun k hk => ⟨.inl hk.2, by simp [Value.ownBlock]⟩) (fun k hk => .inr hk) BD.out BD.out.size (by have := LB.out; simp only [List.length_nil]; omega) ?_
        intro va w1 hra hba hga hata
        rw [List.nil_append] at hra
        obtain ⟨oa, ho⟩ : ∃ o_ : Nat → Prop, o_ = (fun k => (k < w4.heap.size ∨ wD.heap.size ≤ k) ∧ k < w1.heap.size) := ⟨_, rfl⟩
        have hoI : ∀ k, oa k → (k < w4.heap.size ∨ wD.heap.size ≤ k) ∧ k < w1.heap.size := fun k h => by rw [ho] at h; exact h
        have hn := Kd.N_bound hra
        rw [← ho] at hn
        refine hK.out _ _ ⟨(pw_cell_below (hba) k0), (pw_cell_below (hba) k1)⟩ (fun hHeld => ?_)
        clear hK K
        refine norm_ (a' := ?_) ?_ ?_
        rotate_left
        · show Act.put _ (some 25) _ = _
          simp only [Act.put, List.setIfInBounds_toArray, List.set_cons_zero, List.set_cons_succ, i64_w, i32_w]
          rfl
        exact norm_ (by simp only [putAll, Act.put, List.setIfInBounds_toArray, List.set_cons_zero, List.set_cons_succ, i64_w, i32_w]) (hC1 (va, oa) _ ⟨hba, hn, fun k h => (hoI k h).2⟩)
      · skip
        refine value_ (w1 := ?_) (v := ?_) (by rfl) rfl ?_ ?_
        rotate_left 2
        · go_simp
          constructor
          · rfl
          · rfl
        refine hK.out _ _ ⟨(pw_cell_below (below_alloc BD.out _) k0), (pw_cell_below (below_alloc BD.out _) k1)⟩ (fun hHeld => ?_)
        clear hK K
        refine norm_ (a' := ?_) ?_ ?_
        rotate_left
        · show Act.put _ (some 7) _ = _
          simp only [Act.put, List.setIfInBounds_toArray, List.set_cons_zero, List.set_cons_succ, i64_w, i32_w]
          rfl
        exact norm_ (by simp only [putAll, Act.put, List.setIfInBounds_toArray, List.set_cons_zero, List.set_cons_succ, i64_w, i32_w]) (hC2 wD.heap.size _ ⟨below_alloc BD.out _, blk_new wD _, (show w4.heap.size ≤ wD.heap.size from BD.out.size)⟩)
    refine puQ 0 (some 21) (bl 11 1) ?_
    refine puQ 2 (some 23) (bl 11 5) ?_
    refine puQ 5 (some 26) (bl 11 37) ?_
    refine taQ 1 (some 22) (bl 11 39) hHeld ?_
    refine taQ 3 (some 24) (bl 11 47) hHeld ?_
    refine taQ 6 (some 27) (bl 11 111) hHeld ?_
    exact norm_ (by simp only [putAll, Act.put, List.setIfInBounds_toArray, List.set_cons_zero, List.set_cons_succ, i64_w, i32_w]) (hC0 () _ (below_drew (Below.refl _ _)))
  case rest =>
    obtain ⟨g7, Y2, e2, rfl, HC, HV⟩ := hcut
    clear k0 k1 HA FL
    have HA := HC
    clear HC
    have k0 := HA.out.c0
    have hlp := LP.out
    obtain ⟨Y, hY⟩ : ∃ Y, (if d2 = 1 then X2 else X2.map (·.add (1 * 1))) = Y := ⟨_, rfl⟩
    have hcut : ∀ W : World, (Instr.slice 41 (.slice X2 loop.length d2) (some (.int .i64 1)) none none).run Tryd.prog W = .ok (.slice Y (loop.length - 1) (d2 - 1)) W := by
      obtain ⟨i0, hi0, _, hsz, _⟩ := info_parts infoR
      intro W
      have hsc := HA.out.lc
      rw [cut_from 41 30 .i64 Tryd.underlying41 hi0 1 hsz X2 loop.length d2 1 (by omega) (by omega) W, show (1 : Int).toNat = 1 from rfl, hY]
    have hFY := Kd.F_cut (m := 1) (row_all HA.out.l) (by omega) HA.out.lc
    rw [show (Kd.slice 4 Kd.bool).sz = 1 from rfl, hY] at hFY
    have HFY := Aside0.mk (show Kd.F (Kd.slice 4 Kd.bool) wc (fun k => True ∧ k < wc.heap.size) Y (loop.length - 1) (loop.drop 1) from by rw [show loop.length - 1 = (loop.drop 1).length from List.length_drop.symm]; exact hFY)
    have FS := Aside0.mk (row_all HA.out.s)
    obtain ⟨adr, ccr, er, hclr, ⟨Ar, cr, rfl, hlr, hCr⟩, hcell⟩ := Kd.C_get HA.out.l ([] : List Bool) 0 (by omega) (by omega)
    subst er
    have k1 := HA.out.c1'
    have hxc := hcell 0 _ rfl
    simp only [show (Kd.slice 4 Kd.bool).sz = 1 from rfl, Nat.mul_one, Nat.add_zero, Int.toNat_zero] at hxc
    rw [show adr.add 0 = adr by cases adr; simp [Addr.add]] at hxc
    have HFR := Aside0.mk (let_all hlr hCr)
    simp only [Int.toNat_zero] at HFR
    obtain ⟨r0, hr0⟩ : ∃ r0, loop.getD 0 [] = r0 := ⟨_, rfl⟩
    rw [hr0] at hxc HFR
    have HR0 := Aside0.mk hr0
    have q0 : ((0 : Int) < (loop.length : Int)) = True := eq_true (by omega)
    have q1 : (0 < loop.length) = True := eq_true hlp
    obtain ⟨S1, hS1⟩ : ∃ L, stem ++ [r0] = L := ⟨_, rfl⟩
    have HS1 := Aside0.mk hS1
    obtain ⟨D1, hD1⟩ : ∃ L, loop.drop 1 ++ [r0] = L := ⟨_, rfl⟩
    have HD1 := Aside0.mk hD1
    clear hFY hY hcell hclr hlr hCr hr0 hS1 hD1
    go_upto_region 4 with fail
    (try simp only [Act.put, List.setIfInBounds_toArray, List.set_cons_zero, List.set_cons_succ])
    go_cut [8] (fun v8 wd => ∃ (g8 : Nat) (Y3 Y4 : Option Addr) (e3 e4 : Nat), v8 = .pointer (some ⟨g8, 0, none⟩) ∧ Aside0 (Amb w wd gw X1 (some adr) d1 d2 stem loop [(Bf, nf, ef, f)]) ∧ Aside0 (Amb w wd g7 X1 Y2 d1 e2 stem L2 [(Bf, nf, ef, f)]) ∧ Aside0 (Amb w wd g8 Y3 Y4 e3 e4 S1 D1 [(Bf, nf, ef, f)]))
    case first =>
      refine start_ (n := 22) (S := fun w' => w'.cell? ⟨gw, 0, none⟩ = some (.slice X1 stem.length d1) ∧ w'.cell? ⟨gw, 1, none⟩ = some (.slice (some adr) loop.length d2) ∧ w'.cell? adr = some (.slice Ar r0.length cr)) (ds := [21]) (bl 22 0) (by kernel_rfl) rfl (by kernel_rfl) ⟨(pw_cell_below (below_drew (Below.refl _ _)) k0), (pw_cell_below (below_drew (Below.refl _ _)) k1), (pw_cell_below (below_drew (Below.refl _ _)) hxc)⟩ (fun hHeld => ?_)
      refine with_tabW foretellkeep_WordLonger.tab4 foretellkeep_WordLonger.bits4 (fun HT_ HW_ => ?_)
      refine join_ (σ := Value × (Nat → Prop) × Nat × Option Addr × Nat × (Nat → Prop) × Value × (Nat → Prop) × Nat × Option Addr × Nat × (Nat → Prop) × Nat) 1 (bl 22 2097151) (fun s_ => [(30, .pointer (some ⟨gw, 0, none⟩)), (33, .pointer (some ⟨gw, 1, none⟩)), (39, .pointer (some ⟨gw, 1, none⟩)), (43, .pointer (some ⟨gw, 1, none⟩)), (31, .slice X1 stem.length d1), (34, .slice (some adr) loop.length d2), (35, .pointer (some adr)), (36, .slice Ar r0.length cr), (40, .slice (some adr) loop.length d2), (41, .slice Y (loop.length - 1) (d2 - 1)), (44, .slice (some adr) loop.length d2), (45, .pointer (some adr)), (46, .slice Ar r0.length cr), (32, s_.1), (37, (.slice (some ⟨s_.2.2.1, 0, none⟩) 1 1)), (38, (.slice s_.2.2.2.1 S1.length s_.2.2.2.2.1)), (42, s_.2.2.2.2.2.2.1), (47, (.slice (some ⟨s_.2.2.2.2.2.2.2.2.1, 0, none⟩) 1 1)), (48, (.slice s_.2.2.2.2.2.2.2.2.2.1 D1.length s_.2.2.2.2.2.2.2.2.2.2.1)), (49, .agg #[.slice s_.2.2.2.1 S1.length s_.2.2.2.2.1, .slice s_.2.2.2.2.2.2.2.2.2.1 D1.length s_.2.2.2.2.2.2.2.2.2.2.1]), (8, (.pointer (some ⟨s_.2.2.2.2.2.2.2.2.2.2.2.2, 0, none⟩)))]) (fun s_ w' => (Below wc.heap.size wc w') ∧ (Kd.N (Kd.slice 4 Kd.bool) 30 w' wc.heap.size s_.2.2.2.2.2.1 (.slice s_.2.2.2.1 S1.length s_.2.2.2.2.1) (S1)) ∧ (∀ k, s_.2.2.2.2.2.1 k → k < w'.heap.size) ∧ (Kd.N (Kd.slice 4 Kd.bool) 30 w' wc.heap.size s_.2.2.2.2.2.2.2.2.2.2.2.1 (.slice s_.2.2.2.2.2.2.2.2.2.1 D1.length s_.2.2.2.2.2.2.2.2.2.2.1) (D1)) ∧ (∀ k, s_.2.2.2.2.2.2.2.2.2.2.2.1 k → k < w'.heap.size) ∧ (w'.heap[s_.2.2.2.2.2.2.2.2.2.2.2.2]? = some (.cells #[.slice none 0 0, .slice none 0 0] 43 (0, 0))) ∧ (wc.heap.size ≤ s_.2.2.2.2.2.2.2.2.2.2.2.2) ∧ (¬ s_.2.2.2.2.2.1 s_.2.2.2.2.2.2.2.2.2.2.2.2) ∧ (¬ s_.2.2.2.2.2.2.2.2.2.2.2.1 s_.2.2.2.2.2.2.2.2.2.2.2.2)) ?_ (fun hC25 => ?_)
      · rintro ⟨va, oa, q1, Ys, es, os, vb, ob, q2, Yt, et, ot, g8⟩ wD ⟨BD_, N8_, OB8_, N18_, OB18_, K20_, G20_, P8_20_, P18_20_⟩
        have BD := Aside0.mk (show Below wc.heap.size wc wD from BD_)
        have N8 := Aside0.mk (show Kd.N (Kd.slice 4 Kd.bool) 30 wD wc.heap.size os (.slice Ys S1.length es) (S1) from N8_)
        have OB8 := Aside0.mk (show ∀ k, os k → k < wD.heap.size from OB8_)
        have N18 := Aside0.mk (show Kd.N (Kd.slice 4 Kd.bool) 30 wD wc.heap.size ot (.slice Yt D1.length et) (D1) from N18_)
        have OB18 := Aside0.mk (show ∀ k, ot k → k < wD.heap.size from OB18_)
        have K20 := Aside0.mk (show wD.heap[g8]? = some (.cells #[.slice none 0 0, .slice none 0 0] 43 (0, 0)) from K20_)
        have G20 := Aside0.mk (show wc.heap.size ≤ g8 from G20_)
        have P8_20 := Aside0.mk (show ¬ os g8 from P8_20_)
        have P18_20 := Aside0.mk (show ¬ ot g8 from P18_20_)
        clear BD_ N8_ OB8_ N18_ OB18_ K20_ G20_ P8_20_ P18_20_
        refine norm_ (a' := ?_) ?_ ?_
        rotate_left
        · simp only [putAll, Act.put, List.setIfInBounds_toArray, List.set_cons_zero, List.set_cons_succ, i64_w, i32_w]
          rfl
        refine last_ (i := 21) (N := none) (bl 22 4194303) rfl rfl (one_of HT_.out (by kernel_rfl)) (by decide) (fun K hK => ?_)
        have ka := (blk_cell K20.out 0).trans rfl
        have kb := (blk_cell K20.out 1).trans rfl
        have fa := blk_frozen K20.out 0
        have fb := blk_frozen K20.out 1
        refine skip_ (w1 := ?_) (by rfl) rfl ?_ ?_
        rotate_left
        · go_simp
          rfl
        refine hK.out _ _ ?_
        clear hK K
        refine done_ (done_of HT_.out (by kernel_rfl)) ?_
        go_wp2
        go_meet
        case rel =>
          obtain ⟨ha1, ha2⟩ := amb_two (st := S1) (lp := D1) (Y1 := Ys) (Y2 := Yt) (e1 := es) (e2 := et) HA.out BD.out G20.out K20.out rfl rfl (fun _ => (Kd.N_reads' (Kd.N_far (p := ⟨g8, 1, none⟩) (Kd.N_far (p := ⟨g8, 0, none⟩) N8.out (fun k hk e => P8_20.out (show _ from (show k = g8 from e) ▸ hk)) _) (fun k hk e => P8_20.out (show _ from (show k = g8 from e) ▸ hk)) _)).2.2) (fun _ => (Kd.N_reads' (Kd.N_far (p := ⟨g8, 1, none⟩) (Kd.N_far (p := ⟨g8, 0, none⟩) N18.out (fun k hk e => P18_20.out (show _ from (show k = g8 from e) ▸ hk)) _) (fun k hk e => P18_20.out (show _ from (show k = g8 from e) ▸ hk)) _)).2.2) (Kd.N_reads' N8.out).2.1 (Kd.N_reads' N18.out).2.1
          exact ⟨g8, Ys, Yt, es, et, rfl, ⟨ha1⟩, ⟨HV.out.below ((BD.out.setCell (p := ⟨g8, 0, none⟩) G20.out _).setCell (p := ⟨g8, 1, none⟩) G20.out _)⟩, ⟨ha2⟩⟩
      refine join_ (σ := Value × (Nat → Prop) × Nat × Option Addr × Nat × (Nat → Prop) × Value × (Nat → Prop) × Nat × Nat) 3 (bl 22 1310719) (fun s_ => [(30, .pointer (some ⟨gw, 0, none⟩)), (33, .pointer (some ⟨gw, 1, none⟩)), (39, .pointer (some ⟨gw, 1, none⟩)), (43, .pointer (some ⟨gw, 1, none⟩)), (31, .slice X1 stem.length d1), (34, .slice (some adr) loop.length d2), (35, .pointer (some adr)), (36, .slice Ar r0.length cr), (40, .slice (some adr) loop.length d2), (41, .slice Y (loop.length - 1) (d2 - 1)), (44, .slice (some adr) loop.length d2), (45, .pointer (some adr)), (46, .slice Ar r0.length cr), (32, s_.1), (37, (.slice (some ⟨s_.2.2.1, 0, none⟩) 1 1)), (38, (.slice s_.2.2.2.1 S1.length s_.2.2.2.2.1)), (42, s_.2.2.2.2.2.2.1), (47, (.slice (some ⟨s_.2.2.2.2.2.2.2.2.1, 0, none⟩) 1 1)), (8, (.pointer (some ⟨s_.2.2.2.2.2.2.2.2.2, 0, none⟩)))]) (fun s_ w' => (Below wc.heap.size wc w') ∧ (Kd.N (Kd.slice 4 Kd.bool) 30 w' wc.heap.size s_.2.2.2.2.2.1 (.slice s_.2.2.2.1 S1.length s_.2.2.2.2.1) (S1)) ∧ (∀ k, s_.2.2.2.2.2.1 k → k < w'.heap.size) ∧ (Kd.N (Kd.slice 4 Kd.bool) 30 w' wc.heap.size s_.2.2.2.2.2.2.2.1 s_.2.2.2.2.2.2.1 (loop.drop 1)) ∧ (∀ k, s_.2.2.2.2.2.2.2.1 k → k < w'.heap.size) ∧ (w'.heap[s_.2.2.2.2.2.2.2.2.1]? = some (.cells #[.slice Ar r0.length cr] 30 (0, 0))) ∧ (wc.heap.size ≤ s_.2.2.2.2.2.2.2.2.1) ∧ (w'.heap[s_.2.2.2.2.2.2.2.2.2]? = some (.cells #[.slice none 0 0, .slice none 0 0] 43 (0, 0))) ∧ (wc.heap.size ≤ s_.2.2.2.2.2.2.2.2.2) ∧ (¬ s_.2.2.2.2.2.1 s_.2.2.2.2.2.2.2.2.1) ∧ (¬ s_.2.2.2.2.2.1 s_.2.2.2.2.2.2.2.2.2) ∧ (∀ k, Value.ownBlock s_.2.2.2.2.2.2.1 = some k → ¬ s_.2.2.2.2.2.1 k) ∧ (¬ s_.2.2.2.2.2.2.2.1 s_.2.2.2.2.2.2.2.2.1) ∧ (¬ s_.2.2.2.2.2.2.2.1 s_.2.2.2.2.2.2.2.2.2) ∧ (s_.2.2.2.2.2.2.2.2.1 ≠ s_.2.2.2.2.2.2.2.2.2)) ?_ (fun hC24 => ?_)
      · rintro ⟨va, oa, q1, Ys, es, os, vb, ob, q2, g8⟩ wD ⟨BD_, N8_, OB8_, N12_, OB12_, K17_, G17_, K20_, G20_, P8_17_, P8_20_, P8_12_, P12_17_, P12_20_, P17_20_⟩
        have BD := Aside0.mk (show Below wc.heap.size wc wD from BD_)
        have N8 := Aside0.mk (show Kd.N (Kd.slice 4 Kd.bool) 30 wD wc.heap.size os (.slice Ys S1.length es) (S1) from N8_)
        have OB8 := Aside0.mk (show ∀ k, os k → k < wD.heap.size from OB8_)
        have N12 := Aside0.mk (show Kd.N (Kd.slice 4 Kd.bool) 30 wD wc.heap.size ob vb (loop.drop 1) from N12_)
        have OB12 := Aside0.mk (show ∀ k, ob k → k < wD.heap.size from OB12_)
        have K17 := Aside0.mk (show wD.heap[q2]? = some (.cells #[.slice Ar r0.length cr] 30 (0, 0)) from K17_)
        have G17 := Aside0.mk (show wc.heap.size ≤ q2 from G17_)
        have K20 := Aside0.mk (show wD.heap[g8]? = some (.cells #[.slice none 0 0, .slice none 0 0] 43 (0, 0)) from K20_)
        have G20 := Aside0.mk (show wc.heap.size ≤ g8 from G20_)
        have P8_17 := Aside0.mk (show ¬ os q2 from P8_17_)
        have P8_20 := Aside0.mk (show ¬ os g8 from P8_20_)
        have P8_12 := Aside0.mk (show ∀ k, Value.ownBlock vb = some k → ¬ os k from P8_12_)
        have P12_17 := Aside0.mk (show ¬ ob q2 from P12_17_)
        have P12_20 := Aside0.mk (show ¬ ob g8 from P12_20_)
        have P17_20 := Aside0.mk (show q2 ≠ g8 from P17_20_)
        clear BD_ N8_ OB8_ N12_ OB12_ K17_ G17_ K20_ G20_ P8_17_ P8_20_ P8_12_ P12_17_ P12_20_ P17_20_
        refine norm_ (a' := ?_) ?_ ?_
        rotate_left
        · simp only [putAll, Act.put, List.setIfInBounds_toArray, List.set_cons_zero, List.set_cons_succ, i64_w, i32_w]
          rfl
        refine one_ (i := 18) (N := some 48) (bl 22 1572863) rfl rfl (one_of HT_.out (by kernel_rfl)) (by decide) (fun K hK => ?_)
        refine Kd.N_append_rows_step (Kd.slice 4 Kd.bool) (w0 := wc) wc.heap.size (by rfl) (.tmp 42) (.tmp 47) 41 30 (.slice none 0 0) 24 (by rfl) Tryd.underlying41 infoR rfl (by decide) (by omega) vb (loop.drop 1) [r0] (some ⟨q2, 0, none⟩) 1 1 (fun k => ob k ∨ k = q2 ∨ k < wc.heap.size ∨ wD.heap.size ≤ k) (fun k => k = q2 ∨ (True ∧ k < wc.heap.size)) (by rfl) (by rfl) (Kd.N_mono N12.out (fun k h => .inl h)) (one_row K17.out (Kd.FK_step HFR.out (fun k _ hk => BD.out.block k hk))) (fun k hk => ⟨hk.elim (fun h => .inr (.inl h)) (fun h => .inr (.inr (.inl h.2))), fun e => hk.elim (fun h => P12_17.out (h ▸ N12.out.1 k e.symm)) (fun h => Nat.lt_irrefl _ (Nat.lt_of_lt_of_le h.2 (Kd.N_base N12.out k e.symm)))⟩) (fun k hk => .inr (.inr (.inr hk))) BD.out BD.out.size (by have := LB.out; simp only [List.length_drop]; omega) ?_
        intro vt w1 hra hba hga hata
        rw [HD1.out] at hra
        obtain ⟨Yt, et, rfl⟩ := Kd.N_slice hra
        obtain ⟨ot, ho⟩ : ∃ o_ : Nat → Prop, o_ = (fun k => (ob k ∨ k = q2 ∨ k < wc.heap.size ∨ wD.heap.size ≤ k) ∧ k < w1.heap.size) := ⟨_, rfl⟩
        have hoI : ∀ k, ot k → (ob k ∨ k = q2 ∨ k < wc.heap.size ∨ wD.heap.size ≤ k) ∧ k < w1.heap.size := fun k h => by rw [ho] at h; exact h
        have hn := Kd.N_bound hra
        rw [← ho] at hn
        refine hK.out _ _ ⟨(pw_cell_below (hba) k0), (pw_cell_below (hba) k1), (pw_cell_below (hba) hxc)⟩ (fun hHeld => ?_)
        clear hK K
        refine norm_ (a' := ?_) ?_ ?_
        rotate_left
        · show Act.put _ (some 48) _ = _
          simp only [Act.put, List.setIfInBounds_toArray, List.set_cons_zero, List.set_cons_succ, i64_w, i32_w]
          rfl
        refine puQ 19 (some 49) (bl 22 2097151) ?_
        exact norm_ (by simp only [putAll, Act.put, List.setIfInBounds_toArray, List.set_cons_zero, List.set_cons_succ, i64_w, i32_w]) (hC25 (va, oa, q1, Ys, es, os, vb, ob, q2, Yt, et, ot, g8) _ ⟨hba, Kd.N_grown N8.out hga (fun k hk => fun e => P8_12.out k e.symm hk), fun k h => Nat.lt_of_lt_of_le (OB8.out k h) hga.size, hn, fun k h => (hoI k h).2, blk_grown K20.out hga (fun e => P12_20.out (N12.out.1 _ e.symm)), (show wc.heap.size ≤ g8 from G20.out), (show ¬ os g8 from P8_20.out), (show ¬ ot g8 from fun h => by rcases (hoI _ h).1 with h1 | h1 | h1 | h1; exact P12_20.out h1; exact P17_20.out h1.symm; (have h2 := G20.out; omega); (have h3 := blk_lt K20.out; omega))⟩)
      refine join_ (σ := Value × (Nat → Prop) × Nat × Option Addr × Nat × (Nat → Prop) × Value × (Nat → Prop) × Nat × Option Addr × Nat × (Nat → Prop)) 2 (bl 22 1048575) (fun s_ => [(30, .pointer (some ⟨gw, 0, none⟩)), (33, .pointer (some ⟨gw, 1, none⟩)), (39, .pointer (some ⟨gw, 1, none⟩)), (43, .pointer (some ⟨gw, 1, none⟩)), (31, .slice X1 stem.length d1), (34, .slice (some adr) loop.length d2), (35, .pointer (some adr)), (36, .slice Ar r0.length cr), (40, .slice (some adr) loop.length d2), (41, .slice Y (loop.length - 1) (d2 - 1)), (44, .slice (some adr) loop.length d2), (45, .pointer (some adr)), (46, .slice Ar r0.length cr), (32, s_.1), (37, (.slice (some ⟨s_.2.2.1, 0, none⟩) 1 1)), (38, (.slice s_.2.2.2.1 S1.length s_.2.2.2.2.1)), (42, s_.2.2.2.2.2.2.1), (47, (.slice (some ⟨s_.2.2.2.2.2.2.2.2.1, 0, none⟩) 1 1)), (48, (.slice s_.2.2.2.2.2.2.2.2.2.1 D1.length s_.2.2.2.2.2.2.2.2.2.2.1)), (49, .agg #[.slice s_.2.2.2.1 S1.length s_.2.2.2.2.1, .slice s_.2.2.2.2.2.2.2.2.2.1 D1.length s_.2.2.2.2.2.2.2.2.2.2.1])]) (fun s_ w' => (Below wc.heap.size wc w') ∧ (Kd.N (Kd.slice 4 Kd.bool) 30 w' wc.heap.size s_.2.2.2.2.2.1 (.slice s_.2.2.2.1 S1.length s_.2.2.2.2.1) (S1)) ∧ (∀ k, s_.2.2.2.2.2.1 k → k < w'.heap.size) ∧ (Kd.N (Kd.slice 4 Kd.bool) 30 w' wc.heap.size s_.2.2.2.2.2.2.2.2.2.2.2 (.slice s_.2.2.2.2.2.2.2.2.2.1 D1.length s_.2.2.2.2.2.2.2.2.2.2.1) (D1)) ∧ (∀ k, s_.2.2.2.2.2.2.2.2.2.2.2 k → k < w'.heap.size)) ?_ (fun hC23 => ?_)
      · rintro ⟨va, oa, q1, Ys, es, os, vb, ob, q2, Yt, et, ot⟩ wD ⟨BD_, N8_, OB8_, N18_, OB18_⟩
        have BD := Aside0.mk (show Below wc.heap.size wc wD from BD_)
        have N8 := Aside0.mk (show Kd.N (Kd.slice 4 Kd.bool) 30 wD wc.heap.size os (.slice Ys S1.length es) (S1) from N8_)
        have OB8 := Aside0.mk (show ∀ k, os k → k < wD.heap.size from OB8_)
        have N18 := Aside0.mk (show Kd.N (Kd.slice 4 Kd.bool) 30 wD wc.heap.size ot (.slice Yt D1.length et) (D1) from N18_)
        have OB18 := Aside0.mk (show ∀ k, ot k → k < wD.heap.size from OB18_)
        clear BD_ N8_ OB8_ N18_ OB18_
        refine norm_ (a' := ?_) ?_ ?_
        rotate_left
        · simp only [putAll, Act.put, List.setIfInBounds_toArray, List.set_cons_zero, List.set_cons_succ, i64_w, i32_w]
          rfl
        refine one_ (i := 20) (N := some 8) (bl 22 2097151) rfl rfl (one_of HT_.out (by kernel_rfl)) (by decide) (fun K hK => ?_)
        refine value_ (w1 := ?_) (v := ?_) (by rfl) rfl ?_ ?_
        rotate_left 2
        · go_simp
          constructor
          · rfl
          · rfl
        refine hK.out _ _ ⟨(pw_cell_below (below_alloc BD.out _) k0), (pw_cell_below (below_alloc BD.out _) k1), (pw_cell_below (below_alloc BD.out _) hxc)⟩ (fun hHeld => ?_)
        clear hK K
        refine norm_ (a' := ?_) ?_ ?_
        rotate_left
        · show Act.put _ (some 8) _ = _
          simp only [Act.put, List.setIfInBounds_toArray, List.set_cons_zero, List.set_cons_succ, i64_w, i32_w]
          rfl
        exact norm_ (by simp only [putAll, Act.put, List.setIfInBounds_toArray, List.set_cons_zero, List.set_cons_succ, i64_w, i32_w]) (hC25 (va, oa, q1, Ys, es, os, vb, ob, q2, Yt, et, ot, wD.heap.size) _ ⟨below_alloc BD.out _, Kd.N_alloc N8.out _, fun k h => Nat.lt_trans (OB8.out k h) (by rw [World.size_alloc]; exact Nat.lt_succ_self _), Kd.N_alloc N18.out _, fun k h => Nat.lt_trans (OB18.out k h) (by rw [World.size_alloc]; exact Nat.lt_succ_self _), blk_new wD _, (show wc.heap.size ≤ wD.heap.size from BD.out.size), (show ¬ os wD.heap.size from fun h => Nat.lt_irrefl _ (OB8.out _ h)), (show ¬ ot wD.heap.size from fun h => Nat.lt_irrefl _ (OB18.out _ h))⟩)
      refine join_ (σ := Value × (Nat → Prop) × Nat × Option Addr × Nat × (Nat → Prop) × Nat × Nat) 4 (bl 22 1306623) (fun s_ => [(30, .pointer (some ⟨gw, 0, none⟩)), (33, .pointer (some ⟨gw, 1, none⟩)), (39, .pointer (some ⟨gw, 1, none⟩)), (43, .pointer (some ⟨gw, 1, none⟩)), (31, .slice X1 stem.length d1), (34, .slice (some adr) loop.length d2), (35, .pointer (some adr)), (36, .slice Ar r0.length cr), (40, .slice (some adr) loop.length d2), (41, .slice Y (loop.length - 1) (d2 - 1)), (44, .slice (some adr) loop.length d2), (45, .pointer (some adr)), (46, .slice Ar r0.length cr), (32, s_.1), (37, (.slice (some ⟨s_.2.2.1, 0, none⟩) 1 1)), (38, (.slice s_.2.2.2.1 S1.length s_.2.2.2.2.1)), (47, (.slice (some ⟨s_.2.2.2.2.2.2.1, 0, none⟩) 1 1)), (8, (.pointer (some ⟨s_.2.2.2.2.2.2.2, 0, none⟩)))]) (fun s_ w' => (Below wc.heap.size wc w') ∧ (Kd.N (Kd.slice 4 Kd.bool) 30 w' wc.heap.size s_.2.2.2.2.2.1 (.slice s_.2.2.2.1 S1.length s_.2.2.2.2.1) (S1)) ∧ (∀ k, s_.2.2.2.2.2.1 k → k < w'.heap.size) ∧ (w'.heap[s_.2.2.2.2.2.2.1]? = some (.cells #[.slice Ar r0.length cr] 30 (0, 0))) ∧ (wc.heap.size ≤ s_.2.2.2.2.2.2.1) ∧ (w'.heap[s_.2.2.2.2.2.2.2]? = some (.cells #[.slice none 0 0, .slice none 0 0] 43 (0, 0))) ∧ (wc.heap.size ≤ s_.2.2.2.2.2.2.2) ∧ (¬ s_.2.2.2.2.2.1 s_.2.2.2.2.2.2.1) ∧ (¬ s_.2.2.2.2.2.1 s_.2.2.2.2.2.2.2) ∧ (s_.2.2.2.2.2.2.1 ≠ s_.2.2.2.2.2.2.2)) ?_ (fun hC22 => ?_)
      · rintro ⟨va, oa, q1, Ys, es, os, q2, g8⟩ wD ⟨BD_, N8_, OB8_, K17_, G17_, K20_, G20_, P8_17_, P8_20_, P17_20_⟩
        have BD := Aside0.mk (show Below wc.heap.size wc wD from BD_)
        have N8 := Aside0.mk (show Kd.N (Kd.slice 4 Kd.bool) 30 wD wc.heap.size os (.slice Ys S1.length es) (S1) from N8_)
        have OB8 := Aside0.mk (show ∀ k, os k → k < wD.heap.size from OB8_)
        have K17 := Aside0.mk (show wD.heap[q2]? = some (.cells #[.slice Ar r0.length cr] 30 (0, 0)) from K17_)
        have G17 := Aside0.mk (show wc.heap.size ≤ q2 from G17_)
        have K20 := Aside0.mk (show wD.heap[g8]? = some (.cells #[.slice none 0 0, .slice none 0 0] 43 (0, 0)) from K20_)
        have G20 := Aside0.mk (show wc.heap.size ≤ g8 from G20_)
        have P8_17 := Aside0.mk (show ¬ os q2 from P8_17_)
        have P8_20 := Aside0.mk (show ¬ os g8 from P8_20_)
        have P17_20 := Aside0.mk (show q2 ≠ g8 from P17_20_)
        clear BD_ N8_ OB8_ K17_ G17_ K20_ G20_ P8_17_ P8_20_ P17_20_
        refine norm_ (a' := ?_) ?_ ?_
        rotate_left
        · simp only [putAll, Act.put, List.setIfInBounds_toArray, List.set_cons_zero, List.set_cons_succ, i64_w, i32_w]
          rfl
        refine one_ (i := 12) (N := some 42) (bl 22 1310719) rfl rfl (one_of HT_.out (by kernel_rfl)) (by decide) (fun K hK => ?_)
        refine Kd.N_append_rows_step (Kd.slice 4 Kd.bool) (w0 := wc) wc.heap.size (by rfl) (.const (.slice none 0 0)) (.tmp 41) 41 30 (.slice none 0 0) 24 (by rfl) Tryd.underlying41 infoR rfl (by decide) (by omega) (.slice none 0 0) ([] : List (List Bool)) (loop.drop 1) Y (loop.length - 1) (d2 - 1) (fun k => k < wc.heap.size ∨ wD.heap.size ≤ k) (fun k => True ∧ k < wc.heap.size) (by rfl) (by rfl) (Kd.N_nil _ _ _ _ _) (Kd.F_step HFY.out (fun k _ hk => BD.out.block k hk)) (fun k hk => ⟨.inl hk.2, by simp [Value.ownBlock]⟩) (fun k hk => .inr hk) BD.out BD.out.size (by have := LB.out; simp only [List.length_nil]; omega) ?_
        intro vb w1 hra hba hga hata
        rw [List.nil_append] at hra
        obtain ⟨ob, ho⟩ : ∃ o_ : Nat → Prop, o_ = (fun k => (k < wc.heap.size ∨ wD.heap.size ≤ k) ∧ k < w1.heap.size) := ⟨_, rfl⟩
        have hoI : ∀ k, ob k → (k < wc.heap.size ∨ wD.heap.size ≤ k) ∧ k < w1.heap.size := fun k h => by rw [ho] at h; exact h
        have hn := Kd.N_bound hra
        rw [← ho] at hn
        refine hK.out _ _ ⟨(pw_cell_below (hba) k0), (pw_cell_below (hba) k1), (pw_cell_below (hba) hxc)⟩ (fun hHeld => ?_)
        clear hK K
        refine norm_ (a' := ?_) ?_ ?_
        rotate_left
        · show Act.put _ (some 42) _ = _
          simp only [Act.put, List.setIfInBounds_toArray, List.set_cons_zero, List.set_cons_succ, i64_w, i32_w]
          rfl
        exact norm_ (by simp only [putAll, Act.put, List.setIfInBounds_toArray, List.set_cons_zero, List.set_cons_succ, i64_w, i32_w]) (hC24 (va, oa, q1, Ys, es, os, vb, ob, q2, g8) _ ⟨hba, Kd.N_grown N8.out hga (fun k hk => by simp [Value.ownBlock]), fun k h => Nat.lt_of_lt_of_le (OB8.out k h) hga.size, hn, fun k h => (hoI k h).2, blk_grown K17.out hga (by simp [Value.ownBlock]), (show wc.heap.size ≤ q2 from G17.out), blk_grown K20.out hga (by simp [Value.ownBlock]), (show wc.heap.size ≤ g8 from G20.out), (show ¬ os q2 from P8_17.out), (show ¬ os g8 from P8_20.out), (show ∀ k, Value.ownBlock vb = some k → ¬ os k from fun k e h => by have h1 := OB8.out k h; rcases hata with h2 | ⟨b, h2, h3⟩ <;> rw [h2] at e <;> simp [Value.ownBlock] at e; omega), (show ¬ ob q2 from fun h => by have h1 := hoI _ h; have h2 := G17.out; have h3 := blk_lt K17.out; omega), (show ¬ ob g8 from fun h => by have h1 := hoI _ h; have h2 := G20.out; have h3 := blk_lt K20.out; omega), (show q2 ≠ g8 from P17_20.out)⟩)
      refine join_ (σ := Value × (Nat → Prop) × Nat × Option Addr × Nat × (Nat → Prop) × Value × (Nat → Prop) × Nat) 4 (bl 22 1179647) (fun s_ => [(30, .pointer (some ⟨gw, 0, none⟩)), (33, .pointer (some ⟨gw, 1, none⟩)), (39, .pointer (some ⟨gw, 1, none⟩)), (43, .pointer (some ⟨gw, 1, none⟩)), (31, .slice X1 stem.length d1), (34, .slice (some adr) loop.length d2), (35, .pointer (some adr)), (36, .slice Ar r0.length cr), (40, .slice (some adr) loop.length d2), (41, .slice Y (loop.length - 1) (d2 - 1)), (44, .slice (some adr) loop.length d2), (45, .pointer (some adr)), (46, .slice Ar r0.length cr), (32, s_.1), (37, (.slice (some ⟨s_.2.2.1, 0, none⟩) 1 1)), (38, (.slice s_.2.2.2.1 S1.length s_.2.2.2.2.1)), (42, s_.2.2.2.2.2.2.1), (8, (.pointer (some ⟨s_.2.2.2.2.2.2.2.2, 0, none⟩)))]) (fun s_ w' => (Below wc.heap.size wc w') ∧ (Kd.N (Kd.slice 4 Kd.bool) 30 w' wc.heap.size s_.2.2.2.2.2.1 (.slice s_.2.2.2.1 S1.length s_.2.2.2.2.1) (S1)) ∧ (∀ k, s_.2.2.2.2.2.1 k → k < w'.heap.size) ∧ (Kd.N (Kd.slice 4 Kd.bool) 30 w' wc.heap.size s_.2.2.2.2.2.2.2.1 s_.2.2.2.2.2.2.1 (loop.drop 1)) ∧ (∀ k, s_.2.2.2.2.2.2.2.1 k → k < w'.heap.size) ∧ (w'.heap[s_.2.2.2.2.2.2.2.2]? = some (.cells #[.slice none 0 0, .slice none 0 0] 43 (0, 0))) ∧ (wc.heap.size ≤ s_.2.2.2.2.2.2.2.2) ∧ (¬ s_.2.2.2.2.2.1 s_.2.2.2.2.2.2.2.2) ∧ (∀ k, Value.ownBlock s_.2.2.2.2.2.2.1 = some k → ¬ s_.2.2.2.2.2.1 k) ∧ (¬ s_.2.2.2.2.2.2.2.1 s_.2.2.2.2.2.2.2.2)) ?_ (fun hC21 => ?_)
      · rintro ⟨va, oa, q1, Ys, es, os, vb, ob, g8⟩ wD ⟨BD_, N8_, OB8_, N12_, OB12_, K20_, G20_, P8_20_, P8_12_, P12_20_⟩
        have BD := Aside0.mk (show Below wc.heap.size wc wD from BD_)
        have N8 := Aside0.mk (show Kd.N (Kd.slice 4 Kd.bool) 30 wD wc.heap.size os (.slice Ys S1.length es) (S1) from N8_)
        have OB8 := Aside0.mk (show ∀ k, os k → k < wD.heap.size from OB8_)
        have N12 := Aside0.mk (show Kd.N (Kd.slice 4 Kd.bool) 30 wD wc.heap.size ob vb (loop.drop 1) from N12_)
        have OB12 := Aside0.mk (show ∀ k, ob k → k < wD.heap.size from OB12_)
        have K20 := Aside0.mk (show wD.heap[g8]? = some (.cells #[.slice none 0 0, .slice none 0 0] 43 (0, 0)) from K20_)
        have G20 := Aside0.mk (show wc.heap.size ≤ g8 from G20_)
        have P8_20 := Aside0.mk (show ¬ os g8 from P8_20_)
        have P8_12 := Aside0.mk (show ∀ k, Value.ownBlock vb = some k → ¬ os k from P8_12_)
        have P12_20 := Aside0.mk (show ¬ ob g8 from P12_20_)
        clear BD_ N8_ OB8_ N12_ OB12_ K20_ G20_ P8_20_ P8_12_ P12_20_
        refine norm_ (a' := ?_) ?_ ?_
        rotate_left
        · simp only [putAll, Act.put, List.setIfInBounds_toArray, List.set_cons_zero, List.set_cons_succ, i64_w, i32_w]
          rfl
        refine one_ (i := 17) (N := some 47) (bl 22 1310719) rfl rfl (one_of HT_.out (by kernel_rfl)) (by decide) (fun K hK => ?_)
        refine value_ (w1 := ?_) (v := ?_) (by rfl) rfl ?_ ?_
        rotate_left 2
        · go_simp
          constructor
          · rfl
          · rfl
        refine hK.out _ _ ⟨(pw_cell_below (below_alloc BD.out _) k0), (pw_cell_below (below_alloc BD.out _) k1), (pw_cell_below (below_alloc BD.out _) hxc)⟩ (fun hHeld => ?_)
        clear hK K
        refine norm_ (a' := ?_) ?_ ?_
        rotate_left
        · show Act.put _ (some 47) _ = _
          simp only [Act.put, List.setIfInBounds_toArray, List.set_cons_zero, List.set_cons_succ, i64_w, i32_w]
          rfl
        exact norm_ (by simp only [putAll, Act.put, List.setIfInBounds_toArray, List.set_cons_zero, List.set_cons_succ, i64_w, i32_w]) (hC24 (va, oa, q1, Ys, es, os, vb, ob, wD.heap.size, g8) _ ⟨below_alloc BD.out _, Kd.N_alloc N8.out _, fun k h => Nat.lt_trans (OB8.out k h) (by rw [World.size_alloc]; exact Nat.lt_succ_self _), Kd.N_alloc N12.out _, fun k h => Nat.lt_trans (OB12.out k h) (by rw [World.size_alloc]; exact Nat.lt_succ_self _), blk_new wD _, (show wc.heap.size ≤ wD.heap.size from BD.out.size), blk_alloc K20.out _, (show wc.heap.size ≤ g8 from G20.out), (show ¬ os wD.heap.size from fun h => Nat.lt_irrefl _ (OB8.out _ h)), (show ¬ os g8 from P8_20.out), (show ∀ k, Value.ownBlock vb = some k → ¬ os k from P8_12.out), (show ¬ ob wD.heap.size from fun h => Nat.lt_irrefl _ (OB12.out _ h)), (show ¬ ob g8 from P12_20.out), (show wD.heap.size ≠ g8 from Nat.ne_of_gt (blk_lt K20.out))⟩)
      refine join_ (σ := Value × (Nat → Prop) × Nat × Option Addr × Nat × (Nat → Prop) × Value × (Nat → Prop) × Nat) 4 (bl 22 262143) (fun s_ => [(30, .pointer (some ⟨gw, 0, none⟩)), (33, .pointer (some ⟨gw, 1, none⟩)), (39, .pointer (some ⟨gw, 1, none⟩)), (43, .pointer (some ⟨gw, 1, none⟩)), (31, .slice X1 stem.length d1), (34, .slice (some adr) loop.length d2), (35, .pointer (some adr)), (36, .slice Ar r0.length cr), (40, .slice (some adr) loop.length d2), (41, .slice Y (loop.length - 1) (d2 - 1)), (44, .slice (some adr) loop.length d2), (45, .pointer (some adr)), (46, .slice Ar r0.length cr), (32, s_.1), (37, (.slice (some ⟨s_.2.2.1, 0, none⟩) 1 1)), (38, (.slice s_.2.2.2.1 S1.length s_.2.2.2.2.1)), (42, s_.2.2.2.2.2.2.1), (47, (.slice (some ⟨s_.2.2.2.2.2.2.2.2, 0, none⟩) 1 1))]) (fun s_ w' => (Below wc.heap.size wc w') ∧ (Kd.N (Kd.slice 4 Kd.bool) 30 w' wc.heap.size s_.2.2.2.2.2.1 (.slice s_.2.2.2.1 S1.length s_.2.2.2.2.1) (S1)) ∧ (∀ k, s_.2.2.2.2.2.1 k → k < w'.heap.size) ∧ (Kd.N (Kd.slice 4 Kd.bool) 30 w' wc.heap.size s_.2.2.2.2.2.2.2.1 s_.2.2.2.2.2.2.1 (loop.drop 1)) ∧ (∀ k, s_.2.2.2.2.2.2.2.1 k → k < w'.heap.size) ∧ (w'.heap[s_.2.2.2.2.2.2.2.2]? = some (.cells #[.slice Ar r0.length cr] 30 (0, 0))) ∧ (wc.heap.size ≤ s_.2.2.2.2.2.2.2.2) ∧ (¬ s_.2.2.2.2.2.1 s_.2.2.2.2.2.2.2.2) ∧ (∀ k, Value.ownBlock s_.2.2.2.2.2.2.1 = some k → ¬ s_.2.2.2.2.2.1 k) ∧ (¬ s_.2.2.2.2.2.2.2.1 s_.2.2.2.2.2.2.2.2)) ?_ (fun hC20 => ?_)
      · rintro ⟨va, oa, q1, Ys, es, os, vb, ob, q2⟩ wD ⟨BD_, N8_, OB8_, N12_, OB12_, K17_, G17_, P8_17_, P8_12_, P12_17_⟩
        have BD := Aside0.mk (show Below wc.heap.size wc wD from BD_)
        have N8 := Aside0.mk (show Kd.N (Kd.slice 4 Kd.bool) 30 wD wc.heap.size os (.slice Ys S1.length es) (S1) from N8_)
        have OB8 := Aside0.mk (show ∀ k, os k → k < wD.heap.size from OB8_)
        have N12 := Aside0.mk (show Kd.N (Kd.slice 4 Kd.bool) 30 wD wc.heap.size ob vb (loop.drop 1) from N12_)
        have OB12 := Aside0.mk (show ∀ k, ob k → k < wD.heap.size from OB12_)
        have K17 := Aside0.mk (show wD.heap[q2]? = some (.cells #[.slice Ar r0.length cr] 30 (0, 0)) from K17_)
        have G17 := Aside0.mk (show wc.heap.size ≤ q2 from G17_)
        have P8_17 := Aside0.mk (show ¬ os q2 from P8_17_)
        have P8_12 := Aside0.mk (show ∀ k, Value.ownBlock vb = some k → ¬ os k from P8_12_)
        have P12_17 := Aside0.mk (show ¬ ob q2 from P12_17_)
        clear BD_ N8_ OB8_ N12_ OB12_ K17_ G17_ P8_17_ P8_12_ P12_17_
        refine norm_ (a' := ?_) ?_ ?_
        rotate_left
        · simp only [putAll, Act.put, List.setIfInBounds_toArray, List.set_cons_zero, List.set_cons_succ, i64_w, i32_w]
          rfl
        refine two_ (i := 18) (j := 20) (Ni := some 48) (Nj := some 8) (bl 22 524287) (bl 22 1310719) rfl rfl rfl rfl (two_of HT_.out (by kernel_rfl)) (by decide) (by decide) (fun K hK => ?_) (fun K hK => ?_)
        · skip
          refine Kd.N_append_rows_step (Kd.slice 4 Kd.bool) (w0 := wc) wc.heap.size (by rfl) (.tmp 42) (.tmp 47) 41 30 (.slice none 0 0) 24 (by rfl) Tryd.underlying41 infoR rfl (by decide) (by omega) vb (loop.drop 1) [r0] (some ⟨q2, 0, none⟩) 1 1 (fun k => ob k ∨ k = q2 ∨ k < wc.heap.size ∨ wD.heap.size ≤ k) (fun k => k = q2 ∨ (True ∧ k < wc.heap.size)) (by rfl) (by rfl) (Kd.N_mono N12.out (fun k h => .inl h)) (one_row K17.out (Kd.FK_step HFR.out (fun k _ hk => BD.out.block k hk))) (fun k hk => ⟨hk.elim (fun h => .inr (.inl h)) (fun h => .inr (.inr (.inl h.2))), fun e => hk.elim (fun h => P12_17.out (h ▸ N12.out.1 k e.symm)) (fun h => Nat.lt_irrefl _ (Nat.lt_of_lt_of_le h.2 (Kd.N_base N12.out k e.symm)))⟩) (fun k hk => .inr (.inr (.inr hk))) BD.out BD.out.size (by have := LB.out; simp only [List.length_drop]; omega) ?_
          intro vt w1 hra hba hga hata
          rw [HD1.out] at hra
          obtain ⟨Yt, et, rfl⟩ := Kd.N_slice hra
          obtain ⟨ot, ho⟩ : ∃ o_ : Nat → Prop, o_ = (fun k => (ob k ∨ k = q2 ∨ k < wc.heap.size ∨ wD.heap.size ≤ k) ∧ k < w1.heap.size) := ⟨_, rfl⟩
          have hoI : ∀ k, ot k → (ob k ∨ k = q2 ∨ k < wc.heap.size ∨ wD.heap.size ≤ k) ∧ k < w1.heap.size := fun k h => by rw [ho] at h; exact h
          have hn := Kd.N_bound hra
          rw [← ho] at hn
          refine hK.out _ _ ⟨(pw_cell_below (hba) k0), (pw_cell_below (hba) k1), (pw_cell_below (hba) hxc)⟩ (fun hHeld => ?_)
          clear hK K
          refine norm_ (a' := ?_) ?_ ?_
          rotate_left
          · show Act.put _ (some 48) _ = _
            simp only [Act.put, List.setIfInBounds_toArray, List.set_cons_zero, List.set_cons_succ, i64_w, i32_w]
            rfl
          refine puQ 19 (some 49) (bl 22 1048575) ?_
          exact norm_ (by simp only [putAll, Act.put, List.setIfInBounds_toArray, List.set_cons_zero, List.set_cons_succ, i64_w, i32_w]) (hC23 (va, oa, q1, Ys, es, os, vb, ob, q2, Yt, et, ot) _ ⟨hba, Kd.N_grown N8.out hga (fun k hk => fun e => P8_12.out k e.symm hk), fun k h => Nat.lt_of_lt_of_le (OB8.out k h) hga.size, hn, fun k h => (hoI k h).2⟩)
        · skip
          refine value_ (w1 := ?_) (v := ?_) (by rfl) rfl ?_ ?_
          rotate_left 2
          · go_simp
            constructor
            · rfl
            · rfl
          refine hK.out _ _ ⟨(pw_cell_below (below_alloc BD.out _) k0), (pw_cell_below (below_alloc BD.out _) k1), (pw_cell_below (below_alloc BD.out _) hxc)⟩ (fun hHeld => ?_)
          clear hK K
          refine norm_ (a' := ?_) ?_ ?_
          rotate_left
          · show Act.put _ (some 8) _ = _
            simp only [Act.put, List.setIfInBounds_toArray, List.set_cons_zero, List.set_cons_succ, i64_w, i32_w]
            rfl
          exact norm_ (by simp only [putAll, Act.put, List.setIfInBounds_toArray, List.set_cons_zero, List.set_cons_succ, i64_w, i32_w]) (hC24 (va, oa, q1, Ys, es, os, vb, ob, q2, wD.heap.size) _ ⟨below_alloc BD.out _, Kd.N_alloc N8.out _, fun k h => Nat.lt_trans (OB8.out k h) (by rw [World.size_alloc]; exact Nat.lt_succ_self _), Kd.N_alloc N12.out _, fun k h => Nat.lt_trans (OB12.out k h) (by rw [World.size_alloc]; exact Nat.lt_succ_self _), blk_alloc K17.out _, (show wc.heap.size ≤ q2 from G17.out), blk_new wD _, (show wc.heap.size ≤ wD.heap.size from BD.out.size), (show ¬ os q2 from P8_17.out), (show ¬ os wD.heap.size from fun h => Nat.lt_irrefl _ (OB8.out _ h)), (show ∀ k, Value.ownBlock vb = some k → ¬ os k from P8_12.out), (show ¬ ob q2 from P12_17.out), (show ¬ ob wD.heap.size from fun h => Nat.lt_irrefl _ (OB12.out _ h)), (show q2 ≠ wD.heap.size from Nat.ne_of_lt (blk_lt K17.out))⟩)
      refine join_ (σ := Value × (Nat → Prop) × Nat × Nat × Nat) 5 (bl 22 1306367) (fun s_ => [(30, .pointer (some ⟨gw, 0, none⟩)), (33, .pointer (some ⟨gw, 1, none⟩)), (39, .pointer (some ⟨gw, 1, none⟩)), (43, .pointer (some ⟨gw, 1, none⟩)), (31, .slice X1 stem.length d1), (34, .slice (some adr) loop.length d2), (35, .pointer (some adr)), (36, .slice Ar r0.length cr), (40, .slice (some adr) loop.length d2), (41, .slice Y (loop.length - 1) (d2 - 1)), (44, .slice (some adr) loop.length d2), (45, .pointer (some adr)), (46, .slice Ar r0.length cr), (32, s_.1), (37, (.slice (some ⟨s_.2.2.1, 0, none⟩) 1 1)), (47, (.slice (some ⟨s_.2.2.2.1, 0, none⟩) 1 1)), (8, (.pointer (some ⟨s_.2.2.2.2, 0, none⟩)))]) (fun s_ w' => (Below wc.heap.size wc w') ∧ (Kd.N (Kd.slice 4 Kd.bool) 30 w' wc.heap.size s_.2.1 s_.1 (stem)) ∧ (∀ k, s_.2.1 k → k < w'.heap.size) ∧ (w'.heap[s_.2.2.1]? = some (.cells #[.slice Ar r0.length cr] 30 (0, 0))) ∧ (wc.heap.size ≤ s_.2.2.1) ∧ (w'.heap[s_.2.2.2.1]? = some (.cells #[.slice Ar r0.length cr] 30 (0, 0))) ∧ (wc.heap.size ≤ s_.2.2.2.1) ∧ (w'.heap[s_.2.2.2.2]? = some (.cells #[.slice none 0 0, .slice none 0 0] 43 (0, 0))) ∧ (wc.heap.size ≤ s_.2.2.2.2) ∧ (¬ s_.2.1 s_.2.2.1) ∧ (¬ s_.2.1 s_.2.2.2.1) ∧ (¬ s_.2.1 s_.2.2.2.2) ∧ (s_.2.2.1 ≠ s_.2.2.2.1) ∧ (s_.2.2.1 ≠ s_.2.2.2.2) ∧ (s_.2.2.2.1 ≠ s_.2.2.2.2)) ?_ (fun hC19 => ?_)
      · rintro ⟨va, oa, q1, q2, g8⟩ wD ⟨BD_, N2_, OB2_, K7_, G7_, K17_, G17_, K20_, G20_, P2_7_, P2_17_, P2_20_, P7_17_, P7_20_, P17_20_⟩
        have BD := Aside0.mk (show Below wc.heap.size wc wD from BD_)
        have N2 := Aside0.mk (show Kd.N (Kd.slice 4 Kd.bool) 30 wD wc.heap.size oa va (stem) from N2_)
        have OB2 := Aside0.mk (show ∀ k, oa k → k < wD.heap.size from OB2_)
        have K7 := Aside0.mk (show wD.heap[q1]? = some (.cells #[.slice Ar r0.length cr] 30 (0, 0)) from K7_)
        have G7 := Aside0.mk (show wc.heap.size ≤ q1 from G7_)
        have K17 := Aside0.mk (show wD.heap[q2]? = some (.cells #[.slice Ar r0.length cr] 30 (0, 0)) from K17_)
        have G17 := Aside0.mk (show wc.heap.size ≤ q2 from G17_)
        have K20 := Aside0.mk (show wD.heap[g8]? = some (.cells #[.slice none 0 0, .slice none 0 0] 43 (0, 0)) from K20_)
        have G20 := Aside0.mk (show wc.heap.size ≤ g8 from G20_)
        have P2_7 := Aside0.mk (show ¬ oa q1 from P2_7_)
        have P2_17 := Aside0.mk (show ¬ oa q2 from P2_17_)
        have P2_20 := Aside0.mk (show ¬ oa g8 from P2_20_)
        have P7_17 := Aside0.mk (show q1 ≠ q2 from P7_17_)
        have P7_20 := Aside0.mk (show q1 ≠ g8 from P7_20_)
        have P17_20 := Aside0.mk (show q2 ≠ g8 from P17_20_)
        clear BD_ N2_ OB2_ K7_ G7_ K17_ G17_ K20_ G20_ P2_7_ P2_17_ P2_20_ P7_17_ P7_20_ P17_20_
        refine norm_ (a' := ?_) ?_ ?_
        rotate_left
        · simp only [putAll, Act.put, List.setIfInBounds_toArray, List.set_cons_zero, List.set_cons_succ, i64_w, i32_w]
          rfl
        refine one_ (i := 8) (N := some 38) (bl 22 1306623) rfl rfl (one_of HT_.out (by kernel_rfl)) (by decide) (fun K hK => ?_)
        refine Kd.N_append_rows_step (Kd.slice 4 Kd.bool) (w0 := wc) wc.heap.size (by rfl) (.tmp 32) (.tmp 37) 41 30 (.slice none 0 0) 24 (by rfl) Tryd.underlying41 infoR rfl (by decide) (by omega) va (stem) [r0] (some ⟨q1, 0, none⟩) 1 1 (fun k => oa k ∨ k = q1 ∨ k < wc.heap.size ∨ wD.heap.size ≤ k) (fun k => k = q1 ∨ (True ∧ k < wc.heap.size)) (by rfl) (by rfl) (Kd.N_mono N2.out (fun k h => .inl h)) (one_row K7.out (Kd.FK_step HFR.out (fun k _ hk => BD.out.block k hk))) (fun k hk => ⟨hk.elim (fun h => .inr (.inl h)) (fun h => .inr (.inr (.inl h.2))), fun e => hk.elim (fun h => P2_7.out (h ▸ N2.out.1 k e.symm)) (fun h => Nat.lt_irrefl _ (Nat.lt_of_lt_of_le h.2 (Kd.N_base N2.out k e.symm)))⟩) (fun k hk => .inr (.inr (.inr hk))) BD.out BD.out.size (by have := LB.out; omega) ?_
        intro vs w1 hra hba hga hata
        rw [HS1.out] at hra
        obtain ⟨Ys, es, rfl⟩ := Kd.N_slice hra
        obtain ⟨os, ho⟩ : ∃ o_ : Nat → Prop, o_ = (fun k => (oa k ∨ k = q1 ∨ k < wc.heap.size ∨ wD.heap.size ≤ k) ∧ k < w1.heap.size) := ⟨_, rfl⟩
        have hoI : ∀ k, os k → (oa k ∨ k = q1 ∨ k < wc.heap.size ∨ wD.heap.size ≤ k) ∧ k < w1.heap.size := fun k h => by rw [ho] at h; exact h
        have hn := Kd.N_bound hra
        rw [← ho] at hn
        refine hK.out _ _ ⟨(pw_cell_below (hba) k0), (pw_cell_below (hba) k1), (pw_cell_below (hba) hxc)⟩ (fun hHeld => ?_)
        clear hK K
        refine norm_ (a' := ?_) ?_ ?_
        rotate_left
        · show Act.put _ (some 38) _ = _
          simp only [Act.put, List.setIfInBounds_toArray, List.set_cons_zero, List.set_cons_succ, i64_w, i32_w]
          rfl
        exact norm_ (by simp only [putAll, Act.put, List.setIfInBounds_toArray, List.set_cons_zero, List.set_cons_succ, i64_w, i32_w]) (hC22 (va, oa, q1, Ys, es, os, q2, g8) _ ⟨hba, hn, fun k h => (hoI k h).2, blk_grown K17.out hga (fun e => P2_17.out (N2.out.1 _ e.symm)), (show wc.heap.size ≤ q2 from G17.out), blk_grown K20.out hga (fun e => P2_20.out (N2.out.1 _ e.symm)), (show wc.heap.size ≤ g8 from G20.out), (show ¬ os q2 from fun h => by rcases (hoI _ h).1 with h1 | h1 | h1 | h1; exact P2_17.out h1; exact P7_17.out h1.symm; (have h2 := G17.out; omega); (have h3 := blk_lt K17.out; omega)), (show ¬ os g8 from fun h => by rcases (hoI _ h).1 with h1 | h1 | h1 | h1; exact P2_20.out h1; exact P7_20.out h1.symm; (have h2 := G20.out; omega); (have h3 := blk_lt K20.out; omega)), (show q2 ≠ g8 from P17_20.out)⟩)
      refine join_ (σ := Value × (Nat → Prop) × Nat × Option Addr × Nat × (Nat → Prop) × Nat) 5 (bl 22 1175551) (fun s_ => [(30, .pointer (some ⟨gw, 0, none⟩)), (33, .pointer (some ⟨gw, 1, none⟩)), (39, .pointer (some ⟨gw, 1, none⟩)), (43, .pointer (some ⟨gw, 1, none⟩)), (31, .slice X1 stem.length d1), (34, .slice (some adr) loop.length d2), (35, .pointer (some adr)), (36, .slice Ar r0.length cr), (40, .slice (some adr) loop.length d2), (41, .slice Y (loop.length - 1) (d2 - 1)), (44, .slice (some adr) loop.length d2), (45, .pointer (some adr)), (46, .slice Ar r0.length cr), (32, s_.1), (37, (.slice (some ⟨s_.2.2.1, 0, none⟩) 1 1)), (38, (.slice s_.2.2.2.1 S1.length s_.2.2.2.2.1)), (8, (.pointer (some ⟨s_.2.2.2.2.2.2, 0, none⟩)))]) (fun s_ w' => (Below wc.heap.size wc w') ∧ (Kd.N (Kd.slice 4 Kd.bool) 30 w' wc.heap.size s_.2.2.2.2.2.1 (.slice s_.2.2.2.1 S1.length s_.2.2.2.2.1) (S1)) ∧ (∀ k, s_.2.2.2.2.2.1 k → k < w'.heap.size) ∧ (w'.heap[s_.2.2.2.2.2.2]? = some (.cells #[.slice none 0 0, .slice none 0 0] 43 (0, 0))) ∧ (wc.heap.size ≤ s_.2.2.2.2.2.2) ∧ (¬ s_.2.2.2.2.2.1 s_.2.2.2.2.2.2)) ?_ (fun hC18 => ?_)
      · rintro ⟨va, oa, q1, Ys, es, os, g8⟩ wD ⟨BD_, N8_, OB8_, K20_, G20_, P8_20_⟩
        have BD := Aside0.mk (show Below wc.heap.size wc wD from BD_)
        have N8 := Aside0.mk (show Kd.N (Kd.slice 4 Kd.bool) 30 wD wc.heap.size os (.slice Ys S1.length es) (S1) from N8_)
        have OB8 := Aside0.mk (show ∀ k, os k → k < wD.heap.size from OB8_)
        have K20 := Aside0.mk (show wD.heap[g8]? = some (.cells #[.slice none 0 0, .slice none 0 0] 43 (0, 0)) from K20_)
        have G20 := Aside0.mk (show wc.heap.size ≤ g8 from G20_)
        have P8_20 := Aside0.mk (show ¬ os g8 from P8_20_)
        clear BD_ N8_ OB8_ K20_ G20_ P8_20_
        refine norm_ (a' := ?_) ?_ ?_
        rotate_left
        · simp only [putAll, Act.put, List.setIfInBounds_toArray, List.set_cons_zero, List.set_cons_succ, i64_w, i32_w]
          rfl
        refine two_ (i := 12) (j := 17) (Ni := some 42) (Nj := some 47) (bl 22 1179647) (bl 22 1306623) rfl rfl rfl rfl (two_of HT_.out (by kernel_rfl)) (by decide) (by decide) (fun K hK => ?_) (fun K hK => ?_)
        · skip
          refine Kd.N_append_rows_step (Kd.slice 4 Kd.bool) (w0 := wc) wc.heap.size (by rfl) (.const (.slice none 0 0)) (.tmp 41) 41 30 (.slice none 0 0) 24 (by rfl) Tryd.underlying41 infoR rfl (by decide) (by omega) (.slice none 0 0) ([] : List (List Bool)) (loop.drop 1) Y (loop.length - 1) (d2 - 1) (fun k => k < wc.heap.size ∨ wD.heap.size ≤ k) (fun k => True ∧ k < wc.heap.size) (by rfl) (by rfl) (Kd.N_nil _ _ _ _ _) (Kd.F_step HFY.out (fun k _ hk => BD.out.block k hk)) (fun k hk => ⟨.inl hk.2, by simp [Value.ownBlock]⟩) (fun k hk => .inr hk) BD.out BD.out.size (by have := LB.out; simp only [List.length_nil]; omega) ?_
          intro vb w1 hra hba hga hata
          rw [List.nil_append] at hra
          obtain ⟨ob, ho⟩ : ∃ o_ : Nat → Prop, o_ = (fun k => (k < wc.heap.size ∨ wD.heap.size ≤ k) ∧ k < w1.heap.size) := ⟨_, rfl⟩
          have hoI : ∀ k, ob k → (k < wc.heap.size ∨ wD.heap.size ≤ k) ∧ k < w1.heap.size := fun k h => by rw [ho] at h; exact h
          have hn := Kd.N_bound hra
          rw [← ho] at hn
          refine hK.out _ _ ⟨(pw_cell_below (hba) k0), (pw_cell_below (hba) k1), (pw_cell_below (hba) hxc)⟩ (fun hHeld => ?_)
          clear hK K
          refine norm_ (a' := ?_) ?_ ?_
          rotate_left
          · show Act.put _ (some 42) _ = _
            simp only [Act.put, List.setIfInBounds_toArray, List.set_cons_zero, List.set_cons_succ, i64_w, i32_w]
            rfl
          exact norm_ (by simp only [putAll, Act.put, List.setIfInBounds_toArray, List.set_cons_zero, List.set_cons_succ, i64_w, i32_w]) (hC21 (va, oa, q1, Ys, es, os, vb, ob, g8) _ ⟨hba, Kd.N_grown N8.out hga (fun k hk => by simp [Value.ownBlock]), fun k h => Nat.lt_of_lt_of_le (OB8.out k h) hga.size, hn, fun k h => (hoI k h).2, blk_grown K20.out hga (by simp [Value.ownBlock]), (show wc.heap.size ≤ g8 from G20.out), (show ¬ os g8 from P8_20.out), (show ∀ k, Value.ownBlock vb = some k → ¬ os k from fun k e h => by have h1 := OB8.out k h; rcases hata with h2 | ⟨b, h2, h3⟩ <;> rw [h2] at e <;> simp [Value.ownBlock] at e; omega), (show ¬ ob g8 from fun h => by have h1 := hoI _ h; have h2 := G20.out; have h3 := blk_lt K20.out; omega)⟩)
        · skip
          refine value_ (w1 := ?_) (v := ?_) (by rfl) rfl ?_ ?_
          rotate_left 2
          · go_simp
            constructor
            · rfl
            · rfl
          refine hK.out _ _ ⟨(pw_cell_below (below_alloc BD.out _) k0), (pw_cell_below (below_alloc BD.out _) k1), (pw_cell_below (below_alloc BD.out _) hxc)⟩ (fun hHeld => ?_)
          clear hK K
          refine norm_ (a' := ?_) ?_ ?_
          rotate_left
          · show Act.put _ (some 47) _ = _
            simp only [Act.put, List.setIfInBounds_toArray, List.set_cons_zero, List.set_cons_succ, i64_w, i32_w]
            rfl
          exact norm_ (by simp only [putAll, Act.put, List.setIfInBounds_toArray, List.set_cons_zero, List.set_cons_succ, i64_w, i32_w]) (hC22 (va, oa, q1, Ys, es, os, wD.heap.size, g8) _ ⟨below_alloc BD.out _, Kd.N_alloc N8.out _, fun k h => Nat.lt_trans (OB8.out k h) (by rw [World.size_alloc]; exact Nat.lt_succ_self _), blk_new wD _, (show wc.heap.size ≤ wD.heap.size from BD.out.size), blk_alloc K20.out _, (show wc.heap.size ≤ g8 from G20.out), (show ¬ os wD.heap.size from fun h => Nat.lt_irrefl _ (OB8.out _ h)), (show ¬ os g8 from P8_20.out), (show wD.heap.size ≠ g8 from Nat.ne_of_gt (blk_lt K20.out))⟩)
      refine join_ (σ := Value × (Nat → Prop) × Nat × Option Addr × Nat × (Nat → Prop) × Nat) 5 (bl 22 258047) (fun s_ => [(30, .pointer (some ⟨gw, 0, none⟩)), (33, .pointer (some ⟨gw, 1, none⟩)), (39, .pointer (some ⟨gw, 1, none⟩)), (43, .pointer (some ⟨gw, 1, none⟩)), (31, .slice X1 stem.length d1), (34, .slice (some adr) loop.length d2), (35, .pointer (some adr)), (36, .slice Ar r0.length cr), (40, .slice (some adr) loop.length d2), (41, .slice Y (loop.length - 1) (d2 - 1)), (44, .slice (some adr) loop.length d2), (45, .pointer (some adr)), (46, .slice Ar r0.length cr), (32, s_.1), (37, (.slice (some ⟨s_.2.2.1, 0, none⟩) 1 1)), (38, (.slice s_.2.2.2.1 S1.length s_.2.2.2.2.1)), (47, (.slice (some ⟨s_.2.2.2.2.2.2, 0, none⟩) 1 1))]) (fun s_ w' => (Below wc.heap.size wc w') ∧ (Kd.N (Kd.slice 4 Kd.bool) 30 w' wc.heap.size s_.2.2.2.2.2.1 (.slice s_.2.2.2.1 S1.length s_.2.2.2.2.1) (S1)) ∧ (∀ k, s_.2.2.2.2.2.1 k → k < w'.heap.size) ∧ (w'.heap[s_.2.2.2.2.2.2]? = some (.cells #[.slice Ar r0.length cr] 30 (0, 0))) ∧ (wc.heap.size ≤ s_.2.2.2.2.2.2) ∧ (¬ s_.2.2.2.2.2.1 s_.2.2.2.2.2.2)) ?_ (fun hC17 => ?_)
      · rintro ⟨va, oa, q1, Ys, es, os, q2⟩ wD ⟨BD_, N8_, OB8_, K17_, G17_, P8_17_⟩
        have BD := Aside0.mk (show Below wc.heap.size wc wD from BD_)
        have N8 := Aside0.mk (show Kd.N (Kd.slice 4 Kd.bool) 30 wD wc.heap.size os (.slice Ys S1.length es) (S1) from N8_)
        have OB8 := Aside0.mk (show ∀ k, os k → k < wD.heap.size from OB8_)
        have K17 := Aside0.mk (show wD.heap[q2]? = some (.cells #[.slice Ar r0.length cr] 30 (0, 0)) from K17_)
        have G17 := Aside0.mk (show wc.heap.size ≤ q2 from G17_)
        have P8_17 := Aside0.mk (show ¬ os q2 from P8_17_)
        clear BD_ N8_ OB8_ K17_ G17_ P8_17_
        refine norm_ (a' := ?_) ?_ ?_
        rotate_left
        · simp only [putAll, Act.put, List.setIfInBounds_toArray, List.set_cons_zero, List.set_cons_succ, i64_w, i32_w]
          rfl
        refine two_ (i := 12) (j := 20) (Ni := some 42) (Nj := some 8) (bl 22 262143) (bl 22 1306623) rfl rfl rfl rfl (two_of HT_.out (by kernel_rfl)) (by decide) (by decide) (fun K hK => ?_) (fun K hK => ?_)
        · skip
          refine Kd.N_append_rows_step (Kd.slice 4 Kd.bool) (w0 := wc) wc.heap.size (by rfl) (.const (.slice none 0 0)) (.tmp 41) 41 30 (.slice none 0 0) 24 (by rfl) Tryd.underlying41 infoR rfl (by decide) (by omega) (.slice none 0 0) ([] : List (List Bool)) (loop.drop 1) Y (loop.length - 1) (d2 - 1) (fun k => k < wc.heap.size ∨ wD.heap.size ≤ k) (fun k => True ∧ k < wc.heap.size) (by rfl) (by rfl) (Kd.N_nil _ _ _ _ _) (Kd.F_step HFY.out (fun k _ hk => BD.out.block k hk)) (fun k hk => ⟨.inl hk.2, by simp [Value.ownBlock]⟩) (fun k hk => .inr hk) BD.out BD.out.size (by have := LB.out; simp only [List.length_nil]; omega) ?_
          intro vb w1 hra hba hga hata
          rw [List.nil_append] at hra
          obtain ⟨ob, ho⟩ : ∃ o_ : Nat → Prop, o_ = (fun k => (k < wc.heap.size ∨ wD.heap.size ≤ k) ∧ k < w1.heap.size) := ⟨_, rfl⟩
          have hoI : ∀ k, ob k → (k < wc.heap.size ∨ wD.heap.size ≤ k) ∧ k < w1.heap.size := fun k h => by rw [ho] at h; exact h
          have hn := Kd.N_bound hra
          rw [← ho] at hn
          refine hK.out _ _ ⟨(pw_cell_below (hba) k0), (pw_cell_below (hba) k1), (pw_cell_below (hba) hxc)⟩ (fun hHeld => ?_)
          clear hK K
          refine norm_ (a' := ?_) ?_ ?_
          rotate_left
          · show Act.put _ (some 42) _ = _
            simp only [Act.put, List.setIfInBounds_toArray, List.set_cons_zero, List.set_cons_succ, i64_w, i32_w]
            rfl
          exact norm_ (by simp only [putAll, Act.put, List.setIfInBounds_toArray, List.set_cons_zero, List.set_cons_succ, i64_w, i32_w]) (hC20 (va, oa, q1, Ys, es, os, vb, ob, q2) _ ⟨hba, Kd.N_grown N8.out hga (fun k hk => by simp [Value.ownBlock]), fun k h => Nat.lt_of_lt_of_le (OB8.out k h) hga.size, hn, fun k h => (hoI k h).2, blk_grown K17.out hga (by simp [Value.ownBlock]), (show wc.heap.size ≤ q2 from G17.out), (show ¬ os q2 from P8_17.out), (show ∀ k, Value.ownBlock vb = some k → ¬ os k from fun k e h => by have h1 := OB8.out k h; rcases hata with h2 | ⟨b, h2, h3⟩ <;> rw [h2] at e <;> simp [Value.ownBlock] at e; omega), (show ¬ ob q2 from fun h => by have h1 := hoI _ h; have h2 := G17.out; have h3 := blk_lt K17.out; omega)⟩)
        · skip
          refine value_ (w1 := ?_) (v := ?_) (by rfl) rfl ?_ ?_
          rotate_left 2
          · go_simp
            constructor
            · rfl
            · rfl
          refine hK.out _ _ ⟨(pw_cell_below (below_alloc BD.out _) k0), (pw_cell_below (below_alloc BD.out _) k1), (pw_cell_below (below_alloc BD.out _) hxc)⟩ (fun hHeld => ?_)
          clear hK K
          refine norm_ (a' := ?_) ?_ ?_
          rotate_left
          · show Act.put _ (some 8) _ = _
            simp only [Act.put, List.setIfInBounds_toArray, List.set_cons_zero, List.set_cons_succ, i64_w, i32_w]
            rfl
          exact norm_ (by simp only [putAll, Act.put, List.setIfInBounds_toArray, List.set_cons_zero, List.set_cons_succ, i64_w, i32_w]) (hC22 (va, oa, q1, Ys, es, os, q2, wD.heap.size) _ ⟨below_alloc BD.out _, Kd.N_alloc N8.out _, fun k h => Nat.lt_trans (OB8.out k h) (by rw [World.size_alloc]; exact Nat.lt_succ_self _), blk_alloc K17.out _, (show wc.heap.size ≤ q2 from G17.out), blk_new wD _, (show wc.heap.size ≤ wD.heap.size from BD.out.size), (show ¬ os q2 from P8_17.out), (show ¬ os wD.heap.size from fun h => Nat.lt_irrefl _ (OB8.out _ h)), (show q2 ≠ wD.heap.size from Nat.ne_of_lt (blk_lt K17.out))⟩)
      refine join_ (σ := Value × (Nat → Prop) × Nat × Option Addr × Nat × (Nat → Prop) × Value × (Nat → Prop)) 5 (bl 22 131071) (fun s_ => [(30, .pointer (some ⟨gw, 0, none⟩)), (33, .pointer (some ⟨gw, 1, none⟩)), (39, .pointer (some ⟨gw, 1, none⟩)), (43, .pointer (some ⟨gw, 1, none⟩)), (31, .slice X1 stem.length d1), (34, .slice (some adr) loop.length d2), (35, .pointer (some adr)), (36, .slice Ar r0.length cr), (40, .slice (some adr) loop.length d2), (41, .slice Y (loop.length - 1) (d2 - 1)), (44, .slice (some adr) loop.length d2), (45, .pointer (some adr)), (46, .slice Ar r0.length cr), (32, s_.1), (37, (.slice (some ⟨s_.2.2.1, 0, none⟩) 1 1)), (38, (.slice s_.2.2.2.1 S1.length s_.2.2.2.2.1)), (42, s_.2.2.2.2.2.2.1)]) (fun s_ w' => (Below wc.heap.size wc w') ∧ (Kd.N (Kd.slice 4 Kd.bool) 30 w' wc.heap.size s_.2.2.2.2.2.1 (.slice s_.2.2.2.1 S1.length s_.2.2.2.2.1) (S1)) ∧ (∀ k, s_.2.2.2.2.2.1 k → k < w'.heap.size) ∧ (Kd.N (Kd.slice 4 Kd.bool) 30 w' wc.heap.size s_.2.2.2.2.2.2.2 s_.2.2.2.2.2.2.1 (loop.drop 1)) ∧ (∀ k, s_.2.2.2.2.2.2.2 k → k < w'.heap.size) ∧ (∀ k, Value.ownBlock s_.2.2.2.2.2.2.1 = some k → ¬ s_.2.2.2.2.2.1 k)) ?_ (fun hC16 => ?_)
      · rintro ⟨va, oa, q1, Ys, es, os, vb, ob⟩ wD ⟨BD_, N8_, OB8_, N12_, OB12_, P8_12_⟩
        have BD := Aside0.mk (show Below wc.heap.size wc wD from BD_)
        have N8 := Aside0.mk (show Kd.N (Kd.slice 4 Kd.bool) 30 wD wc.heap.size os (.slice Ys S1.length es) (S1) from N8_)
        have OB8 := Aside0.mk (show ∀ k, os k → k < wD.heap.size from OB8_)
        have N12 := Aside0.mk (show Kd.N (Kd.slice 4 Kd.bool) 30 wD wc.heap.size ob vb (loop.drop 1) from N12_)
        have OB12 := Aside0.mk (show ∀ k, ob k → k < wD.heap.size from OB12_)
        have P8_12 := Aside0.mk (show ∀ k, Value.ownBlock vb = some k → ¬ os k from P8_12_)
        clear BD_ N8_ OB8_ N12_ OB12_ P8_12_
        refine norm_ (a' := ?_) ?_ ?_
        rotate_left
        · simp only [putAll, Act.put, List.setIfInBounds_toArray, List.set_cons_zero, List.set_cons_succ, i64_w, i32_w]
          rfl
        refine two_ (i := 17) (j := 20) (Ni := some 47) (Nj := some 8) (bl 22 262143) (bl 22 1179647) rfl rfl rfl rfl (two_of HT_.out (by kernel_rfl)) (by decide) (by decide) (fun K hK => ?_) (fun K hK => ?_)
        · skip
          refine value_ (w1 := ?_) (v := ?_) (by rfl) rfl ?_ ?_
          rotate_left 2
          · go_simp
            constructor
            · rfl
            · rfl
          refine hK.out _ _ ⟨(pw_cell_below (below_alloc BD.out _) k0), (pw_cell_below (below_alloc BD.out _) k1), (pw_cell_below (below_alloc BD.out _) hxc)⟩ (fun hHeld => ?_)
          clear hK K
          refine norm_ (a' := ?_) ?_ ?_
          rotate_left
          · show Act.put _ (some 47) _ = _
            simp only [Act.put, List.setIfInBounds_toArray, List.set_cons_zero, List.set_cons_succ, i64_w, i32_w]
            rfl
          exact norm_ (by simp only [putAll, Act.put, List.setIfInBounds_toArray, List.set_cons_zero, List.set_cons_succ, i64_w, i32_w]) (hC20 (va, oa, q1, Ys, es, os, vb, ob, wD.heap.size) _ ⟨below_alloc BD.out _, Kd.N_alloc N8.out _, fun k h => Nat.lt_trans (OB8.out k h) (by rw [World.size_alloc]; exact Nat.lt_succ_self _), Kd.N_alloc N12.out _, fun k h => Nat.lt_trans (OB12.out k h) (by rw [World.size_alloc]; exact Nat.lt_succ_self _), blk_new wD _, (show wc.heap.size ≤ wD.heap.size from BD.out.size), (show ¬ os wD.heap.size from fun h => Nat.lt_irrefl _ (OB8.out _ h)), (show ∀ k, Value.ownBlock vb = some k → ¬ os k from P8_12.out), (show ¬ ob wD.heap.size from fun h => Nat.lt_irrefl _ (OB12.out _ h))⟩)
        · skip
          refine value_ (w1 := ?_) (v := ?_) (by rfl) rfl ?_ ?_
          rotate_left 2
          · go_simp
            constructor
            · rfl
            · rfl
          refine hK.out _ _ ⟨(pw_cell_below (below_alloc BD.out _) k0), (pw_cell_below (below_alloc BD.out _) k1), (pw_cell_below (below_alloc BD.out _) hxc)⟩ (fun hHeld => ?_)
          clear hK K
          refine norm_ (a' := ?_) ?_ ?_
          rotate_left
          · show Act.put _ (some 8) _ = _
            simp only [Act.put, List.setIfInBounds_toArray, List.set_cons_zero, List.set_cons_succ, i64_w, i32_w]
            rfl
          exact norm_ (by simp only [putAll, Act.put, List.setIfInBounds_toArray, List.set_cons_zero, List.set_cons_succ, i64_w, i32_w]) (hC21 (va, oa, q1, Ys, es, os, vb, ob, wD.heap.size) _ ⟨below_alloc BD.out _, Kd.N_alloc N8.out _, fun k h => Nat.lt_trans (OB8.out k h) (by rw [World.size_alloc]; exact Nat.lt_succ_self _), Kd.N_alloc N12.out _, fun k h => Nat.lt_trans (OB12.out k h) (by rw [World.size_alloc]; exact Nat.lt_succ_self _), blk_new wD _, (show wc.heap.size ≤ wD.heap.size from BD.out.size), (show ¬ os wD.heap.size from fun h => Nat.lt_irrefl _ (OB8.out _ h)), (show ∀ k, Value.ownBlock vb = some k → ¬ os k from P8_12.out), (show ¬ ob wD.heap.size from fun h => Nat.lt_irrefl _ (OB12.out _ h))⟩)
      refine join_ (σ := Nat × Nat × Nat) 6 (bl 22 1306363) (fun s_ => [(30, .pointer (some ⟨gw, 0, none⟩)), (33, .pointer (some ⟨gw, 1, none⟩)), (39, .pointer (some ⟨gw, 1, none⟩)), (43, .pointer (some ⟨gw, 1, none⟩)), (31, .slice X1 stem.length d1), (34, .slice (some adr) loop.length d2), (35, .pointer (some adr)), (36, .slice Ar r0.length cr), (40, .slice (some adr) loop.length d2), (41, .slice Y (loop.length - 1) (d2 - 1)), (44, .slice (some adr) loop.length d2), (45, .pointer (some adr)), (46, .slice Ar r0.length cr), (37, (.slice (some ⟨s_.1, 0, none⟩) 1 1)), (47, (.slice (some ⟨s_.2.1, 0, none⟩) 1 1)), (8, (.pointer (some ⟨s_.2.2, 0, none⟩)))]) (fun s_ w' => (Below wc.heap.size wc w') ∧ (w'.heap[s_.1]? = some (.cells #[.slice Ar r0.length cr] 30 (0, 0))) ∧ (wc.heap.size ≤ s_.1) ∧ (w'.heap[s_.2.1]? = some (.cells #[.slice Ar r0.length cr] 30 (0, 0))) ∧ (wc.heap.size ≤ s_.2.1) ∧ (w'.heap[s_.2.2]? = some (.cells #[.slice none 0 0, .slice none 0 0] 43 (0, 0))) ∧ (wc.heap.size ≤ s_.2.2) ∧ (s_.1 ≠ s_.2.1) ∧ (s_.1 ≠ s_.2.2) ∧ (s_.2.1 ≠ s_.2.2)) ?_ (fun hC15 => ?_)
      · rintro ⟨q1, q2, g8⟩ wD ⟨BD_, K7_, G7_, K17_, G17_, K20_, G20_, P7_17_, P7_20_, P17_20_⟩
        have BD := Aside0.mk (show Below wc.heap.size wc wD from BD_)
        have K7 := Aside0.mk (show wD.heap[q1]? = some (.cells #[.slice Ar r0.length cr] 30 (0, 0)) from K7_)
        have G7 := Aside0.mk (show wc.heap.size ≤ q1 from G7_)
        have K17 := Aside0.mk (show wD.heap[q2]? = some (.cells #[.slice Ar r0.length cr] 30 (0, 0)) from K17_)
        have G17 := Aside0.mk (show wc.heap.size ≤ q2 from G17_)
        have K20 := Aside0.mk (show wD.heap[g8]? = some (.cells #[.slice none 0 0, .slice none 0 0] 43 (0, 0)) from K20_)
        have G20 := Aside0.mk (show wc.heap.size ≤ g8 from G20_)
        have P7_17 := Aside0.mk (show q1 ≠ q2 from P7_17_)
        have P7_20 := Aside0.mk (show q1 ≠ g8 from P7_20_)
        have P17_20 := Aside0.mk (show q2 ≠ g8 from P17_20_)
        clear BD_ K7_ G7_ K17_ G17_ K20_ G20_ P7_17_ P7_20_ P17_20_
        refine norm_ (a' := ?_) ?_ ?_
        rotate_left
        · simp only [putAll, Act.put, List.setIfInBounds_toArray, List.set_cons_zero, List.set_cons_succ, i64_w, i32_w]
          rfl
        refine one_ (i := 2) (N := some 32) (bl 22 1306367) rfl rfl (one_of HT_.out (by kernel_rfl)) (by decide) (fun K hK => ?_)
        refine Kd.N_append_rows_step (Kd.slice 4 Kd.bool) (w0 := wc) wc.heap.size (by rfl) (.const (.slice none 0 0)) (.tmp 31) 41 30 (.slice none 0 0) 24 (by rfl) Tryd.underlying41 infoR rfl (by decide) (by omega) (.slice none 0 0) ([] : List (List Bool)) (stem) X1 (stem.length) (d1) (fun k => k < wc.heap.size ∨ wD.heap.size ≤ k) (fun k => True ∧ k < wc.heap.size) (by rfl) (by rfl) (Kd.N_nil _ _ _ _ _) (Kd.F_step FS.out (fun k _ hk => BD.out.block k hk)) (fun k hk => ⟨.inl hk.2, by simp [Value.ownBlock]⟩) (fun k hk => .inr hk) BD.out BD.out.size (by have := LB.out; simp only [List.length_nil]; omega) ?_
        intro va w1 hra hba hga hata
        rw [List.nil_append] at hra
        obtain ⟨oa, ho⟩ : ∃ o_ : Nat → Prop, o_ = (fun k => (k < wc.heap.size ∨ wD.heap.size ≤ k) ∧ k < w1.heap.size) := ⟨_, rfl⟩
        have hoI : ∀ k, oa k → (k < wc.heap.size ∨ wD.heap.size ≤ k) ∧ k < w1.heap.size := fun k h => by rw [ho] at h; exact h
        have hn := Kd.N_bound hra
        rw [← ho] at hn
        refine hK.out _ _ ⟨(pw_cell_below (hba) k0), (pw_cell_below (hba) k1), (pw_cell_below (hba) hxc)⟩ (fun hHeld => ?_)
        clear hK K
        refine norm_ (a' := ?_) ?_ ?_
        rotate_left
        · show Act.put _ (some 32) _ = _
          simp only [Act.put, List.setIfInBounds_toArray, List.set_cons_zero, List.set_cons_succ, i64_w, i32_w]
          rfl
        exact norm_ (by simp only [putAll, Act.put, List.setIfInBounds_toArray, List.set_cons_zero, List.set_cons_succ, i64_w, i32_w]) (hC19 (va, oa, q1, q2, g8) _ ⟨hba, hn, fun k h => (hoI k h).2, blk_grown K7.out hga (by simp [Value.ownBlock]), (show wc.heap.size ≤ q1 from G7.out), blk_grown K17.out hga (by simp [Value.ownBlock]), (show wc.heap.size ≤ q2 from G17.out), blk_grown K20.out hga (by simp [Value.ownBlock]), (show wc.heap.size ≤ g8 from G20.out), (show ¬ oa q1 from fun h => by have h1 := hoI _ h; have h2 := G7.out; have h3 := blk_lt K7.out; omega), (show ¬ oa q2 from fun h => by have h1 := hoI _ h; have h2 := G17.out; have h3 := blk_lt K17.out; omega), (show ¬ oa g8 from fun h => by have h1 := hoI _ h; have h2 := G20.out; have h3 := blk_lt K20.out; omega), (show q1 ≠ q2 from P7_17.out), (show q1 ≠ g8 from P7_20.out), (show q2 ≠ g8 from P17_20.out)⟩)
      refine join_ (σ := Value × (Nat → Prop) × Nat × Nat) 6 (bl 22 1306239) (fun s_ => [(30, .pointer (some ⟨gw, 0, none⟩)), (33, .pointer (some ⟨gw, 1, none⟩)), (39, .pointer (some ⟨gw, 1, none⟩)), (43, .pointer (some ⟨gw, 1, none⟩)), (31, .slice X1 stem.length d1), (34, .slice (some adr) loop.length d2), (35, .pointer (some adr)), (36, .slice Ar r0.length cr), (40, .slice (some adr) loop.length d2), (41, .slice Y (loop.length - 1) (d2 - 1)), (44, .slice (some adr) loop.length d2), (45, .pointer (some adr)), (46, .slice Ar r0.length cr), (32, s_.1), (47, (.slice (some ⟨s_.2.2.1, 0, none⟩) 1 1)), (8, (.pointer (some ⟨s_.2.2.2, 0, none⟩)))]) (fun s_ w' => (Below wc.heap.size wc w') ∧ (Kd.N (Kd.slice 4 Kd.bool) 30 w' wc.heap.size s_.2.1 s_.1 (stem)) ∧ (∀ k, s_.2.1 k → k < w'.heap.size) ∧ (w'.heap[s_.2.2.1]? = some (.cells #[.slice Ar r0.length cr] 30 (0, 0))) ∧ (wc.heap.size ≤ s_.2.2.1) ∧ (w'.heap[s_.2.2.2]? = some (.cells #[.slice none 0 0, .slice none 0 0] 43 (0, 0))) ∧ (wc.heap.size ≤ s_.2.2.2) ∧ (¬ s_.2.1 s_.2.2.1) ∧ (¬ s_.2.1 s_.2.2.2) ∧ (s_.2.2.1 ≠ s_.2.2.2)) ?_ (fun hC14 => ?_)
      · rintro ⟨va, oa, q2, g8⟩ wD ⟨BD_, N2_, OB2_, K17_, G17_, K20_, G20_, P2_17_, P2_20_, P17_20_⟩
        have BD := Aside0.mk (show Below wc.heap.size wc wD from BD_)
        have N2 := Aside0.mk (show Kd.N (Kd.slice 4 Kd.bool) 30 wD wc.heap.size oa va (stem) from N2_)
        have OB2 := Aside0.mk (show ∀ k, oa k → k < wD.heap.size from OB2_)
        have K17 := Aside0.mk (show wD.heap[q2]? = some (.cells #[.slice Ar r0.length cr] 30 (0, 0)) from K17_)
        have G17 := Aside0.mk (show wc.heap.size ≤ q2 from G17_)
        have K20 := Aside0.mk (show wD.heap[g8]? = some (.cells #[.slice none 0 0, .slice none 0 0] 43 (0, 0)) from K20_)
        have G20 := Aside0.mk (show wc.heap.size ≤ g8 from G20_)
        have P2_17 := Aside0.mk (show ¬ oa q2 from P2_17_)
        have P2_20 := Aside0.mk (show ¬ oa g8 from P2_20_)
        have P17_20 := Aside0.mk (show q2 ≠ g8 from P17_20_)
        clear BD_ N2_ OB2_ K17_ G17_ K20_ G20_ P2_17_ P2_20_ P17_20_
        refine norm_ (a' := ?_) ?_ ?_
        rotate_left
        · simp only [putAll, Act.put, List.setIfInBounds_toArray, List.set_cons_zero, List.set_cons_succ, i64_w, i32_w]
          rfl
        refine one_ (i := 7) (N := some 37) (bl 22 1306367) rfl rfl (one_of HT_.out (by kernel_rfl)) (by decide) (fun K hK => ?_)
        refine value_ (w1 := ?_) (v := ?_) (by rfl) rfl ?_ ?_
        rotate_left 2
        · go_simp
          constructor
          · rfl
          · rfl
        refine hK.out _ _ ⟨(pw_cell_below (below_alloc BD.out _) k0), (pw_cell_below (below_alloc BD.out _) k1), (pw_cell_below (below_alloc BD.out _) hxc)⟩ (fun hHeld => ?_)
        clear hK K
        refine norm_ (a' := ?_) ?_ ?_
        rotate_left
        · show Act.put _ (some 37) _ = _
          simp only [Act.put, List.setIfInBounds_toArray, List.set_cons_zero, List.set_cons_succ, i64_w, i32_w]
          rfl
        exact norm_ (by simp only [putAll, Act.put, List.setIfInBounds_toArray, List.set_cons_zero, List.set_cons_succ, i64_w, i32_w]) (hC19 (va, oa, wD.heap.size, q2, g8) _ ⟨below_alloc BD.out _, Kd.N_alloc N2.out _, fun k h => Nat.lt_trans (OB2.out k h) (by rw [World.size_alloc]; exact Nat.lt_succ_self _), blk_new wD _, (show wc.heap.size ≤ wD.heap.size from BD.out.size), blk_alloc K17.out _, (show wc.heap.size ≤ q2 from G17.out), blk_alloc K20.out _, (show wc.heap.size ≤ g8 from G20.out), (show ¬ oa wD.heap.size from fun h => Nat.lt_irrefl _ (OB2.out _ h)), (show ¬ oa q2 from P2_17.out), (show ¬ oa g8 from P2_20.out), (show wD.heap.size ≠ q2 from Nat.ne_of_gt (blk_lt K17.out)), (show wD.heap.size ≠ g8 from Nat.ne_of_gt (blk_lt K20.out)), (show q2 ≠ g8 from P17_20.out)⟩)
      refine join_ (σ := Value × (Nat → Prop) × Nat × Nat) 6 (bl 22 1175295) (fun s_ => [(30, .pointer (some ⟨gw, 0, none⟩)), (33, .pointer (some ⟨gw, 1, none⟩)), (39, .pointer (some ⟨gw, 1, none⟩)), (43, .pointer (some ⟨gw, 1, none⟩)), (31, .slice X1 stem.length d1), (34, .slice (some adr) loop.length d2), (35, .pointer (some adr)), (36, .slice Ar r0.length cr), (40, .slice (some adr) loop.length d2), (41, .slice Y (loop.length - 1) (d2 - 1)), (44, .slice (some adr) loop.length d2), (45, .pointer (some adr)), (46, .slice Ar r0.length cr), (32, s_.1), (37, (.slice (some ⟨s_.2.2.1, 0, none⟩) 1 1)), (8, (.pointer (some ⟨s_.2.2.2, 0, none⟩)))]) (fun s_ w' => (Below wc.heap.size wc w') ∧ (Kd.N (Kd.slice 4 Kd.bool) 30 w' wc.heap.size s_.2.1 s_.1 (stem)) ∧ (∀ k, s_.2.1 k → k < w'.heap.size) ∧ (w'.heap[s_.2.2.1]? = some (.cells #[.slice Ar r0.length cr] 30 (0, 0))) ∧ (wc.heap.size ≤ s_.2.2.1) ∧ (w'.heap[s_.2.2.2]? = some (.cells #[.slice none 0 0, .slice none 0 0] 43 (0, 0))) ∧ (wc.heap.size ≤ s_.2.2.2) ∧ (¬ s_.2.1 s_.2.2.1) ∧ (¬ s_.2.1 s_.2.2.2) ∧ (s_.2.2.1 ≠ s_.2.2.2)) ?_ (fun hC13 => ?_)
      · rintro ⟨va, oa, q1, g8⟩ wD ⟨BD_, N2_, OB2_, K7_, G7_, K20_, G20_, P2_7_, P2_20_, P7_20_⟩
        have BD := Aside0.mk (show Below wc.heap.size wc wD from BD_)
        have N2 := Aside0.mk (show Kd.N (Kd.slice 4 Kd.bool) 30 wD wc.heap.size oa va (stem) from N2_)
        have OB2 := Aside0.mk (show ∀ k, oa k → k < wD.heap.size from OB2_)
        have K7 := Aside0.mk (show wD.heap[q1]? = some (.cells #[.slice Ar r0.length cr] 30 (0, 0)) from K7_)
        have G7 := Aside0.mk (show wc.heap.size ≤ q1 from G7_)
        have K20 := Aside0.mk (show wD.heap[g8]? = some (.cells #[.slice none 0 0, .slice none 0 0] 43 (0, 0)) from K20_)
        have G20 := Aside0.mk (show wc.heap.size ≤ g8 from G20_)
        have P2_7 := Aside0.mk (show ¬ oa q1 from P2_7_)
        have P2_20 := Aside0.mk (show ¬ oa g8 from P2_20_)
        have P7_20 := Aside0.mk (show q1 ≠ g8 from P7_20_)
        clear BD_ N2_ OB2_ K7_ G7_ K20_ G20_ P2_7_ P2_20_ P7_20_
        refine norm_ (a' := ?_) ?_ ?_
        rotate_left
        · simp only [putAll, Act.put, List.setIfInBounds_toArray, List.set_cons_zero, List.set_cons_succ, i64_w, i32_w]
          rfl
        refine two_ (i := 8) (j := 17) (Ni := some 38) (Nj := some 47) (bl 22 1175551) (bl 22 1306367) rfl rfl rfl rfl (two_of HT_.out (by kernel_rfl)) (by decide) (by decide) (fun K hK => ?_) (fun K hK => ?_)
        · skip
          refine Kd.N_append_rows_step (Kd.slice 4 Kd.bool) (w0 := wc) wc.heap.size (by rfl) (.tmp 32) (.tmp 37) 41 30 (.slice none 0 0) 24 (by rfl) Tryd.underlying41 infoR rfl (by decide) (by omega) va (stem) [r0] (some ⟨q1, 0, none⟩) 1 1 (fun k => oa k ∨ k = q1 ∨ k < wc.heap.size ∨ wD.heap.size ≤ k) (fun k => k = q1 ∨ (True ∧ k < wc.heap.size)) (by rfl) (by rfl) (Kd.N_mono N2.out (fun k h => .inl h)) (one_row K7.out (Kd.FK_step HFR.out (fun k _ hk => BD.out.block k hk))) (fun k hk => ⟨hk.elim (fun h => .inr (.inl h)) (fun h => .inr (.inr (.inl h.2))), fun e => hk.elim (fun h => P2_7.out (h ▸ N2.out.1 k e.symm)) (fun h => Nat.lt_irrefl _ (Nat.lt_of_lt_of_le h.2 (Kd.N_base N2.out k e.symm)))⟩) (fun k hk => .inr (.inr (.inr hk))) BD.out BD.out.size (by have := LB.out; omega) ?_
          intro vs w1 hra hba hga hata
          rw [HS1.out] at hra
          obtain ⟨Ys, es, rfl⟩ := Kd.N_slice hra
          obtain ⟨os, ho⟩ : ∃ o_ : Nat → Prop, o_ = (fun k => (oa k ∨ k = q1 ∨ k < wc.heap.size ∨ wD.heap.size ≤ k) ∧ k < w1.heap.size) := ⟨_, rfl⟩
          have hoI : ∀ k, os k → (oa k ∨ k = q1 ∨ k < wc.heap.size ∨ wD.heap.size ≤ k) ∧ k < w1.heap.size := fun k h => by rw [ho] at h; exact h
          have hn := Kd.N_bound hra
          rw [← ho] at hn
          refine hK.out _ _ ⟨(pw_cell_below (hba) k0), (pw_cell_below (hba) k1), (pw_cell_below (hba) hxc)⟩ (fun hHeld => ?_)
          clear hK K
          refine norm_ (a' := ?_) ?_ ?_
          rotate_left
          · show Act.put _ (some 38) _ = _
            simp only [Act.put, List.setIfInBounds_toArray, List.set_cons_zero, List.set_cons_succ, i64_w, i32_w]
            rfl
          exact norm_ (by simp only [putAll, Act.put, List.setIfInBounds_toArray, List.set_cons_zero, List.set_cons_succ, i64_w, i32_w]) (hC18 (va, oa, q1, Ys, es, os, g8) _ ⟨hba, hn, fun k h => (hoI k h).2, blk_grown K20.out hga (fun e => P2_20.out (N2.out.1 _ e.symm)), (show wc.heap.size ≤ g8 from G20.out), (show ¬ os g8 from fun h => by rcases (hoI _ h).1 with h1 | h1 | h1 | h1; exact P2_20.out h1; exact P7_20.out h1.symm; (have h2 := G20.out; omega); (have h3 := blk_lt K20.out; omega))⟩)
        · skip
          refine value_ (w1 := ?_) (v := ?_) (by rfl) rfl ?_ ?_
          rotate_left 2
          · go_simp
            constructor
            · rfl
            · rfl
          refine hK.out _ _ ⟨(pw_cell_below (below_alloc BD.out _) k0), (pw_cell_below (below_alloc BD.out _) k1), (pw_cell_below (below_alloc BD.out _) hxc)⟩ (fun hHeld => ?_)
          clear hK K
          refine norm_ (a' := ?_) ?_ ?_
          rotate_left
          · show Act.put _ (some 47) _ = _
            simp only [Act.put, List.setIfInBounds_toArray, List.set_cons_zero, List.set_cons_succ, i64_w, i32_w]
            rfl
          exact norm_ (by simp only [putAll, Act.put, List.setIfInBounds_toArray, List.set_cons_zero, List.set_cons_succ, i64_w, i32_w]) (hC19 (va, oa, q1, wD.heap.size, g8) _ ⟨below_alloc BD.out _, Kd.N_alloc N2.out _, fun k h => Nat.lt_trans (OB2.out k h) (by rw [World.size_alloc]; exact Nat.lt_succ_self _), blk_alloc K7.out _, (show wc.heap.size ≤ q1 from G7.out), blk_new wD _, (show wc.heap.size ≤ wD.heap.size from BD.out.size), blk_alloc K20.out _, (show wc.heap.size ≤ g8 from G20.out), (show ¬ oa q1 from P2_7.out), (show ¬ oa wD.heap.size from fun h => Nat.lt_irrefl _ (OB2.out _ h)), (show ¬ oa g8 from P2_20.out), (show q1 ≠ wD.heap.size from Nat.ne_of_lt (blk_lt K7.out)), (show q1 ≠ g8 from P7_20.out), (show wD.heap.size ≠ g8 from Nat.ne_of_gt (blk_lt K20.out))⟩)
      refine join_ (σ := Value × (Nat → Prop) × Nat × Nat) 6 (bl 22 257791) (fun s_ => [(30, .pointer (some ⟨gw, 0, none⟩)), (33, .pointer (some ⟨gw, 1, none⟩)), (39, .pointer (some ⟨gw, 1, none⟩)), (43, .pointer (some ⟨gw, 1, none⟩)), (31, .slice X1 stem.length d1), (34, .slice (some adr) loop.length d2), (35, .pointer (some adr)), (36, .slice Ar r0.length cr), (40, .slice (some adr) loop.length d2), (41, .slice Y (loop.length - 1) (d2 - 1)), (44, .slice (some adr) loop.length d2), (45, .pointer (some adr)), (46, .slice Ar r0.length cr), (32, s_.1), (37, (.slice (some ⟨s_.2.2.1, 0, none⟩) 1 1)), (47, (.slice (some ⟨s_.2.2.2, 0, none⟩) 1 1))]) (fun s_ w' => (Below wc.heap.size wc w') ∧ (Kd.N (Kd.slice 4 Kd.bool) 30 w' wc.heap.size s_.2.1 s_.1 (stem)) ∧ (∀ k, s_.2.1 k → k < w'.heap.size) ∧ (w'.heap[s_.2.2.1]? = some (.cells #[.slice Ar r0.length cr] 30 (0, 0))) ∧ (wc.heap.size ≤ s_.2.2.1) ∧ (w'.heap[s_.2.2.2]? = some (.cells #[.slice Ar r0.length cr] 30 (0, 0))) ∧ (wc.heap.size ≤ s_.2.2.2) ∧ (¬ s_.2.1 s_.2.2.1) ∧ (¬ s_.2.1 s_.2.2.2) ∧ (s_.2.2.1 ≠ s_.2.2.2)) ?_ (fun hC12 => ?_)
      · rintro ⟨va, oa, q1, q2⟩ wD ⟨BD_, N2_, OB2_, K7_, G7_, K17_, G17_, P2_7_, P2_17_, P7_17_⟩
        have BD := Aside0.mk (show Below wc.heap.size wc wD from BD_)
        have N2 := Aside0.mk (show Kd.N (Kd.slice 4 Kd.bool) 30 wD wc.heap.size oa va (stem) from N2_)
        have OB2 := Aside0.mk (show ∀ k, oa k → k < wD.heap.size from OB2_)
        have K7 := Aside0.mk (show wD.heap[q1]? = some (.cells #[.slice Ar r0.length cr] 30 (0, 0)) from K7_)
        have G7 := Aside0.mk (show wc.heap.size ≤ q1 from G7_)
        have K17 := Aside0.mk (show wD.heap[q2]? = some (.cells #[.slice Ar r0.length cr] 30 (0, 0)) from K17_)
        have G17 := Aside0.mk (show wc.heap.size ≤ q2 from G17_)
        have P2_7 := Aside0.mk (show ¬ oa q1 from P2_7_)
        have P2_17 := Aside0.mk (show ¬ oa q2 from P2_17_)
        have P7_17 := Aside0.mk (show q1 ≠ q2 from P7_17_)
        clear BD_ N2_ OB2_ K7_ G7_ K17_ G17_ P2_7_ P2_17_ P7_17_
        refine norm_ (a' := ?_) ?_ ?_
        rotate_left
        · simp only [putAll, Act.put, List.setIfInBounds_toArray, List.set_cons_zero, List.set_cons_succ, i64_w, i32_w]
          rfl
        refine two_ (i := 8) (j := 20) (Ni := some 38) (Nj := some 8) (bl 22 258047) (bl 22 1306367) rfl rfl rfl rfl (two_of HT_.out (by kernel_rfl)) (by decide) (by decide) (fun K hK => ?_) (fun K hK => ?_)
        · skip
          refine Kd.N_append_rows_step (Kd.slice 4 Kd.bool) (w0 := wc) wc.heap.size (by rfl) (.tmp 32) (.tmp 37) 41 30 (.slice none 0 0) 24 (by rfl) Tryd.underlying41 infoR rfl (by decide) (by omega) va (stem) [r0] (some ⟨q1, 0, none⟩) 1 1 (fun k => oa k ∨ k = q1 ∨ k < wc.heap.size ∨ wD.heap.size ≤ k) (fun k => k = q1 ∨ (True ∧ k < wc.heap.size)) (by rfl) (by rfl) (Kd.N_mono N2.out (fun k h => .inl h)) (one_row K7.out (Kd.FK_step HFR.out (fun k _ hk => BD.out.block k hk))) (fun k hk => ⟨hk.elim (fun h => .inr (.inl h)) (fun h => .inr (.inr (.inl h.2))), fun e => hk.elim (fun h => P2_7.out (h ▸ N2.out.1 k e.symm)) (fun h => Nat.lt_irrefl _ (Nat.lt_of_lt_of_le h.2 (Kd.N_base N2.out k e.symm)))⟩) (fun k hk => .inr (.inr (.inr hk))) BD.out BD.out.size (by have := LB.out; omega) ?_
          intro vs w1 hra hba hga hata
          rw [HS1.out] at hra
          obtain ⟨Ys, es, rfl⟩ := Kd.N_slice hra
          obtain ⟨os, ho⟩ : ∃ o_ : Nat → Prop, o_ = (fun k => (oa k ∨ k = q1 ∨ k < wc.heap.size ∨ wD.heap.size ≤ k) ∧ k < w1.heap.size) := ⟨_, rfl⟩
          have hoI : ∀ k, os k → (oa k ∨ k = q1 ∨ k < wc.heap.size ∨ wD.heap.size ≤ k) ∧ k < w1.heap.size := fun k h => by rw [ho] at h; exact h
          have hn := Kd.N_bound hra
          rw [← ho] at hn
          refine hK.out _ _ ⟨(pw_cell_below (hba) k0), (pw_cell_below (hba) k1), (pw_cell_below (hba) hxc)⟩ (fun hHeld => ?_)
          clear hK K
          refine norm_ (a' := ?_) ?_ ?_
          rotate_left
          · show Act.put _ (some 38) _ = _
            simp only [Act.put, List.setIfInBounds_toArray, List.set_cons_zero, List.set_cons_succ, i64_w, i32_w]
            rfl
          exact norm_ (by simp only [putAll, Act.put, List.setIfInBounds_toArray, List.set_cons_zero, List.set_cons_succ, i64_w, i32_w]) (hC17 (va, oa, q1, Ys, es, os, q2) _ ⟨hba, hn, fun k h => (hoI k h).2, blk_grown K17.out hga (fun e => P2_17.out (N2.out.1 _ e.symm)), (show wc.heap.size ≤ q2 from G17.out), (show ¬ os q2 from fun h => by rcases (hoI _ h).1 with h1 | h1 | h1 | h1; exact P2_17.out h1; exact P7_17.out h1.symm; (have h2 := G17.out; omega); (have h3 := blk_lt K17.out; omega))⟩)
        · skip
          refine value_ (w1 := ?_) (v := ?_) (by rfl) rfl ?_ ?_
          rotate_left 2
          · go_simp
            constructor
            · rfl
            · rfl
          refine hK.out _ _ ⟨(pw_cell_below (below_alloc BD.out _) k0), (pw_cell_below (below_alloc BD.out _) k1), (pw_cell_below (below_alloc BD.out _) hxc)⟩ (fun hHeld => ?_)
          clear hK K
          refine norm_ (a' := ?_) ?_ ?_
          rotate_left
          · show Act.put _ (some 8) _ = _
            simp only [Act.put, List.setIfInBounds_toArray, List.set_cons_zero, List.set_cons_succ, i64_w, i32_w]
            rfl
          exact norm_ (by simp only [putAll, Act.put, List.setIfInBounds_toArray, List.set_cons_zero, List.set_cons_succ, i64_w, i32_w]) (hC19 (va, oa, q1, q2, wD.heap.size) _ ⟨below_alloc BD.out _, Kd.N_alloc N2.out _, fun k h => Nat.lt_trans (OB2.out k h) (by rw [World.size_alloc]; exact Nat.lt_succ_self _), blk_alloc K7.out _, (show wc.heap.size ≤ q1 from G7.out), blk_alloc K17.out _, (show wc.heap.size ≤ q2 from G17.out), blk_new wD _, (show wc.heap.size ≤ wD.heap.size from BD.out.size), (show ¬ oa q1 from P2_7.out), (show ¬ oa q2 from P2_17.out), (show ¬ oa wD.heap.size from fun h => Nat.lt_irrefl _ (OB2.out _ h)), (show q1 ≠ q2 from P7_17.out), (show q1 ≠ wD.heap.size from Nat.ne_of_lt (blk_lt K7.out)), (show q2 ≠ wD.heap.size from Nat.ne_of_lt (blk_lt K17.out))⟩)
      refine join_ (σ := Value × (Nat → Prop) × Nat × Option Addr × Nat × (Nat → Prop)) 6 (bl 22 126975) (fun s_ => [(30, .pointer (some ⟨gw, 0, none⟩)), (33, .pointer (some ⟨gw, 1, none⟩)), (39, .pointer (some ⟨gw, 1, none⟩)), (43, .pointer (some ⟨gw, 1, none⟩)), (31, .slice X1 stem.length d1), (34, .slice (some adr) loop.length d2), (35, .pointer (some adr)), (36, .slice Ar r0.length cr), (40, .slice (some adr) loop.length d2), (41, .slice Y (loop.length - 1) (d2 - 1)), (44, .slice (some adr) loop.length d2), (45, .pointer (some adr)), (46, .slice Ar r0.length cr), (32, s_.1), (37, (.slice (some ⟨s_.2.2.1, 0, none⟩) 1 1)), (38, (.slice s_.2.2.2.1 S1.length s_.2.2.2.2.1))]) (fun s_ w' => (Below wc.heap.size wc w') ∧ (Kd.N (Kd.slice 4 Kd.bool) 30 w' wc.heap.size s_.2.2.2.2.2 (.slice s_.2.2.2.1 S1.length s_.2.2.2.2.1) (S1)) ∧ (∀ k, s_.2.2.2.2.2 k → k < w'.heap.size)) ?_ (fun hC11 => ?_)
      · rintro ⟨va, oa, q1, Ys, es, os⟩ wD ⟨BD_, N8_, OB8_⟩
        have BD := Aside0.mk (show Below wc.heap.size wc wD from BD_)
        have N8 := Aside0.mk (show Kd.N (Kd.slice 4 Kd.bool) 30 wD wc.heap.size os (.slice Ys S1.length es) (S1) from N8_)
        have OB8 := Aside0.mk (show ∀ k, os k → k < wD.heap.size from OB8_)
        clear BD_ N8_ OB8_
        refine norm_ (a' := ?_) ?_ ?_
        rotate_left
        · simp only [putAll, Act.put, List.setIfInBounds_toArray, List.set_cons_zero, List.set_cons_succ, i64_w, i32_w]
          rfl
        refine three_ (i := 12) (j := 17) (k := 20) (Ni := some 42) (Nj := some 47) (Nk := some 8) (bl 22 131071) (bl 22 258047) (bl 22 1175551) rfl rfl rfl rfl rfl rfl (three_of HT_.out (by kernel_rfl)) (by decide) (by decide) (by decide) (fun K hK => ?_) (fun K hK => ?_) (fun K hK => ?_)
        · skip
          refine Kd.N_append_rows_step (Kd.slice 4 Kd.bool) (w0 := wc) wc.heap.size (by rfl) (.const (.slice none 0 0)) (.tmp 41) 41 30 (.slice none 0 0) 24 (by rfl) Tryd.underlying41 infoR rfl (by decide) (by omega) (.slice none 0 0) ([] : List (List Bool)) (loop.drop 1) Y (loop.length - 1) (d2 - 1) (fun k => k < wc.heap.size ∨ wD.heap.size ≤ k) (fun k => True ∧ k < wc.heap.size) (by rfl) (by rfl) (Kd.N_nil _ _ _ _ _) (Kd.F_step HFY.out (fun k _ hk => BD.out.block k hk)) (fun k hk => ⟨.inl hk.2, by simp [Value.ownBlock]⟩) (fun k hk => .inr hk) BD.out BD.out.size (by have := LB.out; simp only [List.length_nil]; omega) ?_
          intro vb w1 hra hba hga hata
          rw [List.nil_append] at hra
          obtain ⟨ob, ho⟩ : ∃ o_ : Nat → Prop, o_ = (fun k => (k < wc.heap.size ∨ wD.heap.size ≤ k) ∧ k < w1.heap.size) := ⟨_, rfl⟩
          have hoI : ∀ k, ob k → (k < wc.heap.size ∨ wD.heap.size ≤ k) ∧ k < w1.heap.size := fun k h => by rw [ho] at h; exact h
          have hn := Kd.N_bound hra
          rw [← ho] at hn
          refine hK.out _ _ ⟨(pw_cell_below (hba) k0), (pw_cell_below (hba) k1), (pw_cell_below (hba) hxc)⟩ (fun hHeld => ?_)
          clear hK K
          refine norm_ (a' := ?_) ?_ ?_
          rotate_left
          · show Act.put _ (some 42) _ = _
            simp only [Act.put, List.setIfInBounds_toArray, List.set_cons_zero, List.set_cons_succ, i64_w, i32_w]
            rfl
          exact norm_ (by simp only [putAll, Act.put, List.setIfInBounds_toArray, List.set_cons_zero, List.set_cons_succ, i64_w, i32_w]) (hC16 (va, oa, q1, Ys, es, os, vb, ob) _ ⟨hba, Kd.N_grown N8.out hga (fun k hk => by simp [Value.ownBlock]), fun k h => Nat.lt_of_lt_of_le (OB8.out k h) hga.size, hn, fun k h => (hoI k h).2, (show ∀ k, Value.ownBlock vb = some k → ¬ os k from fun k e h => by have h1 := OB8.out k h; rcases hata with h2 | ⟨b, h2, h3⟩ <;> rw [h2] at e <;> simp [Value.ownBlock] at e; omega)⟩)
        · skip
          refine value_ (w1 := ?_) (v := ?_) (by rfl) rfl ?_ ?_
          rotate_left 2
          · go_simp
            constructor
            · rfl
            · rfl
          refine hK.out _ _ ⟨(pw_cell_below (below_alloc BD.out _) k0), (pw_cell_below (below_alloc BD.out _) k1), (pw_cell_below (below_alloc BD.out _) hxc)⟩ (fun hHeld => ?_)
          clear hK K
          refine norm_ (a' := ?_) ?_ ?_
          rotate_left
          · show Act.put _ (some 47) _ = _
            simp only [Act.put, List.setIfInBounds_toArray, List.set_cons_zero, List.set_cons_succ, i64_w, i32_w]
            rfl
          exact norm_ (by simp only [putAll, Act.put, List.setIfInBounds_toArray, List.set_cons_zero, List.set_cons_succ, i64_w, i32_w]) (hC17 (va, oa, q1, Ys, es, os, wD.heap.size) _ ⟨below_alloc BD.out _, Kd.N_alloc N8.out _, fun k h => Nat.lt_trans (OB8.out k h) (by rw [World.size_alloc]; exact Nat.lt_succ_self _), blk_new wD _, (show wc.heap.size ≤ wD.heap.size from BD.out.size), (show ¬ os wD.heap.size from fun h => Nat.lt_irrefl _ (OB8.out _ h))⟩)
        · skip
          refine value_ (w1 := ?_) (v := ?_) (by rfl) rfl ?_ ?_
          rotate_left 2
          · go_simp
            constructor
            · rfl
            · rfl
          refine hK.out _ _ ⟨(pw_cell_below (below_alloc BD.out _) k0), (pw_cell_below (below_alloc BD.out _) k1), (pw_cell_below (below_alloc BD.out _) hxc)⟩ (fun hHeld => ?_)
          clear hK K
          refine norm_ (a' := ?_) ?_ ?_
          rotate_left
          · show Act.put _ (some 8) _ = _
            simp only [Act.put, List.setIfInBounds_toArray, List.set_cons_zero, List.set_cons_succ, i64_w, i32_w]
            rfl
          exact norm_ (by simp only [putAll, Act.put, List.setIfInBounds_toArray, List.set_cons_zero, List.set_cons_succ, i64_w, i32_w]) (hC18 (va, oa, q1, Ys, es, os, wD.heap.size) _ ⟨below_alloc BD.out _, Kd.N_alloc N8.out _, fun k h => Nat.lt_trans (OB8.out k h) (by rw [World.size_alloc]; exact Nat.lt_succ_self _), blk_new wD _, (show wc.heap.size ≤ wD.heap.size from BD.out.size), (show ¬ os wD.heap.size from fun h => Nat.lt_irrefl _ (OB8.out _ h))⟩)
      refine join_ (σ := Nat × Nat) 7 (bl 22 1306235) (fun s_ => [(30, .pointer (some ⟨gw, 0, none⟩)), (33, .pointer (some ⟨gw, 1, none⟩)), (39, .pointer (some ⟨gw, 1, none⟩)), (43, .pointer (some ⟨gw, 1, none⟩)), (31, .slice X1 stem.length d1), (34, .slice (some adr) loop.length d2), (35, .pointer (some adr)), (36, .slice Ar r0.length cr), (40, .slice (some adr) loop.length d2), (41, .slice Y (loop.length - 1) (d2 - 1)), (44, .slice (some adr) loop.length d2), (45, .pointer (some adr)), (46, .slice Ar r0.length cr), (47, (.slice (some ⟨s_.1, 0, none⟩) 1 1)), (8, (.pointer (some ⟨s_.2, 0, none⟩)))]) (fun s_ w' => (Below wc.heap.size wc w') ∧ (w'.heap[s_.1]? = some (.cells #[.slice Ar r0.length cr] 30 (0, 0))) ∧ (wc.heap.size ≤ s_.1) ∧ (w'.heap[s_.2]? = some (.cells #[.slice none 0 0, .slice none 0 0] 43 (0, 0))) ∧ (wc.heap.size ≤ s_.2) ∧ (s_.1 ≠ s_.2)) ?_ (fun hC10 => ?_)
      · rintro ⟨q2, g8⟩ wD ⟨BD_, K17_, G17_, K20_, G20_, P17_20_⟩
        have BD := Aside0.mk (show Below wc.heap.size wc wD from BD_)
        have K17 := Aside0.mk (show wD.heap[q2]? = some (.cells #[.slice Ar r0.length cr] 30 (0, 0)) from K17_)
        have G17 := Aside0.mk (show wc.heap.size ≤ q2 from G17_)
        have K20 := Aside0.mk (show wD.heap[g8]? = some (.cells #[.slice none 0 0, .slice none 0 0] 43 (0, 0)) from K20_)
        have G20 := Aside0.mk (show wc.heap.size ≤ g8 from G20_)
        have P17_20 := Aside0.mk (show q2 ≠ g8 from P17_20_)
        clear BD_ K17_ G17_ K20_ G20_ P17_20_
        refine norm_ (a' := ?_) ?_ ?_
        rotate_left
        · simp only [putAll, Act.put, List.setIfInBounds_toArray, List.set_cons_zero, List.set_cons_succ, i64_w, i32_w]
          rfl
        refine two_ (i := 2) (j := 7) (Ni := some 32) (Nj := some 37) (bl 22 1306239) (bl 22 1306363) rfl rfl rfl rfl (two_of HT_.out (by kernel_rfl)) (by decide) (by decide) (fun K hK => ?_) (fun K hK => ?_)
        · skip
          refine Kd.N_append_rows_step (Kd.slice 4 Kd.bool) (w0 := wc) wc.heap.size (by rfl) (.const (.slice none 0 0)) (.tmp 31) 41 30 (.slice none 0 0) 24 (by rfl) Tryd.underlying41 infoR rfl (by decide) (by omega) (.slice none 0 0) ([] : List (List Bool)) (stem) X1 (stem.length) (d1) (fun k => k < wc.heap.size ∨ wD.heap.size ≤ k) (fun k => True ∧ k < wc.heap.size) (by rfl) (by rfl) (Kd.N_nil _ _ _ _ _) (Kd.F_step FS.out (fun k _ hk => BD.out.block k hk)) (fun k hk => ⟨.inl hk.2, by simp [Value.ownBlock]⟩) (fun k hk => .inr hk) BD.out BD.out.size (by have := LB.out; simp only [List.length_nil]; omega) ?_
          intro va w1 hra hba hga hata
          rw [List.nil_append] at hra
          obtain ⟨oa, ho⟩ : ∃ o_ : Nat → Prop, o_ = (fun k => (k < wc.heap.size ∨ wD.heap.size ≤ k) ∧ k < w1.heap.size) := ⟨_, rfl⟩
          have hoI : ∀ k, oa k → (k < wc.heap.size ∨ wD.heap.size ≤ k) ∧ k < w1.heap.size := fun k h => by rw [ho] at h; exact h
          have hn := Kd.N_bound hra
          rw [← ho] at hn
          refine hK.out _ _ ⟨(pw_cell_below (hba) k0), (pw_cell_below (hba) k1), (pw_cell_below (hba) hxc)⟩ (fun hHeld => ?_)
          clear hK K
          refine norm_ (a' := ?_) ?_ ?_
          rotate_left
          · show Act.put _ (some 32) _ = _
            simp only [Act.put, List.setIfInBounds_toArray, List.set_cons_zero, List.set_cons_succ, i64_w, i32_w]
            rfl
          exact norm_ (by simp only [putAll, Act.put, List.setIfInBounds_toArray, List.set_cons_zero, List.set_cons_succ, i64_w, i32_w]) (hC14 (va, oa, q2, g8) _ ⟨hba, hn, fun k h => (hoI k h).2, blk_grown K17.out hga (by simp [Value.ownBlock]), (show wc.heap.size ≤ q2 from G17.out), blk_grown K20.out hga (by simp [Value.ownBlock]), (show wc.heap.size ≤ g8 from G20.out), (show ¬ oa q2 from fun h => by have h1 := hoI _ h; have h2 := G17.out; have h3 := blk_lt K17.out; omega), (show ¬ oa g8 from fun h => by have h1 := hoI _ h; have h2 := G20.out; have h3 := blk_lt K20.out; omega), (show q2 ≠ g8 from P17_20.out)⟩)
        · skip
          refine value_ (w1 := ?_) (v := ?_) (by rfl) rfl ?_ ?_
          rotate_left 2
          · go_simp
            constructor
            · rfl
            · rfl
          refine hK.out _ _ ⟨(pw_cell_below (below_alloc BD.out _) k0), (pw_cell_below (below_alloc BD.out _) k1), (pw_cell_below (below_alloc BD.out _) hxc)⟩ (fun hHeld => ?_)
          clear hK K
          refine norm_ (a' := ?_) ?_ ?_
          rotate_left
          · show Act.put _ (some 37) _ = _
            simp only [Act.put, List.setIfInBounds_toArray, List.set_cons_zero, List.set_cons_succ, i64_w, i32_w]
            rfl
          exact norm_ (by simp only [putAll, Act.put, List.setIfInBounds_toArray, List.set_cons_zero, List.set_cons_succ, i64_w, i32_w]) (hC15 (wD.heap.size, q2, g8) _ ⟨below_alloc BD.out _, blk_new wD _, (show wc.heap.size ≤ wD.heap.size from BD.out.size), blk_alloc K17.out _, (show wc.heap.size ≤ q2 from G17.out), blk_alloc K20.out _, (show wc.heap.size ≤ g8 from G20.out), (show wD.heap.size ≠ q2 from Nat.ne_of_gt (blk_lt K17.out)), (show wD.heap.size ≠ g8 from Nat.ne_of_gt (blk_lt K20.out)), (show q2 ≠ g8 from P17_20.out)⟩)
      refine join_ (σ := Nat × Nat) 7 (bl 22 1175291) (fun s_ => [(30, .pointer (some ⟨gw, 0, none⟩)), (33, .pointer (some ⟨gw, 1, none⟩)), (39, .pointer (some ⟨gw, 1, none⟩)), (43, .pointer (some ⟨gw, 1, none⟩)), (31, .slice X1 stem.length d1), (34, .slice (some adr) loop.length d2), (35, .pointer (some adr)), (36, .slice Ar r0.length cr), (40, .slice (some adr) loop.length d2), (41, .slice Y (loop.length - 1) (d2 - 1)), (44, .slice (some adr) loop.length d2), (45, .pointer (some adr)), (46, .slice Ar r0.length cr), (37, (.slice (some ⟨s_.1, 0, none⟩) 1 1)), (8, (.pointer (some ⟨s_.2, 0, none⟩)))]) (fun s_ w' => (Below wc.heap.size wc w') ∧ (w'.heap[s_.1]? = some (.cells #[.slice Ar r0.length cr] 30 (0, 0))) ∧ (wc.heap.size ≤ s_.1) ∧ (w'.heap[s_.2]? = some (.cells #[.slice none 0 0, .slice none 0 0] 43 (0, 0))) ∧ (wc.heap.size ≤ s_.2) ∧ (s_.1 ≠ s_.2)) ?_ (fun hC9 => ?_)
      · rintro ⟨q1, g8⟩ wD ⟨BD_, K7_, G7_, K20_, G20_, P7_20_⟩
        have BD := Aside0.mk (show Below wc.heap.size wc wD from BD_)
        have K7 := Aside0.mk (show wD.heap[q1]? = some (.cells #[.slice Ar r0.length cr] 30 (0, 0)) from K7_)
        have G7 := Aside0.mk (show wc.heap.size ≤ q1 from G7_)
        have K20 := Aside0.mk (show wD.heap[g8]? = some (.cells #[.slice none 0 0, .slice none 0 0] 43 (0, 0)) from K20_)
        have G20 := Aside0.mk (show wc.heap.size ≤ g8 from G20_)
        have P7_20 := Aside0.mk (show q1 ≠ g8 from P7_20_)
        clear BD_ K7_ G7_ K20_ G20_ P7_20_
        refine norm_ (a' := ?_) ?_ ?_
        rotate_left
        · simp only [putAll, Act.put, List.setIfInBounds_toArray, List.set_cons_zero, List.set_cons_succ, i64_w, i32_w]
          rfl
        refine two_ (i := 2) (j := 17) (Ni := some 32) (Nj := some 47) (bl 22 1175295) (bl 22 1306363) rfl rfl rfl rfl (two_of HT_.out (by kernel_rfl)) (by decide) (by decide) (fun K hK => ?_) (fun K hK => ?_)
        · skip
          refine Kd.N_append_rows_step (Kd.slice 4 Kd.bool) (w0 := wc) wc.heap.size (by rfl) (.const (.slice none 0 0)) (.tmp 31) 41 30 (.slice none 0 0) 24 (by rfl) Tryd.underlying41 infoR rfl (by decide) (by omega) (.slice none 0 0) ([] : List (List Bool)) (stem) X1 (stem.length) (d1) (fun k => k < wc.heap.size ∨ wD.heap.size ≤ k) (fun k => True ∧ k < wc.heap.size) (by rfl) (by rfl) (Kd.N_nil _ _ _ _ _) (Kd.F_step FS.out (fun k _ hk => BD.out.block k hk)) (fun k hk => ⟨.inl hk.2, by simp [Value.ownBlock]⟩) (fun k hk => .inr hk) BD.out BD.out.size (by have := LB.out; simp only [List.length_nil]; omega) ?_
          intro va w1 hra hba hga hata
          rw [List.nil_append] at hra
          obtain ⟨oa, ho⟩ : ∃ o_ : Nat → Prop, o_ = (fun k => (k < wc.heap.size ∨ wD.heap.size ≤ k) ∧ k < w1.heap.size) := ⟨_, rfl⟩
          have hoI : ∀ k, oa k → (k < wc.heap.size ∨ wD.heap.size ≤ k) ∧ k < w1.heap.size := fun k h => by rw [ho] at h; exact h
          have hn := Kd.N_bound hra
          rw [← ho] at hn
          refine hK.out _ _ ⟨(pw_cell_below (hba) k0), (pw_cell_below (hba) k1), (pw_cell_below (hba) hxc)⟩ (fun hHeld => ?_)
          clear hK K
          refine norm_ (a' := ?_) ?_ ?_
          rotate_left
          · show Act.put _ (some 32) _ = _
            simp only [Act.put, List.setIfInBounds_toArray, List.set_cons_zero, List.set_cons_succ, i64_w, i32_w]
            rfl
          exact norm_ (by simp only [putAll, Act.put, List.setIfInBounds_toArray, List.set_cons_zero, List.set_cons_succ, i64_w, i32_w]) (hC13 (va, oa, q1, g8) _ ⟨hba, hn, fun k h => (hoI k h).2, blk_grown K7.out hga (by simp [Value.ownBlock]), (show wc.heap.size ≤ q1 from G7.out), blk_grown K20.out hga (by simp [Value.ownBlock]), (show wc.heap.size ≤ g8 from G20.out), (show ¬ oa q1 from fun h => by have h1 := hoI _ h; have h2 := G7.out; have h3 := blk_lt K7.out; omega), (show ¬ oa g8 from fun h => by have h1 := hoI _ h; have h2 := G20.out; have h3 := blk_lt K20.out; omega), (show q1 ≠ g8 from P7_20.out)⟩)
        · skip
          refine value_ (w1 := ?_) (v := ?_) (by rfl) rfl ?_ ?_
          rotate_left 2
          · go_simp
            constructor
            · rfl
            · rfl
          refine hK.out _ _ ⟨(pw_cell_below (below_alloc BD.out _) k0), (pw_cell_below (below_alloc BD.out _) k1), (pw_cell_below (below_alloc BD.out _) hxc)⟩ (fun hHeld => ?_)
          clear hK K
          refine norm_ (a' := ?_) ?_ ?_
          rotate_left
          · show Act.put _ (some 47) _ = _
            simp only [Act.put, List.setIfInBounds_toArray, List.set_cons_zero, List.set_cons_succ, i64_w, i32_w]
            rfl
          exact norm_ (by simp only [putAll, Act.put, List.setIfInBounds_toArray, List.set_cons_zero, List.set_cons_succ, i64_w, i32_w]) (hC15 (q1, wD.heap.size, g8) _ ⟨below_alloc BD.out _, blk_alloc K7.out _, (show wc.heap.size ≤ q1 from G7.out), blk_new wD _, (show wc.heap.size ≤ wD.heap.size from BD.out.size), blk_alloc K20.out _, (show wc.heap.size ≤ g8 from G20.out), (show q1 ≠ wD.heap.size from Nat.ne_of_lt (blk_lt K7.out)), (show q1 ≠ g8 from P7_20.out), (show wD.heap.size ≠ g8 from Nat.ne_of_gt (blk_lt K20.out))⟩)
      refine join_ (σ := Nat × Nat) 7 (bl 22 257787) (fun s_ => [(30, .pointer (some ⟨gw, 0, none⟩)), (33, .pointer (some ⟨gw, 1, none⟩)), (39, .pointer (some ⟨gw, 1, none⟩)), (43, .pointer (some ⟨gw, 1, none⟩)), (31, .slice X1 stem.length d1), (34, .slice (some adr) loop.length d2), (35, .pointer (some adr)), (36, .slice Ar r0.length cr), (40, .slice (some adr) loop.length d2), (41, .slice Y (loop.length - 1) (d2 - 1)), (44, .slice (some adr) loop.length d2), (45, .pointer (some adr)), (46, .slice Ar r0.length cr), (37, (.slice (some ⟨s_.1, 0, none⟩) 1 1)), (47, (.slice (some ⟨s_.2, 0, none⟩) 1 1))]) (fun s_ w' => (Below wc.heap.size wc w') ∧ (w'.heap[s_.1]? = some (.cells #[.slice Ar r0.length cr] 30 (0, 0))) ∧ (wc.heap.size ≤ s_.1) ∧ (w'.heap[s_.2]? = some (.cells #[.slice Ar r0.length cr] 30 (0, 0))) ∧ (wc.heap.size ≤ s_.2) ∧ (s_.1 ≠ s_.2)) ?_ (fun hC8 => ?_)
      · rintro ⟨q1, q2⟩ wD ⟨BD_, K7_, G7_, K17_, G17_, P7_17_⟩
        have BD := Aside0.mk (show Below wc.heap.size wc wD from BD_)
        have K7 := Aside0.mk (show wD.heap[q1]? = some (.cells #[.slice Ar r0.length cr] 30 (0, 0)) from K7_)
        have G7 := Aside0.mk (show wc.heap.size ≤ q1 from G7_)
        have K17 := Aside0.mk (show wD.heap[q2]? = some (.cells #[.slice Ar r0.length cr] 30 (0, 0)) from K17_)
        have G17 := Aside0.mk (show wc.heap.size ≤ q2 from G17_)
        have P7_17 := Aside0.mk (show q1 ≠ q2 from P7_17_)
        clear BD_ K7_ G7_ K17_ G17_ P7_17_
        refine norm_ (a' := ?_) ?_ ?_
        rotate_left
        · simp only [putAll, Act.put, List.setIfInBounds_toArray, List.set_cons_zero, List.set_cons_succ, i64_w, i32_w]
          rfl
        refine two_ (i := 2) (j := 20) (Ni := some 32) (Nj := some 8) (bl 22 257791) (bl 22 1306363) rfl rfl rfl rfl (two_of HT_.out (by kernel_rfl)) (by decide) (by decide) (fun K hK => ?_) (fun K hK => ?_)
        · skip
          refine Kd.N_append_rows_step (Kd.slice 4 Kd.bool) (w0 := wc) wc.heap.size (by rfl) (.const (.slice none 0 0)) (.tmp 31) 41 30 (.slice none 0 0) 24 (by rfl) Tryd.underlying41 infoR rfl (by decide) (by omega) (.slice none 0 0) ([] : List (List Bool)) (stem) X1 (stem.length) (d1) (fun k => k < wc.heap.size ∨ wD.heap.size ≤ k) (fun k => True ∧ k < wc.heap.size) (by rfl) (by rfl) (Kd.N_nil _ _ _ _ _) (Kd.F_step FS.out (fun k _ hk => BD.out.block k hk)) (fun k hk => ⟨.inl hk.2, by simp [Value.ownBlock]⟩) (fun k hk => .inr hk) BD.out BD.out.size (by have := LB.out; simp only [List.length_nil]; omega) ?_
          intro va w1 hra hba hga hata
          rw [List.nil_append] at hra
          obtain ⟨oa, ho⟩ : ∃ o_ : Nat → Prop, o_ = (fun k => (k < wc.heap.size ∨ wD.heap.size ≤ k) ∧ k < w1.heap.size) := ⟨_, rfl⟩
          have hoI : ∀ k, oa k → (k < wc.heap.size ∨ wD.heap.size ≤ k) ∧ k < w1.heap.size := fun k h => by rw [ho] at h; exact h
          have hn := Kd.N_bound hra
          rw [← ho] at hn
          refine hK.out _ _ ⟨(pw_cell_below (hba) k0), (pw_cell_below (hba) k1), (pw_cell_below (hba) hxc)⟩ (fun hHeld => ?_)
          clear hK K
          refine norm_ (a' := ?_) ?_ ?_
          rotate_left
          · show Act.put _ (some 32) _ = _
            simp only [Act.put, List.setIfInBounds_toArray, List.set_cons_zero, List.set_cons_succ, i64_w, i32_w]
            rfl
          exact norm_ (by simp only [putAll, Act.put, List.setIfInBounds_toArray, List.set_cons_zero, List.set_cons_succ, i64_w, i32_w]) (hC12 (va, oa, q1, q2) _ ⟨hba, hn, fun k h => (hoI k h).2, blk_grown K7.out hga (by simp [Value.ownBlock]), (show wc.heap.size ≤ q1 from G7.out), blk_grown K17.out hga (by simp [Value.ownBlock]), (show wc.heap.size ≤ q2 from G17.out), (show ¬ oa q1 from fun h => by have h1 := hoI _ h; have h2 := G7.out; have h3 := blk_lt K7.out; omega), (show ¬ oa q2 from fun h => by have h1 := hoI _ h; have h2 := G17.out; have h3 := blk_lt K17.out; omega), (show q1 ≠ q2 from P7_17.out)⟩)
        · skip
          refine value_ (w1 := ?_) (v := ?_) (by rfl) rfl ?_ ?_
          rotate_left 2
          · go_simp
            constructor
            · rfl
            · rfl
          refine hK.out _ _ ⟨(pw_cell_below (below_alloc BD.out _) k0), (pw_cell_below (below_alloc BD.out _) k1), (pw_cell_below (below_alloc BD.out _) hxc)⟩ (fun hHeld => ?_)
          clear hK K
          refine norm_ (a' := ?_) ?_ ?_
          rotate_left
          · show Act.put _ (some 8) _ = _
            simp only [Act.put, List.setIfInBounds_toArray, List.set_cons_zero, List.set_cons_succ, i64_w, i32_w]
            rfl
          exact norm_ (by simp only [putAll, Act.put, List.setIfInBounds_toArray, List.set_cons_zero, List.set_cons_succ, i64_w, i32_w]) (hC15 (q1, q2, wD.heap.size) _ ⟨below_alloc BD.out _, blk_alloc K7.out _, (show wc.heap.size ≤ q1 from G7.out), blk_alloc K17.out _, (show wc.heap.size ≤ q2 from G17.out), blk_new wD _, (show wc.heap.size ≤ wD.heap.size from BD.out.size), (show q1 ≠ q2 from P7_17.out), (show q1 ≠ wD.heap.size from Nat.ne_of_lt (blk_lt K7.out)), (show q2 ≠ wD.heap.size from Nat.ne_of_lt (blk_lt K17.out))⟩)
      refine join_ (σ := Value × (Nat → Prop) × Nat) 7 (bl 22 1175167) (fun s_ => [(30, .pointer (some ⟨gw, 0, none⟩)), (33, .pointer (some ⟨gw, 1, none⟩)), (39, .pointer (some ⟨gw, 1, none⟩)), (43, .pointer (some ⟨gw, 1, none⟩)), (31, .slice X1 stem.length d1), (34, .slice (some adr) loop.length d2), (35, .pointer (some adr)), (36, .slice Ar r0.length cr), (40, .slice (some adr) loop.length d2), (41, .slice Y (loop.length - 1) (d2 - 1)), (44, .slice (some adr) loop.length d2), (45, .pointer (some adr)), (46, .slice Ar r0.length cr), (32, s_.1), (8, (.pointer (some ⟨s_.2.2, 0, none⟩)))]) (fun s_ w' => (Below wc.heap.size wc w') ∧ (Kd.N (Kd.slice 4 Kd.bool) 30 w' wc.heap.size s_.2.1 s_.1 (stem)) ∧ (∀ k, s_.2.1 k → k < w'.heap.size) ∧ (w'.heap[s_.2.2]? = some (.cells #[.slice none 0 0, .slice none 0 0] 43 (0, 0))) ∧ (wc.heap.size ≤ s_.2.2) ∧ (¬ s_.2.1 s_.2.2)) ?_ (fun hC7 => ?_)
      · rintro ⟨va, oa, g8⟩ wD ⟨BD_, N2_, OB2_, K20_, G20_, P2_20_⟩
        have BD := Aside0.mk (show Below wc.heap.size wc wD from BD_)
        have N2 := Aside0.mk (show Kd.N (Kd.slice 4 Kd.bool) 30 wD wc.heap.size oa va (stem) from N2_)
        have OB2 := Aside0.mk (show ∀ k, oa k → k < wD.heap.size from OB2_)
        have K20 := Aside0.mk (show wD.heap[g8]? = some (.cells #[.slice none 0 0, .slice none 0 0] 43 (0, 0)) from K20_)
        have G20 := Aside0.mk (show wc.heap.size ≤ g8 from G20_)
        have P2_20 := Aside0.mk (show ¬ oa g8 from P2_20_)
        clear BD_ N2_ OB2_ K20_ G20_ P2_20_
        refine norm_ (a' := ?_) ?_ ?_
        rotate_left
        · simp only [putAll, Act.put, List.setIfInBounds_toArray, List.set_cons_zero, List.set_cons_succ, i64_w, i32_w]
          rfl
        refine two_ (i := 7) (j := 17) (Ni := some 37) (Nj := some 47) (bl 22 1175295) (bl 22 1306239) rfl rfl rfl rfl (two_of HT_.out (by kernel_rfl)) (by decide) (by decide) (fun K hK => ?_) (fun K hK => ?_)
        · skip
          refine value_ (w1 := ?_) (v := ?_) (by rfl) rfl ?_ ?_
          rotate_left 2
          · go_simp
            constructor
            · rfl
            · rfl
          refine hK.out _ _ ⟨(pw_cell_below (below_alloc BD.out _) k0), (pw_cell_below (below_alloc BD.out _) k1), (pw_cell_below (below_alloc BD.out _) hxc)⟩ (fun hHeld => ?_)
          clear hK K
          refine norm_ (a' := ?_) ?_ ?_
          rotate_left
          · show Act.put _ (some 37) _ = _
            simp only [Act.put, List.setIfInBounds_toArray, List.set_cons_zero, List.set_cons_succ, i64_w, i32_w]
            rfl
          exact norm_ (by simp only [putAll, Act.put, List.setIfInBounds_toArray, List.set_cons_zero, List.set_cons_succ, i64_w, i32_w]) (hC13 (va, oa, wD.heap.size, g8) _ ⟨below_alloc BD.out _, Kd.N_alloc N2.out _, fun k h => Nat.lt_trans (OB2.out k h) (by rw [World.size_alloc]; exact Nat.lt_succ_self _), blk_new wD _, (show wc.heap.size ≤ wD.heap.size from BD.out.size), blk_alloc K20.out _, (show wc.heap.size ≤ g8 from G20.out), (show ¬ oa wD.heap.size from fun h => Nat.lt_irrefl _ (OB2.out _ h)), (show ¬ oa g8 from P2_20.out), (show wD.heap.size ≠ g8 from Nat.ne_of_gt (blk_lt K20.out))⟩)
        · skip
          refine value_ (w1 := ?_) (v := ?_) (by rfl) rfl ?_ ?_
          rotate_left 2
          · go_simp
            constructor
            · rfl
            · rfl
          refine hK.out _ _ ⟨(pw_cell_below (below_alloc BD.out _) k0), (pw_cell_below (below_alloc BD.out _) k1), (pw_cell_below (below_alloc BD.out _) hxc)⟩ (fun hHeld => ?_)
          clear hK K
          refine norm_ (a' := ?_) ?_ ?_
          rotate_left
          · show Act.put _ (some 47) _ = _
            simp only [Act.put, List.setIfInBounds_toArray, List.set_cons_zero, List.set_cons_succ, i64_w, i32_w]
            rfl
          exact norm_ (by simp only [putAll, Act.put, List.setIfInBounds_toArray, List.set_cons_zero, List.set_cons_succ, i64_w, i32_w]) (hC14 (va, oa, wD.heap.size, g8) _ ⟨below_alloc BD.out _, Kd.N_alloc N2.out _, fun k h => Nat.lt_trans (OB2.out k h) (by rw [World.size_alloc]; exact Nat.lt_succ_self _), blk_new wD _, (show wc.heap.size ≤ wD.heap.size from BD.out.size), blk_alloc K20.out _, (show wc.heap.size ≤ g8 from G20.out), (show ¬ oa wD.heap.size from fun h => Nat.lt_irrefl _ (OB2.out _ h)), (show ¬ oa g8 from P2_20.out), (show wD.heap.size ≠ g8 from Nat.ne_of_gt (blk_lt K20.out))⟩)
      refine join_ (σ := Value × (Nat → Prop) × Nat) 7 (bl 22 257663) (fun s_ => [(30, .pointer (some ⟨gw, 0, none⟩)), (33, .pointer (some ⟨gw, 1, none⟩)), (39, .pointer (some ⟨gw, 1, none⟩)), (43, .pointer (some ⟨gw, 1, none⟩)), (31, .slice X1 stem.length d1), (34, .slice (some adr) loop.length d2), (35, .pointer (some adr)), (36, .slice Ar r0.length cr), (40, .slice (some adr) loop.length d2), (41, .slice Y (loop.length - 1) (d2 - 1)), (44, .slice (some adr) loop.length d2), (45, .pointer (some adr)), (46, .slice Ar r0.length cr), (32, s_.1), (47, (.slice (some ⟨s_.2.2, 0, none⟩) 1 1))]) (fun s_ w' => (Below wc.heap.size wc w') ∧ (Kd.N (Kd.slice 4 Kd.bool) 30 w' wc.heap.size s_.2.1 s_.1 (stem)) ∧ (∀ k, s_.2.1 k → k < w'.heap.size) ∧ (w'.heap[s_.2.2]? = some (.cells #[.slice Ar r0.length cr] 30 (0, 0))) ∧ (wc.heap.size ≤ s_.2.2) ∧ (¬ s_.2.1 s_.2.2)) ?_ (fun hC6 => ?_)
      · rintro ⟨va, oa, q2⟩ wD ⟨BD_, N2_, OB2_, K17_, G17_, P2_17_⟩
        have BD := Aside0.mk (show Below wc.heap.size wc wD from BD_)
        have N2 := Aside0.mk (show Kd.N (Kd.slice 4 Kd.bool) 30 wD wc.heap.size oa va (stem) from N2_)
        have OB2 := Aside0.mk (show ∀ k, oa k → k < wD.heap.size from OB2_)
        have K17 := Aside0.mk (show wD.heap[q2]? = some (.cells #[.slice Ar r0.length cr] 30 (0, 0)) from K17_)
        have G17 := Aside0.mk (show wc.heap.size ≤ q2 from G17_)
        have P2_17 := Aside0.mk (show ¬ oa q2 from P2_17_)
        clear BD_ N2_ OB2_ K17_ G17_ P2_17_
        refine norm_ (a' := ?_) ?_ ?_
        rotate_left
        · simp only [putAll, Act.put, List.setIfInBounds_toArray, List.set_cons_zero, List.set_cons_succ, i64_w, i32_w]
          rfl
        refine two_ (i := 7) (j := 20) (Ni := some 37) (Nj := some 8) (bl 22 257791) (bl 22 1306239) rfl rfl rfl rfl (two_of HT_.out (by kernel_rfl)) (by decide) (by decide) (fun K hK => ?_) (fun K hK => ?_)
        · skip
          refine value_ (w1 := ?_) (v := ?_) (by rfl) rfl ?_ ?_
          rotate_left 2
          · go_simp
            constructor
            · rfl
            · rfl
          refine hK.out _ _ ⟨(pw_cell_below (below_alloc BD.out _) k0), (pw_cell_below (below_alloc BD.out _) k1), (pw_cell_below (below_alloc BD.out _) hxc)⟩ (fun hHeld => ?_)
          clear hK K
          refine norm_ (a' := ?_) ?_ ?_
          rotate_left
          · show Act.put _ (some 37) _ = _
            simp only [Act.put, List.setIfInBounds_toArray, List.set_cons_zero, List.set_cons_succ, i64_w, i32_w]
            rfl
          exact norm_ (by simp only [putAll, Act.put, List.setIfInBounds_toArray, List.set_cons_zero, List.set_cons_succ, i64_w, i32_w]) (hC12 (va, oa, wD.heap.size, q2) _ ⟨below_alloc BD.out _, Kd.N_alloc N2.out _, fun k h => Nat.lt_trans (OB2.out k h) (by rw [World.size_alloc]; exact Nat.lt_succ_self _), blk_new wD _, (show wc.heap.size ≤ wD.heap.size from BD.out.size), blk_alloc K17.out _, (show wc.heap.size ≤ q2 from G17.out), (show ¬ oa wD.heap.size from fun h => Nat.lt_irrefl _ (OB2.out _ h)), (show ¬ oa q2 from P2_17.out), (show wD.heap.size ≠ q2 from Nat.ne_of_gt (blk_lt K17.out))⟩)
        · skip
          refine value_ (w1 := ?_) (v := ?_) (by rfl) rfl ?_ ?_
          rotate_left 2
          · go_simp
            constructor
            · rfl
            · rfl
          refine hK.out _ _ ⟨(pw_cell_below (below_alloc BD.out _) k0), (pw_cell_below (below_alloc BD.out _) k1), (pw_cell_below (below_alloc BD.out _) hxc)⟩ (fun hHeld => ?_)
          clear hK K
          refine norm_ (a' := ?_) ?_ ?_
          rotate_left
          · show Act.put _ (some 8) _ = _
            simp only [Act.put, List.setIfInBounds_toArray, List.set_cons_zero, List.set_cons_succ, i64_w, i32_w]
            rfl
          exact norm_ (by simp only [putAll, Act.put, List.setIfInBounds_toArray, List.set_cons_zero, List.set_cons_succ, i64_w, i32_w]) (hC14 (va, oa, q2, wD.heap.size) _ ⟨below_alloc BD.out _, Kd.N_alloc N2.out _, fun k h => Nat.lt_trans (OB2.out k h) (by rw [World.size_alloc]; exact Nat.lt_succ_self _), blk_alloc K17.out _, (show wc.heap.size ≤ q2 from G17.out), blk_new wD _, (show wc.heap.size ≤ wD.heap.size from BD.out.size), (show ¬ oa q2 from P2_17.out), (show ¬ oa wD.heap.size from fun h => Nat.lt_irrefl _ (OB2.out _ h)), (show q2 ≠ wD.heap.size from Nat.ne_of_lt (blk_lt K17.out))⟩)
      refine join_ (σ := Value × (Nat → Prop) × Nat) 7 (bl 22 126719) (fun s_ => [(30, .pointer (some ⟨gw, 0, none⟩)), (33, .pointer (some ⟨gw, 1, none⟩)), (39, .pointer (some ⟨gw, 1, none⟩)), (43, .pointer (some ⟨gw, 1, none⟩)), (31, .slice X1 stem.length d1), (34, .slice (some adr) loop.length d2), (35, .pointer (some adr)), (36, .slice Ar r0.length cr), (40, .slice (some adr) loop.length d2), (41, .slice Y (loop.length - 1) (d2 - 1)), (44, .slice (some adr) loop.length d2), (45, .pointer (some adr)), (46, .slice Ar r0.length cr), (32, s_.1), (37, (.slice (some ⟨s_.2.2, 0, none⟩) 1 1))]) (fun s_ w' => (Below wc.heap.size wc w') ∧ (Kd.N (Kd.slice 4 Kd.bool) 30 w' wc.heap.size s_.2.1 s_.1 (stem)) ∧ (∀ k, s_.2.1 k → k < w'.heap.size) ∧ (w'.heap[s_.2.2]? = some (.cells #[.slice Ar r0.length cr] 30 (0, 0))) ∧ (wc.heap.size ≤ s_.2.2) ∧ (¬ s_.2.1 s_.2.2)) ?_ (fun hC5 => ?_)
      · rintro ⟨va, oa, q1⟩ wD ⟨BD_, N2_, OB2_, K7_, G7_, P2_7_⟩
        have BD := Aside0.mk (show Below wc.heap.size wc wD from BD_)
        have N2 := Aside0.mk (show Kd.N (Kd.slice 4 Kd.bool) 30 wD wc.heap.size oa va (stem) from N2_)
        have OB2 := Aside0.mk (show ∀ k, oa k → k < wD.heap.size from OB2_)
        have K7 := Aside0.mk (show wD.heap[q1]? = some (.cells #[.slice Ar r0.length cr] 30 (0, 0)) from K7_)
        have G7 := Aside0.mk (show wc.heap.size ≤ q1 from G7_)
        have P2_7 := Aside0.mk (show ¬ oa q1 from P2_7_)
        clear BD_ N2_ OB2_ K7_ G7_ P2_7_
        refine norm_ (a' := ?_) ?_ ?_
        rotate_left
        · simp only [putAll, Act.put, List.setIfInBounds_toArray, List.set_cons_zero, List.set_cons_succ, i64_w, i32_w]
          rfl
        refine three_ (i := 8) (j := 17) (k := 20) (Ni := some 38) (Nj := some 47) (Nk := some 8) (bl 22 126975) (bl 22 257791) (bl 22 1175295) rfl rfl rfl rfl rfl rfl (three_of HT_.out (by kernel_rfl)) (by decide) (by decide) (by decide) (fun K hK => ?_) (fun K hK => ?_) (fun K hK => ?_)
        · skip
          refine Kd.N_append_rows_step (Kd.slice 4 Kd.bool) (w0 := wc) wc.heap.size (by rfl) (.tmp 32) (.tmp 37) 41 30 (.slice none 0 0) 24 (by rfl) Tryd.underlying41 infoR rfl (by decide) (by omega) va (stem) [r0] (some ⟨q1, 0, none⟩) 1 1 (fun k => oa k ∨ k = q1 ∨ k < wc.heap.size ∨ wD.heap.size ≤ k) (fun k => k = q1 ∨ (True ∧ k < wc.heap.size)) (by rfl) (by rfl) (Kd.N_mono N2.out (fun k h => .inl h)) (one_row K7.out (Kd.FK_step HFR.out (fun k _ hk => BD.out.block k hk))) (fun k hk => ⟨hk.elim (fun h => .inr (.inl h)) (fun h => .inr (.inr (.inl h.2))), fun e => hk.elim (fun h => P2_7.out (h ▸ N2.out.1 k e.symm)) (fun h => Nat.lt_irrefl _ (Nat.lt_of_lt_of_le h.2 (Kd.N_base N2.out k e.symm)))⟩) (fun k hk => .inr (.inr (.inr hk))) BD.out BD.out.size (by have := LB.out; omega) ?_
          intro vs w1 hra hba hga hata
          rw [HS1.out] at hra
          obtain ⟨Ys, es, rfl⟩ := Kd.N_slice hra
          obtain ⟨os, ho⟩ : ∃ o_ : Nat → Prop, o_ = (fun k => (oa k ∨ k = q1 ∨ k < wc.heap.size ∨ wD.heap.size ≤ k) ∧ k < w1.heap.size) := ⟨_, rfl⟩
          have hoI : ∀ k, os k → (oa k ∨ k = q1 ∨ k < wc.heap.size ∨ wD.heap.size ≤ k) ∧ k < w1.heap.size := fun k h => by rw [ho] at h; exact h
          have hn := Kd.N_bound hra
          rw [← ho] at hn
          refine hK.out _ _ ⟨(pw_cell_below (hba) k0), (pw_cell_below (hba) k1), (pw_cell_below (hba) hxc)⟩ (fun hHeld => ?_)
          clear hK K
          refine norm_ (a' := ?_) ?_ ?_
          rotate_left
          · show Act.put _ (some 38) _ = _
            simp only [Act.put, List.setIfInBounds_toArray, List.set_cons_zero, List.set_cons_succ, i64_w, i32_w]
            rfl
          exact norm_ (by simp only [putAll, Act.put, List.setIfInBounds_toArray, List.set_cons_zero, List.set_cons_succ, i64_w, i32_w]) (hC11 (va, oa, q1, Ys, es, os) _ ⟨hba, hn, fun k h => (hoI k h).2⟩)
        · skip
          refine value_ (w1 := ?_) (v := ?_) (by rfl) rfl ?_ ?_
          rotate_left 2
          · go_simp
            constructor
            · rfl
            · rfl
          refine hK.out _ _ ⟨(pw_cell_below (below_alloc BD.out _) k0), (pw_cell_below (below_alloc BD.out _) k1), (pw_cell_below (below_alloc BD.out _) hxc)⟩ (fun hHeld => ?_)
          clear hK K
          refine norm_ (a' := ?_) ?_ ?_
          rotate_left
          · show Act.put _ (some 47) _ = _
            simp only [Act.put, List.setIfInBounds_toArray, List.set_cons_zero, List.set_cons_succ, i64_w, i32_w]
            rfl
          exact norm_ (by simp only [putAll, Act.put, List.setIfInBounds_toArray, List.set_cons_zero, List.set_cons_succ, i64_w, i32_w]) (hC12 (va, oa, q1, wD.heap.size) _ ⟨below_alloc BD.out _, Kd.N_alloc N2.out _, fun k h => Nat.lt_trans (OB2.out k h) (by rw [World.size_alloc]; exact Nat.lt_succ_self _), blk_alloc K7.out _, (show wc.heap.size ≤ q1 from G7.out), blk_new wD _, (show wc.heap.size ≤ wD.heap.size from BD.out.size), (show ¬ oa q1 from P2_7.out), (show ¬ oa wD.heap.size from fun h => Nat.lt_irrefl _ (OB2.out _ h)), (show q1 ≠ wD.heap.size from Nat.ne_of_lt (blk_lt K7.out))⟩)
        · skip
          refine value_ (w1 := ?_) (v := ?_) (by rfl) rfl ?_ ?_
          rotate_left 2
          · go_simp
            constructor
            · rfl
            · rfl
          refine hK.out _ _ ⟨(pw_cell_below (below_alloc BD.out _) k0), (pw_cell_below (below_alloc BD.out _) k1), (pw_cell_below (below_alloc BD.out _) hxc)⟩ (fun hHeld => ?_)
          clear hK K
          refine norm_ (a' := ?_) ?_ ?_
          rotate_left
          · show Act.put _ (some 8) _ = _
            simp only [Act.put, List.setIfInBounds_toArray, List.set_cons_zero, List.set_cons_succ, i64_w, i32_w]
            rfl
          exact norm_ (by simp only [putAll, Act.put, List.setIfInBounds_toArray, List.set_cons_zero, List.set_cons_succ, i64_w, i32_w]) (hC13 (va, oa, q1, wD.heap.size) _ ⟨below_alloc BD.out _, Kd.N_alloc N2.out _, fun k h => Nat.lt_trans (OB2.out k h) (by rw [World.size_alloc]; exact Nat.lt_succ_self _), blk_alloc K7.out _, (show wc.heap.size ≤ q1 from G7.out), blk_new wD _, (show wc.heap.size ≤ wD.heap.size from BD.out.size), (show ¬ oa q1 from P2_7.out), (show ¬ oa wD.heap.size from fun h => Nat.lt_irrefl _ (OB2.out _ h)), (show q1 ≠ wD.heap.size from Nat.ne_of_lt (blk_lt K7.out))⟩)
      refine join_ (σ := Nat) 8 (bl 22 1175163) (fun s_ => [(30, .pointer (some ⟨gw, 0, none⟩)), (33, .pointer (some ⟨gw, 1, none⟩)), (39, .pointer (some ⟨gw, 1, none⟩)), (43, .pointer (some ⟨gw, 1, none⟩)), (31, .slice X1 stem.length d1), (34, .slice (some adr) loop.length d2), (35, .pointer (some adr)), (36, .slice Ar r0.length cr), (40, .slice (some adr) loop.length d2), (41, .slice Y (loop.length - 1) (d2 - 1)), (44, .slice (some adr) loop.length d2), (45, .pointer (some adr)), (46, .slice Ar r0.length cr), (8, (.pointer (some ⟨s_, 0, none⟩)))]) (fun s_ w' => (Below wc.heap.size wc w') ∧ (w'.heap[s_]? = some (.cells #[.slice none 0 0, .slice none 0 0] 43 (0, 0))) ∧ (wc.heap.size ≤ s_)) ?_ (fun hC4 => ?_)
      · rintro g8 wD ⟨BD_, K20_, G20_⟩
        have BD := Aside0.mk (show Below wc.heap.size wc wD from BD_)
        have K20 := Aside0.mk (show wD.heap[g8]? = some (.cells #[.slice none 0 0, .slice none 0 0] 43 (0, 0)) from K20_)
        have G20 := Aside0.mk (show wc.heap.size ≤ g8 from G20_)
        clear BD_ K20_ G20_
        refine norm_ (a' := ?_) ?_ ?_
        rotate_left
        · simp only [putAll, Act.put, List.setIfInBounds_toArray, List.set_cons_zero, List.set_cons_succ, i64_w, i32_w]
          rfl
        refine three_ (i := 2) (j := 7) (k := 17) (Ni := some 32) (Nj := some 37) (Nk := some 47) (bl 22 1175167) (bl 22 1175291) (bl 22 1306235) rfl rfl rfl rfl rfl rfl (three_of HT_.out (by kernel_rfl)) (by decide) (by decide) (by decide) (fun K hK => ?_) (fun K hK => ?_) (fun K hK => ?_)
        · skip
          refine Kd.N_append_rows_step (Kd.slice 4 Kd.bool) (w0 := wc) wc.heap.size (by rfl) (.const (.slice none 0 0)) (.tmp 31) 41 30 (.slice none 0 0) 24 (by rfl) Tryd.underlying41 infoR rfl (by decide) (by omega) (.slice none 0 0) ([] : List (List Bool)) (stem) X1 (stem.length) (d1) (fun k => k < wc.heap.size ∨ wD.heap.size ≤ k) (fun k => True ∧ k < wc.heap.size) (by rfl) (by rfl) (Kd.N_nil _ _ _ _ _) (Kd.F_step FS.out (fun k _ hk => BD.out.block k hk)) (fun k hk => ⟨.inl hk.2, by simp [Value.ownBlock]⟩) (fun k hk => .inr hk) BD.out BD.out.size (by have := LB.out; simp only [List.length_nil]; omega) ?_
          intro va w1 hra hba hga hata
          rw [List.nil_append] at hra
          obtain ⟨oa, ho⟩ : ∃ o_ : Nat → Prop, o_ = (fun k => (k < wc.heap.size ∨ wD.heap.size ≤ k) ∧ k < w1.heap.size) := ⟨_, rfl⟩
          have hoI : ∀ k, oa k → (k < wc.heap.size ∨ wD.heap.size ≤ k) ∧ k < w1.heap.size := fun k h => by rw [ho] at h; exact h
          have hn := Kd.N_bound hra
          rw [← ho] at hn
          refine hK.out _ _ ⟨(pw_cell_below (hba) k0), (pw_cell_below (hba) k1), (pw_cell_below (hba) hxc)⟩ (fun hHeld => ?_)
          clear hK K
          refine norm_ (a' := ?_) ?_ ?_
          rotate_left
          · show Act.put _ (some 32) _ = _
            simp only [Act.put, List.setIfInBounds_toArray, List.set_cons_zero, List.set_cons_succ, i64_w, i32_w]
            rfl
          exact norm_ (by simp only [putAll, Act.put, List.setIfInBounds_toArray, List.set_cons_zero, List.set_cons_succ, i64_w, i32_w]) (hC7 (va, oa, g8) _ ⟨hba, hn, fun k h => (hoI k h).2, blk_grown K20.out hga (by simp [Value.ownBlock]), (show wc.heap.size ≤ g8 from G20.out), (show ¬ oa g8 from fun h => by have h1 := hoI _ h; have h2 := G20.out; have h3 := blk_lt K20.out; omega)⟩)
        · skip
          refine value_ (w1 := ?_) (v := ?_) (by rfl) rfl ?_ ?_
          rotate_left 2
          · go_simp
            constructor
            · rfl
            · rfl
          refine hK.out _ _ ⟨(pw_cell_below (below_alloc BD.out _) k0), (pw_cell_below (below_alloc BD.out _) k1), (pw_cell_below (below_alloc BD.out _) hxc)⟩ (fun hHeld => ?_)
          clear hK K
          refine norm_ (a' := ?_) ?_ ?_
          rotate_left
          · show Act.put _ (some 37) _ = _
            simp only [Act.put, List.setIfInBounds_toArray, List.set_cons_zero, List.set_cons_succ, i64_w, i32_w]
            rfl
          exact norm_ (by simp only [putAll, Act.put, List.setIfInBounds_toArray, List.set_cons_zero, List.set_cons_succ, i64_w, i32_w]) (hC9 (wD.heap.size, g8) _ ⟨below_alloc BD.out _, blk_new wD _, (show wc.heap.size ≤ wD.heap.size from BD.out.size), blk_alloc K20.out _, (show wc.heap.size ≤ g8 from G20.out), (show wD.heap.size ≠ g8 from Nat.ne_of_gt (blk_lt K20.out))⟩)
        · skip
          refine value_ (w1 := ?_) (v := ?_) (by rfl) rfl ?_ ?_
          rotate_left 2
          · go_simp
            constructor
            · rfl
            · rfl
          refine hK.out _ _ ⟨(pw_cell_below (below_alloc BD.out _) k0), (pw_cell_below (below_alloc BD.out _) k1), (pw_cell_below (below_alloc BD.out _) hxc)⟩ (fun hHeld => ?_)
          clear hK K
          refine norm_ (a' := ?_) ?_ ?_
          rotate_left
          · show Act.put _ (some 47) _ = _
            simp only [Act.put, List.setIfInBounds_toArray, List.set_cons_zero, List.set_cons_succ, i64_w, i32_w]
            rfl
          exact norm_ (by simp only [putAll, Act.put, List.setIfInBounds_toArray, List.set_cons_zero, List.set_cons_succ, i64_w, i32_w]) (hC10 (wD.heap.size, g8) _ ⟨below_alloc BD.out _, blk_new wD _, (show wc.heap.size ≤ wD.heap.size from BD.out.size), blk_alloc K20.out _, (show wc.heap.size ≤ g8 from G20.out), (show wD.heap.size ≠ g8 from Nat.ne_of_gt (blk_lt K20.out))⟩)
      refine join_ (σ := Nat) 8 (bl 22 257659) (fun s_ => [(30, .pointer (some ⟨gw, 0, none⟩)), (33, .pointer (some ⟨gw, 1, none⟩)), (39, .pointer (some ⟨gw, 1, none⟩)), (43, .pointer (some ⟨gw, 1, none⟩)), (31, .slice X1 stem.length d1), (34, .slice (some adr) loop.length d2), (35, .pointer (some adr)), (36, .slice Ar r0.length cr), (40, .slice (some adr) loop.length d2), (41, .slice Y (loop.length - 1) (d2 - 1)), (44, .slice (some adr) loop.length d2), (45, .pointer (some adr)), (46, .slice Ar r0.length cr), (47, (.slice (some ⟨s_, 0, none⟩) 1 1))]) (fun s_ w' => (Below wc.heap.size wc w') ∧ (w'.heap[s_]? = some (.cells #[.slice Ar r0.length cr] 30 (0, 0))) ∧ (wc.heap.size ≤ s_)) ?_ (fun hC3 => ?_)
      · rintro q2 wD ⟨BD_, K17_, G17_⟩
        have BD := Aside0.mk (show Below wc.heap.size wc wD from BD_)
        have K17 := Aside0.mk (show wD.heap[q2]? = some (.cells #[.slice Ar r0.length cr] 30 (0, 0)) from K17_)
        have G17 := Aside0.mk (show wc.heap.size ≤ q2 from G17_)
        clear BD_ K17_ G17_
        refine norm_ (a' := ?_) ?_ ?_
        rotate_left
        · simp only [putAll, Act.put, List.setIfInBounds_toArray, List.set_cons_zero, List.set_cons_succ, i64_w, i32_w]
          rfl
        refine three_ (i := 2) (j := 7) (k := 20) (Ni := some 32) (Nj := some 37) (Nk := some 8) (bl 22 257663) (bl 22 257787) (bl 22 1306235) rfl rfl rfl rfl rfl rfl (three_of HT_.out (by kernel_rfl)) (by decide) (by decide) (by decide) (fun K hK => ?_) (fun K hK => ?_) (fun K hK => ?_)
        · skip
          refine Kd.N_append_rows_step (Kd.slice 4 Kd.bool) (w0 := wc) wc.heap.size (by rfl) (.const (.slice none 0 0)) (.tmp 31) 41 30 (.slice none 0 0) 24 (by rfl) Tryd.underlying41 infoR rfl (by decide) (by omega) (.slice none 0 0) ([] : List (List Bool)) (stem) X1 (stem.length) (d1) (fun k => k < wc.heap.size ∨ wD.heap.size ≤ k) (fun k => True ∧ k < wc.heap.size) (by rfl) (by rfl) (Kd.N_nil _ _ _ _ _) (Kd.F_step FS.out (fun k _ hk => BD.out.block k hk)) (fun k hk => ⟨.inl hk.2, by simp [Value.ownBlock]⟩) (fun k hk => .inr hk) BD.out BD.out.size (by have := LB.out; simp only [List.length_nil]; omega) ?_
          intro va w1 hra hba hga hata
          rw [List.nil_append] at hra
          obtain ⟨oa, ho⟩ : ∃ o_ : Nat → Prop, o_ = (fun k => (k < wc.heap.size ∨ wD.heap.size ≤ k) ∧ k < w1.heap.size) := ⟨_, rfl⟩
          have hoI : ∀ k, oa k → (k < wc.heap.size ∨ wD.heap.size ≤ k) ∧ k < w1.heap.size := fun k h => by rw [ho] at h; exact h
          have hn := Kd.N_bound hra
          rw [← ho] at hn
          refine hK.out _ _ ⟨(pw_cell_below (hba) k0), (pw_cell_below (hba) k1), (pw_cell_below (hba) hxc)⟩ (fun hHeld => ?_)
          clear hK K
          refine norm_ (a' := ?_) ?_ ?_
          rotate_left
          · show Act.put _ (some 32) _ = _
            simp only [Act.put, List.setIfInBounds_toArray, List.set_cons_zero, List.set_cons_succ, i64_w, i32_w]
            rfl
          exact norm_ (by simp only [putAll, Act.put, List.setIfInBounds_toArray, List.set_cons_zero, List.set_cons_succ, i64_w, i32_w]) (hC6 (va, oa, q2) _ ⟨hba, hn, fun k h => (hoI k h).2, blk_grown K17.out hga (by simp [Value.ownBlock]), (show wc.heap.size ≤ q2 from G17.out), (show ¬ oa q2 from fun h => by have h1 := hoI _ h; have h2 := G17.out; have h3 := blk_lt K17.out; omega)⟩)
        · skip
          refine value_ (w1 := ?_) (v := ?_) (by rfl) rfl ?_ ?_
          rotate_left 2
          · go_simp
            constructor
            · rfl
            · rfl
          refine hK.out _ _ ⟨(pw_cell_below (below_alloc BD.out _) k0), (pw_cell_below (below_alloc BD.out _) k1), (pw_cell_below (below_alloc BD.out _) hxc)⟩ (fun hHeld => ?_)
          clear hK K
          refine norm_ (a' := ?_) ?_ ?_
          rotate_left
          · show Act.put _ (some 37) _ = _
            simp only [Act.put, List.setIfInBounds_toArray, List.set_cons_zero, List.set_cons_succ, i64_w, i32_w]
            rfl
          exact norm_ (by simp only [putAll, Act.put, List.setIfInBounds_toArray, List.set_cons_zero, List.set_cons_succ, i64_w, i32_w]) (hC8 (wD.heap.size, q2) _ ⟨below_alloc BD.out _, blk_new wD _, (show wc.heap.size ≤ wD.heap.size from BD.out.size), blk_alloc K17.out _, (show wc.heap.size ≤ q2 from G17.out), (show wD.heap.size ≠ q2 from Nat.ne_of_gt (blk_lt K17.out))⟩)
        · skip
          refine value_ (w1 := ?_) (v := ?_) (by rfl) rfl ?_ ?_
          rotate_left 2
          · go_simp
            constructor
            · rfl
            · rfl
          refine hK.out _ _ ⟨(pw_cell_below (below_alloc BD.out _) k0), (pw_cell_below (below_alloc BD.out _) k1), (pw_cell_below (below_alloc BD.out _) hxc)⟩ (fun hHeld => ?_)
          clear hK K
          refine norm_ (a' := ?_) ?_ ?_
          rotate_left
          · show Act.put _ (some 8) _ = _
            simp only [Act.put, List.setIfInBounds_toArray, List.set_cons_zero, List.set_cons_succ, i64_w, i32_w]
            rfl
          exact norm_ (by simp only [putAll, Act.put, List.setIfInBounds_toArray, List.set_cons_zero, List.set_cons_succ, i64_w, i32_w]) (hC10 (q2, wD.heap.size) _ ⟨below_alloc BD.out _, blk_alloc K17.out _, (show wc.heap.size ≤ q2 from G17.out), blk_new wD _, (show wc.heap.size ≤ wD.heap.size from BD.out.size), (show q2 ≠ wD.heap.size from Nat.ne_of_lt (blk_lt K17.out))⟩)
      refine join_ (σ := Nat) 8 (bl 22 126715) (fun s_ => [(30, .pointer (some ⟨gw, 0, none⟩)), (33, .pointer (some ⟨gw, 1, none⟩)), (39, .pointer (some ⟨gw, 1, none⟩)), (43, .pointer (some ⟨gw, 1, none⟩)), (31, .slice X1 stem.length d1), (34, .slice (some adr) loop.length d2), (35, .pointer (some adr)), (36, .slice Ar r0.length cr), (40, .slice (some adr) loop.length d2), (41, .slice Y (loop.length - 1) (d2 - 1)), (44, .slice (some adr) loop.length d2), (45, .pointer (some adr)), (46, .slice Ar r0.length cr), (37, (.slice (some ⟨s_, 0, none⟩) 1 1))]) (fun s_ w' => (Below wc.heap.size wc w') ∧ (w'.heap[s_]? = some (.cells #[.slice Ar r0.length cr] 30 (0, 0))) ∧ (wc.heap.size ≤ s_)) ?_ (fun hC2 => ?_)
      · rintro q1 wD ⟨BD_, K7_, G7_⟩
        have BD := Aside0.mk (show Below wc.heap.size wc wD from BD_)
        have K7 := Aside0.mk (show wD.heap[q1]? = some (.cells #[.slice Ar r0.length cr] 30 (0, 0)) from K7_)
        have G7 := Aside0.mk (show wc.heap.size ≤ q1 from G7_)
        clear BD_ K7_ G7_
        refine norm_ (a' := ?_) ?_ ?_
        rotate_left
        · simp only [putAll, Act.put, List.setIfInBounds_toArray, List.set_cons_zero, List.set_cons_succ, i64_w, i32_w]
          rfl
        refine three_ (i := 2) (j := 17) (k := 20) (Ni := some 32) (Nj := some 47) (Nk := some 8) (bl 22 126719) (bl 22 257787) (bl 22 1175291) rfl rfl rfl rfl rfl rfl (three_of HT_.out (by kernel_rfl)) (by decide) (by decide) (by decide) (fun K hK => ?_) (fun K hK => ?_) (fun K hK => ?_)
        · skip
          refine Kd.N_append_rows_step (Kd.slice 4 Kd.bool) (w0 := wc) wc.heap.size (by rfl) (.const (.slice none 0 0)) (.tmp 31) 41 30 (.slice none 0 0) 24 (by rfl) Tryd.underlying41 infoR rfl (by decide) (by omega) (.slice none 0 0) ([] : List (List Bool)) (stem) X1 (stem.length) (d1) (fun k => k < wc.heap.size ∨ wD.heap.size ≤ k) (fun k => True ∧ k < wc.heap.size) (by rfl) (by rfl) (Kd.N_nil _ _ _ _ _) (Kd.F_step FS.out (fun k _ hk => BD.out.block k hk)) (fun k hk => ⟨.inl hk.2, by simp [Value.ownBlock]⟩) (fun k hk => .inr hk) BD.out BD.out.size (by have := LB.out; simp only [List.length_nil]; omega) ?_
          intro va w1 hra hba hga hata
          rw [List.nil_append] at hra
          obtain ⟨oa, ho⟩ : ∃ o_ : Nat → Prop, o_ = (fun k => (k < wc.heap.size ∨ wD.heap.size ≤ k) ∧ k < w1.heap.size) := ⟨_, rfl⟩
          have hoI : ∀ k, oa k → (k < wc.heap.size ∨ wD.heap.size ≤ k) ∧ k < w1.heap.size := fun k h => by rw [ho] at h; exact h
          have hn := Kd.N_bound hra
          rw [← ho] at hn
          refine hK.out _ _ ⟨(pw_cell_below (hba) k0), (pw_cell_below (hba) k1), (pw_cell_below (hba) hxc)⟩ (fun hHeld => ?_)
          clear hK K
          refine norm_ (a' := ?_) ?_ ?_
          rotate_left
          · show Act.put _ (some 32) _ = _
            simp only [Act.put, List.setIfInBounds_toArray, List.set_cons_zero, List.set_cons_succ, i64_w, i32_w]
            rfl
          exact norm_ (by simp only [putAll, Act.put, List.setIfInBounds_toArray, List.set_cons_zero, List.set_cons_succ, i64_w, i32_w]) (hC5 (va, oa, q1) _ ⟨hba, hn, fun k h => (hoI k h).2, blk_grown K7.out hga (by simp [Value.ownBlock]), (show wc.heap.size ≤ q1 from G7.out), (show ¬ oa q1 from fun h => by have h1 := hoI _ h; have h2 := G7.out; have h3 := blk_lt K7.out; omega)⟩)
        · skip
          refine value_ (w1 := ?_) (v := ?_) (by rfl) rfl ?_ ?_
          rotate_left 2
          · go_simp
            constructor
            · rfl
            · rfl
          refine hK.out _ _ ⟨(pw_cell_below (below_alloc BD.out _) k0), (pw_cell_below (below_alloc BD.out _) k1), (pw_cell_below (below_alloc BD.out _) hxc)⟩ (fun hHeld => ?_)
          clear hK K
          refine norm_ (a' := ?_) ?_ ?_
          rotate_left
          · show Act.put _ (some 47) _ = _
            simp only [Act.put, List.setIfInBounds_toArray, List.set_cons_zero, List.set_cons_succ, i64_w, i32_w]
            rfl
          exact norm_ (by simp only [putAll, Act.put, List.setIfInBounds_toArray, List.set_cons_zero, List.set_cons_succ, i64_w, i32_w]) (hC8 (q1, wD.heap.size) _ ⟨below_alloc BD.out _, blk_alloc K7.out _, (show wc.heap.size ≤ q1 from G7.out), blk_new wD _, (show wc.heap.size ≤ wD.heap.size from BD.out.size), (show q1 ≠ wD.heap.size from Nat.ne_of_lt (blk_lt K7.out))⟩)
        · skip
          refine value_ (w1 := ?_) (v := ?_) (by rfl) rfl ?_ ?_
          rotate_left 2
          · go_simp
            constructor
            · rfl
            · rfl
          refine hK.out _ _ ⟨(pw_cell_below (below_alloc BD.out _) k0), (pw_cell_below (below_alloc BD.out _) k1), (pw_cell_below (below_alloc BD.out _) hxc)⟩ (fun hHeld => ?_)
          clear hK K
          refine norm_ (a' := ?_) ?_ ?_
          rotate_left
          · show Act.put _ (some 8) _ = _
            simp only [Act.put, List.setIfInBounds_toArray, List.set_cons_zero, List.set_cons_succ, i64_w, i32_w]
            rfl
          exact norm_ (by simp only [putAll, Act.put, List.setIfInBounds_toArray, List.set_cons_zero, List.set_cons_succ, i64_w, i32_w]) (hC9 (q1, wD.heap.size) _ ⟨below_alloc BD.out _, blk_alloc K7.out _, (show wc.heap.size ≤ q1 from G7.out), blk_new wD _, (show wc.heap.size ≤ wD.heap.size from BD.out.size), (show q1 ≠ wD.heap.size from Nat.ne_of_lt (blk_lt K7.out))⟩)
      refine join_ (σ := Value × (Nat → Prop)) 8 (bl 22 126591) (fun s_ => [(30, .pointer (some ⟨gw, 0, none⟩)), (33, .pointer (some ⟨gw, 1, none⟩)), (39, .pointer (some ⟨gw, 1, none⟩)), (43, .pointer (some ⟨gw, 1, none⟩)), (31, .slice X1 stem.length d1), (34, .slice (some adr) loop.length d2), (35, .pointer (some adr)), (36, .slice Ar r0.length cr), (40, .slice (some adr) loop.length d2), (41, .slice Y (loop.length - 1) (d2 - 1)), (44, .slice (some adr) loop.length d2), (45, .pointer (some adr)), (46, .slice Ar r0.length cr), (32, s_.1)]) (fun s_ w' => (Below wc.heap.size wc w') ∧ (Kd.N (Kd.slice 4 Kd.bool) 30 w' wc.heap.size s_.2 s_.1 (stem)) ∧ (∀ k, s_.2 k → k < w'.heap.size)) ?_ (fun hC1 => ?_)
      · rintro ⟨va, oa⟩ wD ⟨BD_, N2_, OB2_⟩
        have BD := Aside0.mk (show Below wc.heap.size wc wD from BD_)
        have N2 := Aside0.mk (show Kd.N (Kd.slice 4 Kd.bool) 30 wD wc.heap.size oa va (stem) from N2_)
        have OB2 := Aside0.mk (show ∀ k, oa k → k < wD.heap.size from OB2_)
        clear BD_ N2_ OB2_
        refine norm_ (a' := ?_) ?_ ?_
        rotate_left
        · simp only [putAll, Act.put, List.setIfInBounds_toArray, List.set_cons_zero, List.set_cons_succ, i64_w, i32_w]
          rfl
        refine three_ (i := 7) (j := 17) (k := 20) (Ni := some 37) (Nj := some 47) (Nk := some 8) (bl 22 126719) (bl 22 257663) (bl 22 1175167) rfl rfl rfl rfl rfl rfl (three_of HT_.out (by kernel_rfl)) (by decide) (by decide) (by decide) (fun K hK => ?_) (fun K hK => ?_) (fun K hK => ?_)
        · skip
          refine value_ (w1 := ?_) (v := ?_) (by rfl) rfl ?_ ?_
          rotate_left 2
          · go_simp
            constructor
            · rfl
            · rfl
          refine hK.out _ _ ⟨(pw_cell_below (below_alloc BD.out _) k0), (pw_cell_below (below_alloc BD.out _) k1), (pw_cell_below (below_alloc BD.out _) hxc)⟩ (fun hHeld => ?_)
          clear hK K
          refine norm_ (a' := ?_) ?_ ?_
          rotate_left
          · show Act.put _ (some 37) _ = _
            simp only [Act.put, List.setIfInBounds_toArray, List.set_cons_zero, List.set_cons_succ, i64_w, i32_w]
            rfl
          exact norm_ (by simp only [putAll, Act.put, List.setIfInBounds_toArray, List.set_cons_zero, List.set_cons_succ, i64_w, i32_w]) (hC5 (va, oa, wD.heap.size) _ ⟨below_alloc BD.out _, Kd.N_alloc N2.out _, fun k h => Nat.lt_trans (OB2.out k h) (by rw [World.size_alloc]; exact Nat.lt_succ_self _), blk_new wD _, (show wc.heap.size ≤ wD.heap.size from BD.out.size), (show ¬ oa wD.heap.size from fun h => Nat.lt_irrefl _ (OB2.out _ h))⟩)
        · skip
          refine value_ (w1 := ?_) (v := ?_) (by rfl) rfl ?_ ?_
          rotate_left 2
          · go_simp
            constructor
            · rfl
            · rfl
          refine hK.out _ _ ⟨(pw_cell_below (below_alloc BD.out _) k0), (pw_cell_below (below_alloc BD.out _) k1), (pw_cell_below (below_alloc BD.out _) hxc)⟩ (fun hHeld => ?_)
          clear hK K
          refine norm_ (a' := ?_) ?_ ?_
          rotate_left
          · show Act.put _ (some 47) _ = _
            simp only [Act.put, List.setIfInBounds_toArray, List.set_cons_zero, List.set_cons_succ, i64_w, i32_w]
            rfl
          exact norm_ (by simp only [putAll, Act.put, List.setIfInBounds_toArray, List.set_cons_zero, List.set_cons_succ, i64_w, i32_w]) (hC6 (va, oa, wD.heap.size) _ ⟨below_alloc BD.out _, Kd.N_alloc N2.out _, fun k h => Nat.lt_trans (OB2.out k h) (by rw [World.size_alloc]; exact Nat.lt_succ_self _), blk_new wD _, (show wc.heap.size ≤ wD.heap.size from BD.out.size), (show ¬ oa wD.heap.size from fun h => Nat.lt_irrefl _ (OB2.out _ h))⟩)
        · skip
          refine value_ (w1 := ?_) (v := ?_) (by rfl) rfl ?_ ?_
          rotate_left 2
          · go_simp
            constructor
            · rfl
            · rfl
          refine hK.out _ _ ⟨(pw_cell_below (below_alloc BD.out _) k0), (pw_cell_below (below_alloc BD.out _) k1), (pw_cell_below (below_alloc BD.out _) hxc)⟩ (fun hHeld => ?_)
          clear hK K
          refine norm_ (a' := ?_) ?_ ?_
          rotate_left
          · show Act.put _ (some 8) _ = _
            simp only [Act.put, List.setIfInBounds_toArray, List.set_cons_zero, List.set_cons_succ, i64_w, i32_w]
            rfl
          exact norm_ (by simp only [putAll, Act.put, List.setIfInBounds_toArray, List.set_cons_zero, List.set_cons_succ, i64_w, i32_w]) (hC7 (va, oa, wD.heap.size) _ ⟨below_alloc BD.out _, Kd.N_alloc N2.out _, fun k h => Nat.lt_trans (OB2.out k h) (by rw [World.size_alloc]; exact Nat.lt_succ_self _), blk_new wD _, (show wc.heap.size ≤ wD.heap.size from BD.out.size), (show ¬ oa wD.heap.size from fun h => Nat.lt_irrefl _ (OB2.out _ h))⟩)
      refine join_ (σ := Unit) 9 (bl 22 126587) (fun s_ => [(30, .pointer (some ⟨gw, 0, none⟩)), (33, .pointer (some ⟨gw, 1, none⟩)), (39, .pointer (some ⟨gw, 1, none⟩)), (43, .pointer (some ⟨gw, 1, none⟩)), (31, .slice X1 stem.length d1), (34, .slice (some adr) loop.length d2), (35, .pointer (some adr)), (36, .slice Ar r0.length cr), (40, .slice (some adr) loop.length d2), (41, .slice Y (loop.length - 1) (d2 - 1)), (44, .slice (some adr) loop.length d2), (45, .pointer (some adr)), (46, .slice Ar r0.length cr)]) (fun s_ w' => (Below wc.heap.size wc w')) ?_ (fun hC0 => ?_)
      · rintro ⟨⟩ wD BD_
        have BD := Aside0.mk (show Below wc.heap.size wc wD from BD_)
        clear BD_
        refine norm_ (a' := ?_) ?_ ?_
        rotate_left
        · simp only [putAll, Act.put, List.setIfInBounds_toArray, List.set_cons_zero, List.set_cons_succ, i64_w, i32_w]
          rfl
        refine four_ (i := 2) (j := 7) (k := 17) (m := 20) (Ni := some 32) (Nj := some 37) (Nk := some 47) (Nm := some 8) (bl 22 126591) (bl 22 126715) (bl 22 257659) (bl 22 1175163) rfl rfl rfl rfl rfl rfl rfl rfl (four_of HT_.out (by kernel_rfl)) (by decide) (by decide) (by decide) (by decide) (fun K hK => ?_) (fun K hK => ?_) (fun K hK => ?_) (fun K hK => ?_)
        · skip
          refine Kd.N_append_rows_step (Kd.slice 4 Kd.bool) (w0 := wc) wc.heap.size (by rfl) (.const (.slice none 0 0)) (.tmp 31) 41 30 (.slice none 0 0) 24 (by rfl) Tryd.underlying41 infoR rfl (by decide) (by omega) (.slice none 0 0) ([] : List (List Bool)) (stem) X1 (stem.length) (d1) (fun k => k < wc.heap.size ∨ wD.heap.size ≤ k) (fun k => True ∧ k < wc.heap.size) (by rfl) (by rfl) (Kd.N_nil _ _ _ _ _) (Kd.F_step FS.out (fun k _ hk => BD.out.block k hk)) (fun k hk => ⟨.inl hk.2, by simp [Value.ownBlock]⟩) (fun k hk => .inr hk) BD.out BD.out.size (by have := LB.out; simp only [List.length_nil]; omega) ?_
          intro va w1 hra hba hga hata
          rw [List.nil_append] at hra
          obtain ⟨oa, ho⟩ : ∃ o_ : Nat → Prop, o_ = (fun k => (k < wc.heap.size ∨ wD.heap.size ≤ k) ∧ k < w1.heap.size) := ⟨_, rfl⟩
          have hoI : ∀ k, oa k → (k < wc.heap.size ∨ wD.heap.size ≤ k) ∧ k < w1.heap.size := fun k h => by rw [ho] at h; exact h
          have hn := Kd.N_bound hra
          rw [← ho] at hn
          refine hK.out _ _ ⟨(pw_cell_below (hba) k0), (pw_cell_below (hba) k1), (pw_cell_below (hba) hxc)⟩ (fun hHeld => ?_)
          clear hK K
          refine norm_ (a' := ?_) ?_ ?_
          rotate_left
          · show Act.put _ (some 32) _ = _
            simp only [Act.put, List.setIfInBounds_toArray, List.set_cons_zero, List.set_cons_succ, i64_w, i32_w]
            rfl
          exact norm_ (by simp only [putAll, Act.put, List.setIfInBounds_toArray, List.set_cons_zero, List.set_cons_succ, i64_w, i32_w]) (hC1 (va, oa) _ ⟨hba, hn, fun k h => (hoI k h).2⟩)
        · skip
          refine value_ (w1 := ?_) (v := ?_) (by rfl) rfl ?_ ?_
          rotate_left 2
          · go_simp
            constructor
            · rfl
            · rfl
          refine hK.out _ _ ⟨(pw_cell_below (below_alloc BD.out _) k0), (pw_cell_below (below_alloc BD.out _) k1), (pw_cell_below (below_alloc BD.out _) hxc)⟩ (fun hHeld => ?_)
          clear hK K
          refine norm_ (a' := ?_) ?_ ?_
          rotate_left
          · show Act.put _ (some 37) _ = _
            simp only [Act.put, List.setIfInBounds_toArray, List.set_cons_zero, List.set_cons_succ, i64_w, i32_w]
            rfl
          exact norm_ (by simp only [putAll, Act.put, List.setIfInBounds_toArray, List.set_cons_zero, List.set_cons_succ, i64_w, i32_w]) (hC2 wD.heap.size _ ⟨below_alloc BD.out _, blk_new wD _, (show wc.heap.size ≤ wD.heap.size from BD.out.size)⟩)
        · skip
          refine value_ (w1 := ?_) (v := ?_) (by rfl) rfl ?_ ?_
          rotate_left 2
          · go_simp
            constructor
            · rfl
            · rfl
          refine hK.out _ _ ⟨(pw_cell_below (below_alloc BD.out _) k0), (pw_cell_below (below_alloc BD.out _) k1), (pw_cell_below (below_alloc BD.out _) hxc)⟩ (fun hHeld => ?_)
          clear hK K
          refine norm_ (a' := ?_) ?_ ?_
          rotate_left
          · show Act.put _ (some 47) _ = _
            simp only [Act.put, List.setIfInBounds_toArray, List.set_cons_zero, List.set_cons_succ, i64_w, i32_w]
            rfl
          exact norm_ (by simp only [putAll, Act.put, List.setIfInBounds_toArray, List.set_cons_zero, List.set_cons_succ, i64_w, i32_w]) (hC3 wD.heap.size _ ⟨below_alloc BD.out _, blk_new wD _, (show wc.heap.size ≤ wD.heap.size from BD.out.size)⟩)
        · skip
          refine value_ (w1 := ?_) (v := ?_) (by rfl) rfl ?_ ?_
          rotate_left 2
          · go_simp
            constructor
            · rfl
            · rfl
          refine hK.out _ _ ⟨(pw_cell_below (below_alloc BD.out _) k0), (pw_cell_below (below_alloc BD.out _) k1), (pw_cell_below (below_alloc BD.out _) hxc)⟩ (fun hHeld => ?_)
          clear hK K
          refine norm_ (a' := ?_) ?_ ?_
          rotate_left
          · show Act.put _ (some 8) _ = _
            simp only [Act.put, List.setIfInBounds_toArray, List.set_cons_zero, List.set_cons_succ, i64_w, i32_w]
            rfl
          exact norm_ (by simp only [putAll, Act.put, List.setIfInBounds_toArray, List.set_cons_zero, List.set_cons_succ, i64_w, i32_w]) (hC4 wD.heap.size _ ⟨below_alloc BD.out _, blk_new wD _, (show wc.heap.size ≤ wD.heap.size from BD.out.size)⟩)
      refine puQ 0 (some 30) (bl 22 1) ?_
      refine puQ 3 (some 33) (bl 22 9) ?_
      refine puQ 9 (some 39) (bl 22 521) ?_
      refine puQ 13 (some 43) (bl 22 8713) ?_
      refine taQ 1 (some 31) (bl 22 8715) hHeld ?_
      refine taQ 4 (some 34) (bl 22 8731) hHeld ?_
      refine puQ 5 (some 35) (bl 22 8763) ?_
      refine taQ 6 (some 36) (bl 22 8827) hHeld ?_
      refine taQ 10 (some 40) (bl 22 9851) hHeld ?_
      refine puQ 11 (some 41) (bl 22 11899) ?_
      refine taQ 14 (some 44) (bl 22 28283) hHeld ?_
      refine puQ 15 (some 45) (bl 22 61051) ?_
      refine taQ 16 (some 46) (bl 22 126587) hHeld ?_
      exact norm_ (by simp only [putAll, Act.put, List.setIfInBounds_toArray, List.set_cons_zero, List.set_cons_succ, i64_w, i32_w]) (hC0 () _ (below_drew (Below.refl _ _)))
    case rest =>
      obtain ⟨g8, Y3, Y4, e3, e4, rfl, HC, HV1, HV2⟩ := hcut
      clear k0 k1 hxc HA HV HFY FS HFR q0 q1 hcut
      have HA := HC
      clear HC
      have hmem : ∀ x : List Bool, x ∈ loop → x.length = 3 := fun x hx => ZZ.out.2.2.2 x (List.mem_append_right _ hx)
      have hmes : ∀ x : List Bool, x ∈ stem → x.length = 3 := fun x hx => ZZ.out.2.2.2 x (List.mem_append_left _ hx)
      have hr3 : r0.length = 3 := hmem r0 (by rw [← HR0.out, List.getD_eq_getElem?_getD, List.getElem?_eq_getElem hlp]; exact List.getElem_mem _)
      have WO2 := Aside0.mk (show WordOk 3 stem L2 from ok_of (by have := ZZ.out.1; omega) (by rw [← HL2.out, List.length_append]; omega) (by have := ZZ.out.2.2.1; rw [← HL2.out, List.length_append]; omega) (fun x hx => by
        rw [← HL2.out] at hx
        rcases List.mem_append.1 hx with hx | hx
        · exact hmes x hx
        · exact (List.mem_append.1 hx).elim (hmem x) (hmem x)))
      have WO3 := Aside0.mk (show WordOk 3 S1 D1 from ok_of (by have := ZZ.out.1; rw [← HS1.out, List.length_append, List.length_singleton]; omega) (by rw [← HD1.out, List.length_append, List.length_singleton]; omega) (by have := ZZ.out.2.2.1; rw [← HD1.out, List.length_append, List.length_singleton, List.length_drop]; omega) (fun x hx => by
        rw [← HD1.out, ← HS1.out] at hx
        rcases List.mem_append.1 hx with hx | hx
        · rcases List.mem_append.1 hx with hx | hx
          · exact hmes x hx
          · rw [List.mem_singleton.1 hx]; exact hr3
        · rcases List.mem_append.1 hx with hx | hx
          · exact hmem x (List.mem_of_mem_drop hx)
          · rw [List.mem_singleton.1 hx]; exact hr3))
      have ET := Aside0.mk (show uw (stem ++ L2) stem.length 0 = uw (stem ++ loop) stem.length 0 from by rw [← HL2.out]; exact twice_is LP.out)
      have EU := Aside0.mk (show uw (S1 ++ D1) S1.length 0 = uw (stem ++ loop) stem.length 0 from by rw [← HS1.out, ← HD1.out, ← HR0.out]; exact turned_is LP.out)
      clear hmem hmes hr3 hlp
      have k0 := HA.out.c0
      have k1 := HA.out.c1'
      go_upto_region 6 with (go_at_call 25; go_must (refine (holds_sem (t := f) WO.out HA.out (Below.refl _ _) (HA.out.get (List.Mem.head _)) ⟨Gf.out.1, (by have := Gf.out.2.1; have := Gf.out.2.2; (try simp only [Tm.size]); omega), (by have := Gf.out.2.1; have := Gf.out.2.2; (try simp [Tm.tempo]); omega)⟩).mono ?_; rintro e u1 ⟨v_u1, rfl, hv, ha, hb⟩; have HP := Aside0.mk hv; replace HV1 := Aside0.mk (HV1.out.below hb); replace HV2 := Aside0.mk (HV2.out.below hb); replace HA := Aside0.mk ha; have z0 := HV1.out.c0; have z1 := HV1.out.c1'; clear hv ha hb k0 k1))
      go_upto_region 7 with (go_at_call 25; go_must (refine (holds_sem (t := f) WO2.out HV1.out (Below.refl _ _) (HV1.out.get (List.Mem.head _)) ⟨Gf.out.1, (by have := Gf.out.2.1; have := Gf.out.2.2; (try simp only [Tm.size]); omega), (by have := Gf.out.2.1; have := Gf.out.2.2; (try simp [Tm.tempo]); omega)⟩).mono ?_; rintro e u2 ⟨v_u2, rfl, hv, ha, hb⟩; obtain rfl : v_u2 = v_u1 := Bool.eq_iff_iff.mpr (hv.trans (by rw [ET.out]; exact HP.out.symm)); replace HA := Aside0.mk (HA.out.below hb); replace HV2 := Aside0.mk (HV2.out.below hb); have z2 := HV2.out.c0; have z3 := HV2.out.c1'; clear hv ha hb z0 z1))
      go_upto_region 8 with (go_at_call 25; go_must (refine (holds_sem (t := f) WO3.out HV2.out (Below.refl _ _) (HV2.out.get (List.Mem.head _)) ⟨Gf.out.1, (by have := Gf.out.2.1; have := Gf.out.2.2; (try simp only [Tm.size]); omega), (by have := Gf.out.2.1; have := Gf.out.2.2; (try simp [Tm.tempo]); omega)⟩).mono ?_; rintro e u3 ⟨v_u3, rfl, hv, ha, hb⟩; obtain rfl : v_u3 = v_u2 := Bool.eq_iff_iff.mpr (hv.trans (by rw [EU.out]; exact HP.out.symm)); replace HA := Aside0.mk (HA.out.below hb); clear hv ha hb z2 z3))
      have k2 : ∀ o, (u3.alloc o).cell? ⟨gw, 0, none⟩ = some (.slice X1 stem.length d1) := fun o => (HA.out.below (below_alloc (Below.refl _ _) o)).c0
      have k3 : ∀ o, (u3.alloc o).cell? ⟨gw, 1, none⟩ = some (.slice (some adr) loop.length d2) := fun o => (HA.out.below (below_alloc (Below.refl _ _) o)).c1'
      go_wp2_with (go_at_call 25; go_must (refine (holds_sem (t := .leaf ⟨11, 0⟩) WO.out (HA.out.below (below_alloc (Below.refl _ _) _)) (Below.refl _ _) (trm_lit (blk_new _ _)) ⟨.yes 11 (.inl rfl), by decide, by decide⟩).mono ?_; rintro e w9 ⟨v9, rfl, hv, ha, _⟩; obtain rfl : v9 = true := hv.mpr rfl; have B9 := Aside0.mk ha.bel; clear hv ha))
      go_ret
      exact ⟨rfl, B9.out⟩
end Go.Proofs.YtcoaeefmmnohkaaDoor.P
