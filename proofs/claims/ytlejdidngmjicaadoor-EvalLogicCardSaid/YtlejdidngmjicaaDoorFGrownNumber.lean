-- a walk, laid out by a program of this repo over the seat's translation
import Derived.Test.YtlejdidngmjicaaDoorF0
import Derived.Test.YtlejdidngmjicaaDoorFForetellkeepPicked
import Derived.Test.YtlejdidngmjicaaDoorFGrownTake
import Derived.Test.YtlejdidngmjicaaDoorFGrownPut
import Derived.Test.YtlejdidngmjicaaDoorFGrownTake
import Derived.Test.YtlejdidngmjicaaDoorFGrownPut
import Derived.WalkSpells
import Derived.StillTailTactics
namespace Go.Proofs.YtlejdidngmjicaaDoor.P
open Go.RowKit Go.Proofs.YtlejdidngmjicaaDoorW.PrintWords Go.Proofs.YtlejdidngmjicaaDoorW.PrintLast Go.Proofs.YtlejdidngmjicaaDoorW.PrintMore Go.Proofs.YtlejdidngmjicaaDoor.G
attribute [local go_sem] max2_int min2_int max_two min_two max_three min_three max_four min_four   -- for this text's walks alone
set_option linter.unusedVariables false
set_option linter.unusedSimpArgs false

--IMPORT FGrownTake
--IMPORT FGrownPut
--IMPORT Derived.WalkSpells
--IMPORT Derived.StillTailTactics
/-! ### grown_number: function 30 -/
def grown_number.f : Nat → List S69 → Int → GrSt → Int → Option GrSt
  | 0, _, _, _, _ => none
  | k + 1, raw, vars, st, deep => (grown_take.f raw st).bind fun r => (foretellkeep_picked.f r.1.f0 5).bind fun p5 => (if deep = 0 ∨ 14 < r.2.at_ then foretellkeep_picked.f r.1.f0 2 else some p5).bind fun op =>
      if op = 1 ∧ 0 < vars then (foretellkeep_picked.f r.1.f1 vars).bind fun v => grown_put.f r.2 2 v
      else if op < 2 then (foretellkeep_picked.f r.1.f1 9).bind fun v => grown_put.f r.2 1 (wrap64 (v - 4))
      else (grown_put.f r.2 (wrap64 (wrap64 (3 + op) - 2)) 0).bind fun s1 => (grown_number.f k raw vars s1 (wrap64 (deep - 1))).bind fun s2 => grown_number.f k raw vars s2 (wrap64 (deep - 1))
theorem grown_number.mono_f : ∀ k raw vars st deep, LeO (grown_number.f k raw vars st deep) (grown_number.f (k + 1) raw vars st deep)
  | 0, _, _, _, _ => fun r h => by simp [grown_number.f] at h
  | k + 1, raw, vars, st, deep => by
    unfold grown_number.f
    exact LeO.bind (LeO.refl _) fun _ => LeO.bind (LeO.refl _) fun _ => LeO.bind (LeO.refl _) fun _ => LeO.ite (LeO.refl _) (LeO.ite (LeO.refl _) (LeO.bind (LeO.refl _) fun _ => LeO.bind (grown_number.mono_f k _ _ _ _) fun _ => grown_number.mono_f k _ _ _ _))
theorem picked_same (a0 a1 r : Int) (w : World) (h : foretellkeep_picked.f a0 a1 = some r) : Calls Tryd.prog 16 #[.int .i64 a0, .int .i64 a1] w fun e w' => e = .returned (.int .i64 r) ∧ w' = w := by
  have H := h
  unfold foretellkeep_picked.f at H
  clear h
  by_cases c3 : a0 < 0
  · rw [if_pos c3] at H
    have c3b0 : decide (a0 < 0) = true := decide_eq_true c3
    clear c3
    by_cases c4 : a1 = 0
    · rw [if_pos c4] at H
      exact absurd H (by simp)
    · rw [if_neg c4] at H
      have c4b0 : (a1 == 0) = false := beq_eq_false_iff_ne.mpr c4
      have c4b1 : (a1 != 0) = true := bne_iff_ne.mpr c4
      obtain rfl := Option.some.inj H
      go_enter Tryd.func16, Tryd.ntmps16
      go_wp2
      go_ret
      exact ⟨by first | rfl | (simp; done) | (simp [*]; done), rfl⟩
  · rw [if_neg c3] at H
    have c3b0 : decide (a0 < 0) = false := decide_eq_false c3
    clear c3
    by_cases c5 : a1 = 0
    · rw [if_pos c5] at H
      exact absurd H (by simp)
    · rw [if_neg c5] at H
      have c5b0 : (a1 == 0) = false := beq_eq_false_iff_ne.mpr c5
      have c5b1 : (a1 != 0) = true := bne_iff_ne.mpr c5
      obtain rfl := Option.some.inj H
      go_enter Tryd.func16, Tryd.ntmps16
      go_wp2
      go_ret
      exact ⟨by first | rfl | (simp; done) | (simp [*]; done), rfl⟩
theorem GrownAt.size {w0 w : World} {g : Nat} {A : Option Addr} {n c : Nat} {vars props : Int} {st : GrSt} (h : GrownAt w0 w g A n c vars props st) : w0.heap.size ≤ w.heap.size := by
  obtain ⟨_, _, _, h⟩ := h
  exact below_size h
theorem GrownAt.lt {w0 w : World} {g : Nat} {A : Option Addr} {n c : Nat} {vars props : Int} {st : GrSt} (h : GrownAt w0 w g A n c vars props st) : g < w.heap.size := by
  obtain ⟨_, h, _, _⟩ := h
  exact blk_lt h
theorem GrownAt.c1 {w0 w : World} {g : Nat} {A : Option Addr} {n c : Nat} {vars props : Int} {st : GrSt} (h : GrownAt w0 w g A n c vars props st) : w.cell? ⟨g, 1, none⟩ = some (.int .i64 st.at_) := by
  obtain ⟨_, h, _, _⟩ := h
  exact (blk_cell h 1).trans rfl
theorem GrownAt.c2 {w0 w : World} {g : Nat} {A : Option Addr} {n c : Nat} {vars props : Int} {st : GrSt} (h : GrownAt w0 w g A n c vars props st) : w.cell? ⟨g, 2, none⟩ = some (.int .i64 vars) := by
  obtain ⟨_, h, _, _⟩ := h
  exact (blk_cell h 2).trans rfl
theorem GrownAt.c3 {w0 w : World} {g : Nat} {A : Option Addr} {n c : Nat} {vars props : Int} {st : GrSt} (h : GrownAt w0 w g A n c vars props st) : w.cell? ⟨g, 3, none⟩ = some (.int .i64 props) := by
  obtain ⟨_, h, _, _⟩ := h
  exact (blk_cell h 3).trans rfl
theorem GrownAt.c4 {w0 w : World} {g : Nat} {A : Option Addr} {n c : Nat} {vars props : Int} {st : GrSt} (h : GrownAt w0 w g A n c vars props st) : w.cell? ⟨g, 4, none⟩ = some (.int .i64 st.tempo) := by
  obtain ⟨_, h, _, _⟩ := h
  exact (blk_cell h 4).trans rfl
set_option maxHeartbeats 8000000 in
set_option maxRecDepth 100000 in
theorem grown_number.calls (w0 : World) (A : Option Addr) (c : Nat) (raw : List S69) (g : Nat) (vars props : Int) (hr : Kd.C k69 w0 A raw.length raw) (bg : w0.heap.size ≤ g) (k : Nat) : ∀ (st : GrSt) (deep : Int) (st' : GrSt) (w : World) (hv : GrownAt w0 w g A raw.length c vars props st) (h : grown_number.f k raw vars st deep = some st'),
    Calls Tryd.prog 30 #[.pointer (some ⟨g, 0, none⟩), .int .i64 deep] w fun e w' => e = .returned (.tuple #[]) ∧ GrownAt w0 w' g A raw.length c vars props st' := by
  have R0 := Aside0.mk hr
  have BG := Aside0.mk bg
  clear hr bg
  induction k with
  | zero =>
    intro st deep st' w hv h
    exact absurd h (by simp [grown_number.f])
  | succ k ih =>
    intro st deep st' w hv h
    have HV := Aside0.mk hv
    clear hv
    simp only [grown_number.f] at h
    obtain ⟨⟨r, s1⟩, h1, h⟩ := Option.bind_eq_some_iff.mp h
    obtain ⟨p5, h2, h⟩ := Option.bind_eq_some_iff.mp h
    obtain ⟨op, h3, h⟩ := Option.bind_eq_some_iff.mp h
    have H1 := Aside0.mk h1
    have H2 := Aside0.mk h2
    clear h1 h2
    simp only [] at h h3
    have hop : (op = 1 ∧ 0 < vars ∧ ((foretellkeep_picked.f r.f1 vars).bind fun v => grown_put.f s1 2 v) = some st') ∨ (((op == 1) = false ∨ ((op == 1) = true ∧ decide (vars > 0) = false)) ∧ decide (op < 2) = true ∧ ((foretellkeep_picked.f r.f1 9).bind fun v => grown_put.f s1 1 (wrap64 (v - 4))) = some st') ∨ ((op == 1) = false ∧ decide (op < 2) = false ∧ ((grown_put.f s1 (wrap64 (wrap64 (3 + op) - 2)) 0).bind fun s1 => (grown_number.f k raw vars s1 (wrap64 (deep - 1))).bind fun s2 => grown_number.f k raw vars s2 (wrap64 (deep - 1))) = some st') := by
      by_cases d1 : op = 1 ∧ 0 < vars
      · rw [if_pos d1] at h
        exact .inl ⟨d1.1, d1.2, h⟩
      · rw [if_neg d1] at h
        by_cases d2 : op < 2
        · rw [if_pos d2] at h
          refine .inr (.inl ⟨?_, decide_eq_true d2, h⟩)
          by_cases d3 : op = 1
          · exact .inr ⟨beq_iff_eq.mpr d3, decide_eq_false (fun h0 => d1 ⟨d3, h0⟩)⟩
          · exact .inl (beq_eq_false_iff_ne.mpr d3)
        · rw [if_neg d2] at h
          exact .inr (.inr ⟨beq_eq_false_iff_ne.mpr (by omega), decide_eq_false d2, h⟩)
    have hdp : (((deep == 0) = true ∨ ((deep == 0) = false ∧ decide (s1.at_ > 14) = true)) ∧ foretellkeep_picked.f r.f0 2 = some op) ∨ ((deep == 0) = false ∧ decide (s1.at_ > 14) = false ∧ p5 = op) := by
      by_cases d0 : deep = 0
      · rw [if_pos (.inl d0)] at h3
        exact .inl ⟨.inl (beq_iff_eq.mpr d0), h3⟩
      · by_cases d4 : 14 < s1.at_
        · rw [if_pos (.inr d4)] at h3
          exact .inl ⟨.inr ⟨beq_eq_false_iff_ne.mpr d0, decide_eq_true d4⟩, h3⟩
        · rw [if_neg (by rintro (h0 | h0) <;> contradiction)] at h3
          exact .inr ⟨beq_eq_false_iff_ne.mpr d0, decide_eq_false d4, Option.some.inj h3⟩
    clear h h3
    rcases hop with ⟨rfl, o2, h⟩ | ⟨o1, o2, h⟩ | ⟨o1, o2, h⟩
    · obtain ⟨v, h4, h⟩ := Option.bind_eq_some_iff.mp h
      have H4 := Aside0.mk h4
      have H5 := Aside0.mk h
      clear h h4
      have o2' : decide (vars > 0) = true := decide_eq_true o2
      clear o2
      rcases hdp with ⟨(d0 | ⟨d0, d1⟩), h3⟩ | ⟨d0, d1, rfl⟩
      all_goals try (have H3 := Aside0.mk h3; clear h3)
      all_goals go_enter Tryd.func30, Tryd.ntmps30
      all_goals go_wp2_with (first | (go_at_call 36; go_must (refine (grown_take.calls w0 A c raw g vars props R0.out BG.out st r s1 _ HV.out H1.out).mono ?_; rintro e w1 ⟨rfl, hv⟩; have HV1 := Aside0.mk hv; clear hv)) | ((with_reducible refine gate_dst (N := 4) rfl ?_); go_must (refine box_event ?hg (N := 4) ?hd (cs := #[.int .i64 0, .int .i64 0]) (t := 69) ?hr ?_; (case hd => rfl); (case hg => rfl); (case hr => first | (go_simp; done) | (go_simp; rfl)); intro g4 hg w2 hbox hb; have K4 := Aside0.mk hbox; have HV2 := Aside0.mk (GrownAt.below HV1.out hb); have G4 := Aside0.mk (show w0.heap.size ≤ g4 by rw [hg]; exact HV1.out.size); have N4 : g ≠ g4 := (by rw [hg]; exact Nat.ne_of_lt HV1.out.lt); clear hb hbox hg; have h20 : w2.cell? ⟨g4, 0, none⟩ = some (.int .i64 0) := (blk_cell K4.out 0).trans rfl; have h21 : w2.cell? ⟨g4, 1, none⟩ = some (.int .i64 0) := (blk_cell K4.out 1).trans rfl; have f20 := blk_frozen K4.out 0; have f21 := blk_frozen K4.out 1)) | ((with_reducible refine gate_store (t := 69) (p := 4) (v := .tmp 7) rfl ?_); go_must (refine store_event (t := 69) (p := 4) (v := .tmp 7) (w1 := ((w2.setCell ⟨g4, 0, none⟩ (.int .i64 r.f0)).setCell ⟨g4, 1, none⟩ (.int .i64 r.f1))) ?hg ?ho ?hn ?hr ?_; (case ho => rfl); (case hg => rfl); (case hn => rfl); (case hr => first | (go_simp; done) | (go_simp; rfl)); intro w3 hw; have K43 := Aside0.mk (show w3.heap[g4]? = some (.cells #[.int .i64 r.f0, .int .i64 r.f1] 69 (0, 0)) by rw [hw]; exact blk_put (blk_put K4.out 0 _ rfl) 1 _ rfl); have HV3 := Aside0.mk (show GrownAt w0 w3 g A raw.length c vars props s1 by rw [hw]; exact GrownAt.box2 HV2.out K4.out N4 G4.out _ _); clear hw; have h30 : w3.cell? ⟨g4, 0, none⟩ = some (.int .i64 r.f0) := (blk_cell K43.out 0).trans rfl; have h31 : w3.cell? ⟨g4, 1, none⟩ = some (.int .i64 r.f1) := (blk_cell K43.out 1).trans rfl; have z31 := HV3.out.c1; have z32 := HV3.out.c2; have z33 := HV3.out.c3; have z34 := HV3.out.c4)) | (go_at_call 16; go_must (refine (picked_same _ _ _ _ (by first | exact H2.out | exact H3.out | exact H4.out)).mono ?_; rintro e w' ⟨rfl, hww⟩; obtain rfl := hww.symm)))
      all_goals go_still_tail 8, (by kernel_rfl)
      all_goals still_call (picked_same _ _ _ _ H4.out)
      all_goals refine wpStill_nil ?_
      all_goals change wpList _ _ _ _ _ w3.drew
      all_goals have HV3d := Aside0.mk (show GrownAt w0 w3.drew g A raw.length c vars props s1 from HV3.out.drewN 1)
      all_goals generalize w3.drew = w3d at *
      all_goals go_wp2_with (go_at_call 37; go_must (refine (grown_put.calls w0 A raw.length c g vars props BG.out s1 _ _ _ _ HV3d.out H5.out).mono ?_; rintro e w4 ⟨rfl, hv⟩; have HV4 := Aside0.mk hv; clear hv))
      all_goals go_end0
      all_goals exact ⟨rfl, HV4.out⟩
    · obtain ⟨v, h4, h⟩ := Option.bind_eq_some_iff.mp h
      have H4 := Aside0.mk h4
      have H5 := Aside0.mk h
      clear h h4
      rcases hdp with ⟨(d0 | ⟨d0, d1⟩), h3⟩ | ⟨d0, d1, rfl⟩ <;> rcases o1 with o1 | ⟨o1, o3⟩
      all_goals try (have H3 := Aside0.mk h3; clear h3)
      all_goals go_enter Tryd.func30, Tryd.ntmps30
      all_goals go_wp2_with (first | (go_at_call 36; go_must (refine (grown_take.calls w0 A c raw g vars props R0.out BG.out st r s1 _ HV.out H1.out).mono ?_; rintro e w1 ⟨rfl, hv⟩; have HV1 := Aside0.mk hv; clear hv)) | ((with_reducible refine gate_dst (N := 4) rfl ?_); go_must (refine box_event ?hg (N := 4) ?hd (cs := #[.int .i64 0, .int .i64 0]) (t := 69) ?hr ?_; (case hd => rfl); (case hg => rfl); (case hr => first | (go_simp; done) | (go_simp; rfl)); intro g4 hg w2 hbox hb; have K4 := Aside0.mk hbox; have HV2 := Aside0.mk (GrownAt.below HV1.out hb); have G4 := Aside0.mk (show w0.heap.size ≤ g4 by rw [hg]; exact HV1.out.size); have N4 : g ≠ g4 := (by rw [hg]; exact Nat.ne_of_lt HV1.out.lt); clear hb hbox hg; have h20 : w2.cell? ⟨g4, 0, none⟩ = some (.int .i64 0) := (blk_cell K4.out 0).trans rfl; have h21 : w2.cell? ⟨g4, 1, none⟩ = some (.int .i64 0) := (blk_cell K4.out 1).trans rfl; have f20 := blk_frozen K4.out 0; have f21 := blk_frozen K4.out 1)) | ((with_reducible refine gate_store (t := 69) (p := 4) (v := .tmp 7) rfl ?_); go_must (refine store_event (t := 69) (p := 4) (v := .tmp 7) (w1 := ((w2.setCell ⟨g4, 0, none⟩ (.int .i64 r.f0)).setCell ⟨g4, 1, none⟩ (.int .i64 r.f1))) ?hg ?ho ?hn ?hr ?_; (case ho => rfl); (case hg => rfl); (case hn => rfl); (case hr => first | (go_simp; done) | (go_simp; rfl)); intro w3 hw; have K43 := Aside0.mk (show w3.heap[g4]? = some (.cells #[.int .i64 r.f0, .int .i64 r.f1] 69 (0, 0)) by rw [hw]; exact blk_put (blk_put K4.out 0 _ rfl) 1 _ rfl); have HV3 := Aside0.mk (show GrownAt w0 w3 g A raw.length c vars props s1 by rw [hw]; exact GrownAt.box2 HV2.out K4.out N4 G4.out _ _); clear hw; have h30 : w3.cell? ⟨g4, 0, none⟩ = some (.int .i64 r.f0) := (blk_cell K43.out 0).trans rfl; have h31 : w3.cell? ⟨g4, 1, none⟩ = some (.int .i64 r.f1) := (blk_cell K43.out 1).trans rfl; have z31 := HV3.out.c1; have z32 := HV3.out.c2; have z33 := HV3.out.c3; have z34 := HV3.out.c4)) | (go_at_call 16; go_must (refine (picked_same _ _ _ _ (by first | exact H2.out | exact H3.out | exact H4.out)).mono ?_; rintro e w' ⟨rfl, hww⟩; obtain rfl := hww.symm)) | (go_at_call 37; go_must (refine (grown_put.calls w0 A raw.length c g vars props BG.out s1 _ _ _ _ HV3.out H5.out).mono ?_; rintro e w4 ⟨rfl, hv⟩; have HV4 := Aside0.mk hv; clear hv)))
      all_goals go_end0
      all_goals exact ⟨rfl, HV4.out⟩
    · obtain ⟨s2, h4, h⟩ := Option.bind_eq_some_iff.mp h
      obtain ⟨s3, h5, h⟩ := Option.bind_eq_some_iff.mp h
      have H5 := Aside0.mk h4
      have H6 := Aside0.mk h5
      have H7 := Aside0.mk h
      clear h h4 h5
      rcases hdp with ⟨(d0 | ⟨d0, d1⟩), h3⟩ | ⟨d0, d1, rfl⟩
      all_goals try (have H3 := Aside0.mk h3; clear h3)
      all_goals go_enter Tryd.func30, Tryd.ntmps30
      all_goals go_wp2_with (first | (go_at_call 36; go_must (refine (grown_take.calls w0 A c raw g vars props R0.out BG.out st r s1 _ HV.out H1.out).mono ?_; rintro e w1 ⟨rfl, hv⟩; have HV1 := Aside0.mk hv; clear hv)) | ((with_reducible refine gate_dst (N := 4) rfl ?_); go_must (refine box_event ?hg (N := 4) ?hd (cs := #[.int .i64 0, .int .i64 0]) (t := 69) ?hr ?_; (case hd => rfl); (case hg => rfl); (case hr => first | (go_simp; done) | (go_simp; rfl)); intro g4 hg w2 hbox hb; have K4 := Aside0.mk hbox; have HV2 := Aside0.mk (GrownAt.below HV1.out hb); have G4 := Aside0.mk (show w0.heap.size ≤ g4 by rw [hg]; exact HV1.out.size); have N4 : g ≠ g4 := (by rw [hg]; exact Nat.ne_of_lt HV1.out.lt); clear hb hbox hg; have h20 : w2.cell? ⟨g4, 0, none⟩ = some (.int .i64 0) := (blk_cell K4.out 0).trans rfl; have h21 : w2.cell? ⟨g4, 1, none⟩ = some (.int .i64 0) := (blk_cell K4.out 1).trans rfl; have f20 := blk_frozen K4.out 0; have f21 := blk_frozen K4.out 1)) | ((with_reducible refine gate_store (t := 69) (p := 4) (v := .tmp 7) rfl ?_); go_must (refine store_event (t := 69) (p := 4) (v := .tmp 7) (w1 := ((w2.setCell ⟨g4, 0, none⟩ (.int .i64 r.f0)).setCell ⟨g4, 1, none⟩ (.int .i64 r.f1))) ?hg ?ho ?hn ?hr ?_; (case ho => rfl); (case hg => rfl); (case hn => rfl); (case hr => first | (go_simp; done) | (go_simp; rfl)); intro w3 hw; have K43 := Aside0.mk (show w3.heap[g4]? = some (.cells #[.int .i64 r.f0, .int .i64 r.f1] 69 (0, 0)) by rw [hw]; exact blk_put (blk_put K4.out 0 _ rfl) 1 _ rfl); have HV3 := Aside0.mk (show GrownAt w0 w3 g A raw.length c vars props s1 by rw [hw]; exact GrownAt.box2 HV2.out K4.out N4 G4.out _ _); clear hw; have h30 : w3.cell? ⟨g4, 0, none⟩ = some (.int .i64 r.f0) := (blk_cell K43.out 0).trans rfl; have h31 : w3.cell? ⟨g4, 1, none⟩ = some (.int .i64 r.f1) := (blk_cell K43.out 1).trans rfl; have z31 := HV3.out.c1; have z32 := HV3.out.c2; have z33 := HV3.out.c3; have z34 := HV3.out.c4)) | (go_at_call 16; go_must (refine (picked_same _ _ _ _ (by first | exact H2.out | exact H3.out | exact H4.out)).mono ?_; rintro e w' ⟨rfl, hww⟩; obtain rfl := hww.symm)) | (go_at_call 37; go_must (refine (grown_put.calls w0 A raw.length c g vars props BG.out s1 _ _ _ _ HV3.out H5.out).mono ?_; rintro e w4 ⟨rfl, hv⟩; have HV4 := Aside0.mk hv; clear hv)) | (go_at_call 30; go_must (first | (refine (ih _ _ _ _ HV5.out H7.out).mono ?_; rintro e w6 ⟨rfl, hv⟩; have HVn := Aside0.mk hv; clear hv) | (refine (ih _ _ _ _ HV4.out H6.out).mono ?_; rintro e w5 ⟨rfl, hv⟩; have HV5 := Aside0.mk hv; clear hv))))
      all_goals go_end0
      all_goals exact ⟨rfl, HVn.out⟩

end Go.Proofs.YtlejdidngmjicaaDoor.P
