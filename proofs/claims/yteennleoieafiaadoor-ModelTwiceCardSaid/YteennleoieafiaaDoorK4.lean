-- PACKED by pack.py of this repo: FGrownTruth
import Derived.WalkSpells
import Derived.Test.YteennleoieafiaaDoorK2
import Derived.Test.YteennleoieafiaaDoorK3
section
namespace Go.Proofs.YteennleoieafiaaDoor.P
open Go.RowKit Go.Proofs.YteennleoieafiaaDoorW.PrintWords Go.Proofs.YteennleoieafiaaDoorW.PrintLast Go.Proofs.YteennleoieafiaaDoorW.PrintMore Go.Proofs.YteennleoieafiaaDoor.G
attribute [local go_sem] max2_int min2_int max_two min_two max_three min_three max_four min_four   -- for this text's walks alone
set_option linter.unusedVariables false
set_option linter.unusedSimpArgs false

--IMPORT FGrownTake
--IMPORT FGrownPut
--IMPORT FGrownNumber
--IMPORT Derived.WalkSpells
/-! ### grown_truth: function 38 -/
def grown_truth.f : Nat → List S97 → Int → GrSt → Int → Option GrSt
  | 0, _, _, _, _ => none
  | k + 1, raw, vars, st, deep => (grown_take.f raw st).bind fun r => (foretellkeep_picked.f r.1.f0 9).bind fun p5 => (if deep = 0 ∨ 10 < r.2.at_ then foretellkeep_picked.f r.1.f0 3 else some p5).bind fun op =>
      if op = 0 then (foretellkeep_picked.f r.1.f1 2).bind fun v => grown_put.f r.2 (wrap64 (11 + v)) 0
      else if op = 1 ∨ op = 3 then (grown_put.f r.2 7 0).bind fun s1 => (grown_number.f k raw vars s1 1).bind fun s2 => grown_number.f k raw vars s2 1
      else if op = 2 ∨ op = 4 then (grown_put.f r.2 6 0).bind fun s1 => (grown_number.f k raw vars s1 1).bind fun s2 => grown_number.f k raw vars s2 1
      else if op = 5 then (grown_put.f r.2 10 0).bind fun s1 => grown_truth.f k raw vars s1 (wrap64 (deep - 1))
      else (grown_put.f r.2 (wrap64 (8 + Int.tmod op 2)) 0).bind fun s1 => (grown_truth.f k raw vars s1 (wrap64 (deep - 1))).bind fun s2 => grown_truth.f k raw vars s2 (wrap64 (deep - 1))
theorem grown_truth.mono_f : ∀ k raw vars st deep, LeO (grown_truth.f k raw vars st deep) (grown_truth.f (k + 1) raw vars st deep)
  | 0, _, _, _, _ => fun r h => by simp [grown_truth.f] at h
  | k + 1, raw, vars, st, deep => by
    unfold grown_truth.f
    have hn : ∀ s1, LeO ((grown_number.f k raw vars s1 1).bind fun s2 => grown_number.f k raw vars s2 1) ((grown_number.f (k + 1) raw vars s1 1).bind fun s2 => grown_number.f (k + 1) raw vars s2 1) := fun s1 => LeO.bind (grown_number.mono_f k _ _ _ _) fun _ => grown_number.mono_f k _ _ _ _
    exact LeO.bind (LeO.refl _) fun _ => LeO.bind (LeO.refl _) fun _ => LeO.bind (LeO.refl _) fun _ => LeO.ite (LeO.refl _) (LeO.ite (LeO.bind (LeO.refl _) fun _ => hn _) (LeO.ite (LeO.bind (LeO.refl _) fun _ => hn _) (LeO.ite (LeO.bind (LeO.refl _) fun _ => grown_truth.mono_f k _ _ _ _) (LeO.bind (LeO.refl _) fun _ => LeO.bind (grown_truth.mono_f k _ _ _ _) fun _ => grown_truth.mono_f k _ _ _ _))))
set_option maxHeartbeats 8000000 in
set_option maxRecDepth 100000 in
theorem grown_truth.calls (w0 : World) (A : Option Addr) (c : Nat) (raw : List S97) (g : Nat) (vars props : Int) (hr : Kd.C k97 w0 A raw.length raw) (bg : w0.heap.size ≤ g) (k : Nat) : ∀ (st : GrSt) (deep : Int) (st' : GrSt) (w : World) (hv : GrownAt w0 w g A raw.length c vars props st) (h : grown_truth.f k raw vars st deep = some st'),
    Calls Tryd.prog 38 #[.pointer (some ⟨g, 0, none⟩), .int .i64 deep] w fun e w' => e = .returned (.tuple #[]) ∧ GrownAt w0 w' g A raw.length c vars props st' := by
  have R0 := Aside0.mk hr
  have BG := Aside0.mk bg
  clear hr bg
  induction k with
  | zero =>
    intro st deep st' w hv h
    exact absurd h (by simp [grown_truth.f])
  | succ k ih =>
    intro st deep st' w hv h
    have HV := Aside0.mk hv
    clear hv
    simp only [grown_truth.f] at h
    obtain ⟨⟨r, s1⟩, h1, h⟩ := Option.bind_eq_some_iff.mp h
    obtain ⟨p5, h2, h⟩ := Option.bind_eq_some_iff.mp h
    obtain ⟨op, h3, h⟩ := Option.bind_eq_some_iff.mp h
    have H1 := Aside0.mk h1
    have H2 := Aside0.mk h2
    clear h1 h2
    simp only [] at h h3
    have hdp : (((deep == 0) = true ∨ ((deep == 0) = false ∧ decide (s1.at_ > 10) = true)) ∧ foretellkeep_picked.f r.f0 3 = some op) ∨ ((deep == 0) = false ∧ decide (s1.at_ > 10) = false ∧ p5 = op) := by
      by_cases d0 : deep = 0
      · rw [if_pos (.inl d0)] at h3
        exact .inl ⟨.inl (beq_iff_eq.mpr d0), h3⟩
      · by_cases d4 : 10 < s1.at_
        · rw [if_pos (.inr d4)] at h3
          exact .inl ⟨.inr ⟨beq_eq_false_iff_ne.mpr d0, decide_eq_true d4⟩, h3⟩
        · rw [if_neg (by rintro (h0 | h0) <;> contradiction)] at h3
          exact .inr ⟨beq_eq_false_iff_ne.mpr d0, decide_eq_false d4, Option.some.inj h3⟩
    clear h3
    by_cases d0 : op = 0
    · rw [if_pos d0] at h
      subst d0
      obtain ⟨v, h4, h⟩ := Option.bind_eq_some_iff.mp h
      have H4 := Aside0.mk h4
      have H5 := Aside0.mk h
      clear h h4
      rcases hdp with ⟨(d0 | ⟨d0, d1⟩), h3⟩ | ⟨d0, d1, rfl⟩
      all_goals try (have H3 := Aside0.mk h3; clear h3)
      all_goals go_enter Tryd.func38, Tryd.ntmps38
      all_goals go_wp2_with (first | (go_at_call 50; go_must (refine (grown_take.calls w0 A c raw g vars props R0.out BG.out st r s1 _ HV.out H1.out).mono ?_; rintro e w1 ⟨rfl, hv⟩; have HV1 := Aside0.mk hv; clear hv)) | ((with_reducible refine gate_dst (N := 4) rfl ?_); go_must (refine box_event ?hg (N := 4) ?hd (cs := #[.int .i64 0, .int .i64 0]) (t := 97) ?hr ?_; (case hd => rfl); (case hg => rfl); (case hr => first | (go_simp; done) | (go_simp; rfl)); intro g4 hg w2 hbox hb; have K4 := Aside0.mk hbox; have HV2 := Aside0.mk (GrownAt.below HV1.out hb); have G4 := Aside0.mk (show w0.heap.size ≤ g4 by rw [hg]; exact HV1.out.size); have N4 : g ≠ g4 := (by rw [hg]; exact Nat.ne_of_lt HV1.out.lt); clear hb hbox hg; have h20 : w2.cell? ⟨g4, 0, none⟩ = some (.int .i64 0) := (blk_cell K4.out 0).trans rfl; have h21 : w2.cell? ⟨g4, 1, none⟩ = some (.int .i64 0) := (blk_cell K4.out 1).trans rfl; have f20 := blk_frozen K4.out 0; have f21 := blk_frozen K4.out 1)) | ((with_reducible refine gate_store (t := 97) (p := 4) (v := .tmp 7) rfl ?_); go_must (refine store_event (t := 97) (p := 4) (v := .tmp 7) (w1 := ((w2.setCell ⟨g4, 0, none⟩ (.int .i64 r.f0)).setCell ⟨g4, 1, none⟩ (.int .i64 r.f1))) ?hg ?ho ?hn ?hr ?_; (case ho => rfl); (case hg => rfl); (case hn => rfl); (case hr => first | (go_simp; done) | (go_simp; rfl)); intro w3 hw; have K43 := Aside0.mk (show w3.heap[g4]? = some (.cells #[.int .i64 r.f0, .int .i64 r.f1] 97 (0, 0)) by rw [hw]; exact blk_put (blk_put K4.out 0 _ rfl) 1 _ rfl); have HV3 := Aside0.mk (show GrownAt w0 w3 g A raw.length c vars props s1 by rw [hw]; exact GrownAt.box2 HV2.out K4.out N4 G4.out _ _); clear hw; have h30 : w3.cell? ⟨g4, 0, none⟩ = some (.int .i64 r.f0) := (blk_cell K43.out 0).trans rfl; have h31 : w3.cell? ⟨g4, 1, none⟩ = some (.int .i64 r.f1) := (blk_cell K43.out 1).trans rfl; have z31 := HV3.out.c1; have z32 := HV3.out.c2; have z33 := HV3.out.c3; have z34 := HV3.out.c4)) | (go_at_call 15; go_must (refine (picked_same _ _ _ _ (by first | exact H2.out | exact H3.out | exact H4.out)).mono ?_; rintro e w' ⟨rfl, hww⟩; obtain rfl := hww.symm)) | (go_at_call 51; go_must (refine (grown_put.calls w0 A raw.length c g vars props BG.out s1 _ _ _ _ HV3.out H5.out).mono ?_; rintro e w4 ⟨rfl, hv⟩; have HV4 := Aside0.mk hv; clear hv)))
      all_goals go_end0
      all_goals exact ⟨rfl, HV4.out⟩
    · rw [if_neg d0] at h
      by_cases d1 : op = 1 ∨ op = 3
      · rw [if_pos d1] at h
        obtain ⟨s2, h4, h⟩ := Option.bind_eq_some_iff.mp h
        obtain ⟨s3, h5, h⟩ := Option.bind_eq_some_iff.mp h
        have H5 := Aside0.mk h4
        have H6 := Aside0.mk h5
        have H7 := Aside0.mk h
        clear h h4 h5
        rcases d1 with rfl | rfl <;> rcases hdp with ⟨(d0 | ⟨d0, d1⟩), h3⟩ | ⟨d0, d1, rfl⟩
        all_goals try (have H3 := Aside0.mk h3; clear h3)
        all_goals go_enter Tryd.func38, Tryd.ntmps38
        all_goals go_wp2_with (first | (go_at_call 50; go_must (refine (grown_take.calls w0 A c raw g vars props R0.out BG.out st r s1 _ HV.out H1.out).mono ?_; rintro e w1 ⟨rfl, hv⟩; have HV1 := Aside0.mk hv; clear hv)) | ((with_reducible refine gate_dst (N := 4) rfl ?_); go_must (refine box_event ?hg (N := 4) ?hd (cs := #[.int .i64 0, .int .i64 0]) (t := 97) ?hr ?_; (case hd => rfl); (case hg => rfl); (case hr => first | (go_simp; done) | (go_simp; rfl)); intro g4 hg w2 hbox hb; have K4 := Aside0.mk hbox; have HV2 := Aside0.mk (GrownAt.below HV1.out hb); have G4 := Aside0.mk (show w0.heap.size ≤ g4 by rw [hg]; exact HV1.out.size); have N4 : g ≠ g4 := (by rw [hg]; exact Nat.ne_of_lt HV1.out.lt); clear hb hbox hg; have h20 : w2.cell? ⟨g4, 0, none⟩ = some (.int .i64 0) := (blk_cell K4.out 0).trans rfl; have h21 : w2.cell? ⟨g4, 1, none⟩ = some (.int .i64 0) := (blk_cell K4.out 1).trans rfl; have f20 := blk_frozen K4.out 0; have f21 := blk_frozen K4.out 1)) | ((with_reducible refine gate_store (t := 97) (p := 4) (v := .tmp 7) rfl ?_); go_must (refine store_event (t := 97) (p := 4) (v := .tmp 7) (w1 := ((w2.setCell ⟨g4, 0, none⟩ (.int .i64 r.f0)).setCell ⟨g4, 1, none⟩ (.int .i64 r.f1))) ?hg ?ho ?hn ?hr ?_; (case ho => rfl); (case hg => rfl); (case hn => rfl); (case hr => first | (go_simp; done) | (go_simp; rfl)); intro w3 hw; have K43 := Aside0.mk (show w3.heap[g4]? = some (.cells #[.int .i64 r.f0, .int .i64 r.f1] 97 (0, 0)) by rw [hw]; exact blk_put (blk_put K4.out 0 _ rfl) 1 _ rfl); have HV3 := Aside0.mk (show GrownAt w0 w3 g A raw.length c vars props s1 by rw [hw]; exact GrownAt.box2 HV2.out K4.out N4 G4.out _ _); clear hw; have h30 : w3.cell? ⟨g4, 0, none⟩ = some (.int .i64 r.f0) := (blk_cell K43.out 0).trans rfl; have h31 : w3.cell? ⟨g4, 1, none⟩ = some (.int .i64 r.f1) := (blk_cell K43.out 1).trans rfl; have z31 := HV3.out.c1; have z32 := HV3.out.c2; have z33 := HV3.out.c3; have z34 := HV3.out.c4)) | (go_at_call 15; go_must (refine (picked_same _ _ _ _ (by first | exact H2.out | exact H3.out | exact H4.out)).mono ?_; rintro e w' ⟨rfl, hww⟩; obtain rfl := hww.symm)) | (go_at_call 51; go_must (refine (grown_put.calls w0 A raw.length c g vars props BG.out s1 _ _ _ _ HV3.out H5.out).mono ?_; rintro e w4 ⟨rfl, hv⟩; have HV4 := Aside0.mk hv; clear hv)) | (go_at_call 39; go_must (first | (refine (grown_number.calls w0 A c raw g vars props R0.out BG.out k _ _ _ _ HV5.out H7.out).mono ?_; rintro e w6 ⟨rfl, hv⟩; have HVn := Aside0.mk hv; clear hv) | (refine (grown_number.calls w0 A c raw g vars props R0.out BG.out k _ _ _ _ HV4.out H6.out).mono ?_; rintro e w5 ⟨rfl, hv⟩; have HV5 := Aside0.mk hv; clear hv))))
        all_goals go_end0
        all_goals exact ⟨rfl, HVn.out⟩
      · rw [if_neg d1] at h
        by_cases d2 : op = 2 ∨ op = 4
        · rw [if_pos d2] at h
          obtain ⟨s2, h4, h⟩ := Option.bind_eq_some_iff.mp h
          obtain ⟨s3, h5, h⟩ := Option.bind_eq_some_iff.mp h
          have H5 := Aside0.mk h4
          have H6 := Aside0.mk h5
          have H7 := Aside0.mk h
          clear h h4 h5
          rcases d2 with rfl | rfl <;> rcases hdp with ⟨(d0 | ⟨d0, d1⟩), h3⟩ | ⟨d0, d1, rfl⟩
          all_goals try (have H3 := Aside0.mk h3; clear h3)
          all_goals go_enter Tryd.func38, Tryd.ntmps38
          all_goals go_wp2_with (first | (go_at_call 50; go_must (refine (grown_take.calls w0 A c raw g vars props R0.out BG.out st r s1 _ HV.out H1.out).mono ?_; rintro e w1 ⟨rfl, hv⟩; have HV1 := Aside0.mk hv; clear hv)) | ((with_reducible refine gate_dst (N := 4) rfl ?_); go_must (refine box_event ?hg (N := 4) ?hd (cs := #[.int .i64 0, .int .i64 0]) (t := 97) ?hr ?_; (case hd => rfl); (case hg => rfl); (case hr => first | (go_simp; done) | (go_simp; rfl)); intro g4 hg w2 hbox hb; have K4 := Aside0.mk hbox; have HV2 := Aside0.mk (GrownAt.below HV1.out hb); have G4 := Aside0.mk (show w0.heap.size ≤ g4 by rw [hg]; exact HV1.out.size); have N4 : g ≠ g4 := (by rw [hg]; exact Nat.ne_of_lt HV1.out.lt); clear hb hbox hg; have h20 : w2.cell? ⟨g4, 0, none⟩ = some (.int .i64 0) := (blk_cell K4.out 0).trans rfl; have h21 : w2.cell? ⟨g4, 1, none⟩ = some (.int .i64 0) := (blk_cell K4.out 1).trans rfl; have f20 := blk_frozen K4.out 0; have f21 := blk_frozen K4.out 1)) | ((with_reducible refine gate_store (t := 97) (p := 4) (v := .tmp 7) rfl ?_); go_must (refine store_event (t := 97) (p := 4) (v := .tmp 7) (w1 := ((w2.setCell ⟨g4, 0, none⟩ (.int .i64 r.f0)).setCell ⟨g4, 1, none⟩ (.int .i64 r.f1))) ?hg ?ho ?hn ?hr ?_; (case ho => rfl); (case hg => rfl); (case hn => rfl); (case hr => first | (go_simp; done) | (go_simp; rfl)); intro w3 hw; have K43 := Aside0.mk (show w3.heap[g4]? = some (.cells #[.int .i64 r.f0, .int .i64 r.f1] 97 (0, 0)) by rw [hw]; exact blk_put (blk_put K4.out 0 _ rfl) 1 _ rfl); have HV3 := Aside0.mk (show GrownAt w0 w3 g A raw.length c vars props s1 by rw [hw]; exact GrownAt.box2 HV2.out K4.out N4 G4.out _ _); clear hw; have h30 : w3.cell? ⟨g4, 0, none⟩ = some (.int .i64 r.f0) := (blk_cell K43.out 0).trans rfl; have h31 : w3.cell? ⟨g4, 1, none⟩ = some (.int .i64 r.f1) := (blk_cell K43.out 1).trans rfl; have z31 := HV3.out.c1; have z32 := HV3.out.c2; have z33 := HV3.out.c3; have z34 := HV3.out.c4)) | (go_at_call 15; go_must (refine (picked_same _ _ _ _ (by first | exact H2.out | exact H3.out | exact H4.out)).mono ?_; rintro e w' ⟨rfl, hww⟩; obtain rfl := hww.symm)) | (go_at_call 51; go_must (refine (grown_put.calls w0 A raw.length c g vars props BG.out s1 _ _ _ _ HV3.out H5.out).mono ?_; rintro e w4 ⟨rfl, hv⟩; have HV4 := Aside0.mk hv; clear hv)) | (go_at_call 39; go_must (first | (refine (grown_number.calls w0 A c raw g vars props R0.out BG.out k _ _ _ _ HV5.out H7.out).mono ?_; rintro e w6 ⟨rfl, hv⟩; have HVn := Aside0.mk hv; clear hv) | (refine (grown_number.calls w0 A c raw g vars props R0.out BG.out k _ _ _ _ HV4.out H6.out).mono ?_; rintro e w5 ⟨rfl, hv⟩; have HV5 := Aside0.mk hv; clear hv))))
          all_goals go_end0
          all_goals exact ⟨rfl, HVn.out⟩
        · rw [if_neg d2] at h
          by_cases d3 : op = 5
          · rw [if_pos d3] at h
            subst d3
            obtain ⟨s2, h4, h⟩ := Option.bind_eq_some_iff.mp h
            have H5 := Aside0.mk h4
            have H6 := Aside0.mk h
            clear h h4
            rcases hdp with ⟨(d0 | ⟨d0, d1⟩), h3⟩ | ⟨d0, d1, rfl⟩
            all_goals try (have H3 := Aside0.mk h3; clear h3)
            all_goals go_enter Tryd.func38, Tryd.ntmps38
            all_goals go_wp2_with (first | (go_at_call 50; go_must (refine (grown_take.calls w0 A c raw g vars props R0.out BG.out st r s1 _ HV.out H1.out).mono ?_; rintro e w1 ⟨rfl, hv⟩; have HV1 := Aside0.mk hv; clear hv)) | ((with_reducible refine gate_dst (N := 4) rfl ?_); go_must (refine box_event ?hg (N := 4) ?hd (cs := #[.int .i64 0, .int .i64 0]) (t := 97) ?hr ?_; (case hd => rfl); (case hg => rfl); (case hr => first | (go_simp; done) | (go_simp; rfl)); intro g4 hg w2 hbox hb; have K4 := Aside0.mk hbox; have HV2 := Aside0.mk (GrownAt.below HV1.out hb); have G4 := Aside0.mk (show w0.heap.size ≤ g4 by rw [hg]; exact HV1.out.size); have N4 : g ≠ g4 := (by rw [hg]; exact Nat.ne_of_lt HV1.out.lt); clear hb hbox hg; have h20 : w2.cell? ⟨g4, 0, none⟩ = some (.int .i64 0) := (blk_cell K4.out 0).trans rfl; have h21 : w2.cell? ⟨g4, 1, none⟩ = some (.int .i64 0) := (blk_cell K4.out 1).trans rfl; have f20 := blk_frozen K4.out 0; have f21 := blk_frozen K4.out 1)) | ((with_reducible refine gate_store (t := 97) (p := 4) (v := .tmp 7) rfl ?_); go_must (refine store_event (t := 97) (p := 4) (v := .tmp 7) (w1 := ((w2.setCell ⟨g4, 0, none⟩ (.int .i64 r.f0)).setCell ⟨g4, 1, none⟩ (.int .i64 r.f1))) ?hg ?ho ?hn ?hr ?_; (case ho => rfl); (case hg => rfl); (case hn => rfl); (case hr => first | (go_simp; done) | (go_simp; rfl)); intro w3 hw; have K43 := Aside0.mk (show w3.heap[g4]? = some (.cells #[.int .i64 r.f0, .int .i64 r.f1] 97 (0, 0)) by rw [hw]; exact blk_put (blk_put K4.out 0 _ rfl) 1 _ rfl); have HV3 := Aside0.mk (show GrownAt w0 w3 g A raw.length c vars props s1 by rw [hw]; exact GrownAt.box2 HV2.out K4.out N4 G4.out _ _); clear hw; have h30 : w3.cell? ⟨g4, 0, none⟩ = some (.int .i64 r.f0) := (blk_cell K43.out 0).trans rfl; have h31 : w3.cell? ⟨g4, 1, none⟩ = some (.int .i64 r.f1) := (blk_cell K43.out 1).trans rfl; have z31 := HV3.out.c1; have z32 := HV3.out.c2; have z33 := HV3.out.c3; have z34 := HV3.out.c4)) | (go_at_call 15; go_must (refine (picked_same _ _ _ _ (by first | exact H2.out | exact H3.out | exact H4.out)).mono ?_; rintro e w' ⟨rfl, hww⟩; obtain rfl := hww.symm)) | (go_at_call 51; go_must (refine (grown_put.calls w0 A raw.length c g vars props BG.out s1 _ _ _ _ HV3.out H5.out).mono ?_; rintro e w4 ⟨rfl, hv⟩; have HV4 := Aside0.mk hv; clear hv)) | (go_at_call 38; go_must (refine (ih _ _ _ _ HV4.out H6.out).mono ?_; rintro e w5 ⟨rfl, hv⟩; have HVn := Aside0.mk hv; clear hv)))
            all_goals go_end0
            all_goals exact ⟨rfl, HVn.out⟩
          · rw [if_neg d3] at h
            have e0 : (op == 0) = false := beq_eq_false_iff_ne.mpr d0
            have e1 : (op == 1) = false := beq_eq_false_iff_ne.mpr (fun q => d1 (.inl q))
            have e2 : (op == 2) = false := beq_eq_false_iff_ne.mpr (fun q => d2 (.inl q))
            have e3 : (op == 3) = false := beq_eq_false_iff_ne.mpr (fun q => d1 (.inr q))
            have e4 : (op == 4) = false := beq_eq_false_iff_ne.mpr (fun q => d2 (.inr q))
            have e5 : (op == 5) = false := beq_eq_false_iff_ne.mpr d3
            clear d0 d1 d2 d3
            obtain ⟨s2, h4, h⟩ := Option.bind_eq_some_iff.mp h
            obtain ⟨s3, h5, h⟩ := Option.bind_eq_some_iff.mp h
            have H5 := Aside0.mk h4
            have H6 := Aside0.mk h5
            have H7 := Aside0.mk h
            clear h h4 h5
            rcases hdp with ⟨(d0 | ⟨d0, d1⟩), h3⟩ | ⟨d0, d1, rfl⟩
            all_goals try (have H3 := Aside0.mk h3; clear h3)
            all_goals go_enter Tryd.func38, Tryd.ntmps38
            all_goals go_wp2_with (first | (go_at_call 50; go_must (refine (grown_take.calls w0 A c raw g vars props R0.out BG.out st r s1 _ HV.out H1.out).mono ?_; rintro e w1 ⟨rfl, hv⟩; have HV1 := Aside0.mk hv; clear hv)) | ((with_reducible refine gate_dst (N := 4) rfl ?_); go_must (refine box_event ?hg (N := 4) ?hd (cs := #[.int .i64 0, .int .i64 0]) (t := 97) ?hr ?_; (case hd => rfl); (case hg => rfl); (case hr => first | (go_simp; done) | (go_simp; rfl)); intro g4 hg w2 hbox hb; have K4 := Aside0.mk hbox; have HV2 := Aside0.mk (GrownAt.below HV1.out hb); have G4 := Aside0.mk (show w0.heap.size ≤ g4 by rw [hg]; exact HV1.out.size); have N4 : g ≠ g4 := (by rw [hg]; exact Nat.ne_of_lt HV1.out.lt); clear hb hbox hg; have h20 : w2.cell? ⟨g4, 0, none⟩ = some (.int .i64 0) := (blk_cell K4.out 0).trans rfl; have h21 : w2.cell? ⟨g4, 1, none⟩ = some (.int .i64 0) := (blk_cell K4.out 1).trans rfl; have f20 := blk_frozen K4.out 0; have f21 := blk_frozen K4.out 1)) | ((with_reducible refine gate_store (t := 97) (p := 4) (v := .tmp 7) rfl ?_); go_must (refine store_event (t := 97) (p := 4) (v := .tmp 7) (w1 := ((w2.setCell ⟨g4, 0, none⟩ (.int .i64 r.f0)).setCell ⟨g4, 1, none⟩ (.int .i64 r.f1))) ?hg ?ho ?hn ?hr ?_; (case ho => rfl); (case hg => rfl); (case hn => rfl); (case hr => first | (go_simp; done) | (go_simp; rfl)); intro w3 hw; have K43 := Aside0.mk (show w3.heap[g4]? = some (.cells #[.int .i64 r.f0, .int .i64 r.f1] 97 (0, 0)) by rw [hw]; exact blk_put (blk_put K4.out 0 _ rfl) 1 _ rfl); have HV3 := Aside0.mk (show GrownAt w0 w3 g A raw.length c vars props s1 by rw [hw]; exact GrownAt.box2 HV2.out K4.out N4 G4.out _ _); clear hw; have h30 : w3.cell? ⟨g4, 0, none⟩ = some (.int .i64 r.f0) := (blk_cell K43.out 0).trans rfl; have h31 : w3.cell? ⟨g4, 1, none⟩ = some (.int .i64 r.f1) := (blk_cell K43.out 1).trans rfl; have z31 := HV3.out.c1; have z32 := HV3.out.c2; have z33 := HV3.out.c3; have z34 := HV3.out.c4)) | (go_at_call 15; go_must (refine (picked_same _ _ _ _ (by first | exact H2.out | exact H3.out | exact H4.out)).mono ?_; rintro e w' ⟨rfl, hww⟩; obtain rfl := hww.symm)) | (go_at_call 51; go_must (refine (grown_put.calls w0 A raw.length c g vars props BG.out s1 _ _ _ _ HV3.out H5.out).mono ?_; rintro e w4 ⟨rfl, hv⟩; have HV4 := Aside0.mk hv; clear hv)) | (go_at_call 38; go_must (first | (refine (ih _ _ _ _ HV5.out H7.out).mono ?_; rintro e w6 ⟨rfl, hv⟩; have HVn := Aside0.mk hv; clear hv) | (refine (ih _ _ _ _ HV4.out H6.out).mono ?_; rintro e w5 ⟨rfl, hv⟩; have HV5 := Aside0.mk hv; clear hv))))
            all_goals go_end0
            all_goals exact ⟨rfl, HVn.out⟩

end Go.Proofs.YteennleoieafiaaDoor.P
end
