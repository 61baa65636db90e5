-- PACKED by pack.py of this repo: FForm
import Derived.WalkSpells
import Derived.StillTailTactics
import Derived.Test.YtcoaeefmmnohkaaDoorM2
import Derived.Test.YtcoaeefmmnohkaaDoorM3
section
namespace Go.Proofs.YtcoaeefmmnohkaaDoor.P
open Go.RowKit Go.Proofs.YtcoaeefmmnohkaaDoorW.PrintWords Go.Proofs.YtcoaeefmmnohkaaDoorW.PrintLast Go.Proofs.YtcoaeefmmnohkaaDoorW.PrintMore Go.Proofs.YtcoaeefmmnohkaaDoor.G
attribute [local go_sem] max2_int min2_int max_two min_two max_three min_three max_four min_four   -- for this text's walks alone
set_option linter.unusedVariables false
set_option linter.unusedSimpArgs false

--IMPORT FGrownTake
--IMPORT FGrownPut
--IMPORT Derived.WalkSpells
--IMPORT Derived.StillTailTactics
/-! ### grown_formula: function 29 -/
def grown_formula.f : Nat → List S79 → Int → GrSt → Int → Option GrSt
  | 0, _, _, _, _ => none
  | k + 1, raw, props, st, deep => (grown_take.f raw st).bind fun r => (foretellkeep_picked.f r.1.f0 16).bind fun p5 => (if deep = 0 ∨ 12 < r.2.at_ then foretellkeep_picked.f r.1.f0 4 else some p5).bind fun o0 => (some (if 8 < o0 ∧ r.2.tempo = 0 then wrap64 (4 + Int.tmod o0 5) else o0)).bind fun op =>
      if op < 4 then (if 0 < props then (foretellkeep_picked.f r.1.f1 props).bind fun v => grown_put.f r.2 13 v else (foretellkeep_picked.f r.1.f1 2).bind fun v => grown_put.f r.2 (wrap64 (11 + v)) 0)
      else if op < 6 then (grown_put.f r.2 10 0).bind fun s1 => grown_formula.f k raw props s1 (wrap64 (deep - 1))
      else if op < 9 then (grown_put.f r.2 (wrap64 (8 + Int.tmod op 2)) 0).bind fun s1 => (grown_formula.f k raw props s1 (wrap64 (deep - 1))).bind fun s2 => grown_formula.f k raw props s2 (wrap64 (deep - 1))
      else if op < 13 then (grown_put.f { r.2 with tempo := wrap64 (r.2.tempo - 1) } (if op = 9 then 14 else if op = 11 then 18 else 17) 0).bind fun s1 => grown_formula.f k raw props s1 (wrap64 (deep - 1))
      else (grown_put.f { r.2 with tempo := wrap64 (r.2.tempo - 1) } (wrap64 (15 + Int.tmod op 2)) 0).bind fun s1 => (grown_formula.f k raw props s1 (wrap64 (deep - 1))).bind fun s2 => grown_formula.f k raw props s2 (wrap64 (deep - 1))
theorem grown_formula.mono_f : ∀ k raw props st deep, LeO (grown_formula.f k raw props st deep) (grown_formula.f (k + 1) raw props st deep)
  | 0, _, _, _, _ => fun r h => by simp [grown_formula.f] at h
  | k + 1, raw, props, st, deep => by
    unfold grown_formula.f
    exact LeO.bind (LeO.refl _) fun _ => LeO.bind (LeO.refl _) fun _ => LeO.bind (LeO.refl _) fun _ => LeO.bind (LeO.refl _) fun _ => LeO.ite (LeO.refl _) (LeO.ite (LeO.bind (LeO.refl _) fun _ => grown_formula.mono_f k _ _ _ _) (LeO.ite (LeO.bind (LeO.refl _) fun _ => LeO.bind (grown_formula.mono_f k _ _ _ _) fun _ => grown_formula.mono_f k _ _ _ _) (LeO.ite (LeO.bind (LeO.refl _) fun _ => grown_formula.mono_f k _ _ _ _) (LeO.bind (LeO.refl _) fun _ => LeO.bind (grown_formula.mono_f k _ _ _ _) fun _ => grown_formula.mono_f k _ _ _ _))))
set_option maxHeartbeats 8000000 in
set_option maxRecDepth 100000 in
theorem grown_formula.calls (w0 : World) (A : Option Addr) (c : Nat) (raw : List S79) (g : Nat) (vars props : Int) (hr : Kd.C k79 w0 A raw.length raw) (bg : w0.heap.size ≤ g) (k : Nat) : ∀ (st : GrSt) (deep : Int) (st' : GrSt) (w : World) (hv : GrownAt w0 w g A raw.length c vars props st) (h : grown_formula.f k raw props st deep = some st'),
    Calls Tryd.prog 29 #[.pointer (some ⟨g, 0, none⟩), .int .i64 deep] w fun e w' => e = .returned (.tuple #[]) ∧ GrownAt w0 w' g A raw.length c vars props st' := by
  have R0 := Aside0.mk hr
  have BG := Aside0.mk bg
  clear hr bg
  induction k with
  | zero =>
    intro st deep st' w hv h
    exact absurd h (by simp [grown_formula.f])
  | succ k ih =>
    intro st deep st' w hv h
    have HV := Aside0.mk hv
    clear hv
    simp only [grown_formula.f] at h
    obtain ⟨⟨r, s1⟩, h1, h⟩ := Option.bind_eq_some_iff.mp h
    obtain ⟨p5, h2, h⟩ := Option.bind_eq_some_iff.mp h
    obtain ⟨o0, h3, h⟩ := Option.bind_eq_some_iff.mp h
    obtain ⟨op, h8, h⟩ := Option.bind_eq_some_iff.mp h
    have H1 := Aside0.mk h1
    have H2 := Aside0.mk h2
    clear h1 h2
    simp only [] at h h3 h8
    have hdp : (((deep == 0) = true ∨ ((deep == 0) = false ∧ decide (s1.at_ > 12) = true)) ∧ foretellkeep_picked.f r.f0 4 = some o0) ∨ ((deep == 0) = false ∧ decide (s1.at_ > 12) = false ∧ p5 = o0) := by
      by_cases d0 : deep = 0
      · rw [if_pos (.inl d0)] at h3
        exact .inl ⟨.inl (beq_iff_eq.mpr d0), h3⟩
      · by_cases d4 : 12 < s1.at_
        · rw [if_pos (.inr d4)] at h3
          exact .inl ⟨.inr ⟨beq_eq_false_iff_ne.mpr d0, decide_eq_true d4⟩, h3⟩
        · rw [if_neg (by rintro (h0 | h0) <;> contradiction)] at h3
          exact .inr ⟨beq_eq_false_iff_ne.mpr d0, decide_eq_false d4, Option.some.inj h3⟩
    have hop : (decide (o0 > 8) = true ∧ (s1.tempo == 0) = true ∧ wrap64 (4 + Int.tmod o0 5) = op) ∨ ((decide (o0 > 8) = true ∧ (s1.tempo == 0) = false ∨ decide (o0 > 8) = false) ∧ o0 = op) := by
      by_cases d0 : 8 < o0
      · by_cases d1 : s1.tempo = 0
        · rw [if_pos ⟨d0, d1⟩] at h8
          exact .inl ⟨decide_eq_true d0, beq_iff_eq.mpr d1, Option.some.inj h8⟩
        · rw [if_neg (fun q => d1 q.2)] at h8
          exact .inr ⟨.inl ⟨decide_eq_true d0, beq_eq_false_iff_ne.mpr d1⟩, Option.some.inj h8⟩
      · rw [if_neg (fun q => d0 q.1)] at h8
        exact .inr ⟨.inr (decide_eq_false d0), Option.some.inj h8⟩
    clear h3 h8
    by_cases d4 : op < 4
    · rw [if_pos d4] at h
      have e4 : decide (op < 4) = true := decide_eq_true d4
      clear d4
      by_cases dp : 0 < props
      · rw [if_pos dp] at h
        have ep : decide (props > 0) = true := decide_eq_true dp
        clear dp
        obtain ⟨v, h4, h⟩ := Option.bind_eq_some_iff.mp h
        have H4 := Aside0.mk h4
        have H5 := Aside0.mk h
        clear h h4
        rcases hdp with ⟨(d0 | ⟨d0, d1⟩), h3⟩ | ⟨d0, d1, rfl⟩ <;> rcases hop with ⟨t0, t1, rfl⟩ | ⟨⟨t0, t1⟩ | t0, rfl⟩
        all_goals try (have H3 := Aside0.mk h3; clear h3)
        all_goals go_enter Tryd.func29, Tryd.ntmps29
        all_goals go_wp2_with (first | (go_at_call 38; go_must (refine (grown_take.calls w0 A c raw g vars props R0.out BG.out st r s1 _ HV.out H1.out).mono ?_; rintro e w1 ⟨rfl, hv⟩; have HV1 := Aside0.mk hv; clear hv)) | ((with_reducible refine gate_dst (N := 4) rfl ?_); go_must (refine box_event ?hg (N := 4) ?hd (cs := #[.int .i64 0, .int .i64 0]) (t := 79) ?hr ?_; (case hd => rfl); (case hg => rfl); (case hr => first | (go_simp; done) | (go_simp; rfl)); intro g4 hg w2 hbox hb; have K4 := Aside0.mk hbox; have HV2 := Aside0.mk (GrownAt.below HV1.out hb); have G4 := Aside0.mk (show w0.heap.size ≤ g4 by rw [hg]; exact HV1.out.size); have N4 : g ≠ g4 := (by rw [hg]; exact Nat.ne_of_lt HV1.out.lt); clear hb hbox hg; have h20 : w2.cell? ⟨g4, 0, none⟩ = some (.int .i64 0) := (blk_cell K4.out 0).trans rfl; have h21 : w2.cell? ⟨g4, 1, none⟩ = some (.int .i64 0) := (blk_cell K4.out 1).trans rfl; have f20 := blk_frozen K4.out 0; have f21 := blk_frozen K4.out 1)) | ((with_reducible refine gate_store (t := 79) (p := 4) (v := .tmp 7) rfl ?_); go_must (refine store_event (t := 79) (p := 4) (v := .tmp 7) (w1 := ((w2.setCell ⟨g4, 0, none⟩ (.int .i64 r.f0)).setCell ⟨g4, 1, none⟩ (.int .i64 r.f1))) ?hg ?ho ?hn ?hr ?_; (case ho => rfl); (case hg => rfl); (case hn => rfl); (case hr => first | (go_simp; done) | (go_simp; rfl)); intro w3 hw; have K43 := Aside0.mk (show w3.heap[g4]? = some (.cells #[.int .i64 r.f0, .int .i64 r.f1] 79 (0, 0)) by rw [hw]; exact blk_put (blk_put K4.out 0 _ rfl) 1 _ rfl); have HV3 := Aside0.mk (show GrownAt w0 w3 g A raw.length c vars props s1 by rw [hw]; exact GrownAt.box2 HV2.out K4.out N4 G4.out _ _); clear hw; have h30 : w3.cell? ⟨g4, 0, none⟩ = some (.int .i64 r.f0) := (blk_cell K43.out 0).trans rfl; have h31 : w3.cell? ⟨g4, 1, none⟩ = some (.int .i64 r.f1) := (blk_cell K43.out 1).trans rfl; have z31 := HV3.out.c1; have z32 := HV3.out.c2; have z33 := HV3.out.c3; have z34 := HV3.out.c4; have zf34 := HV3.out.f4)) | (go_at_call 18; go_must (refine (picked_same _ _ _ _ (by first | exact H2.out | exact H3.out | exact H4.out)).mono ?_; rintro e w' ⟨rfl, hww⟩; obtain rfl := hww.symm)))
        all_goals go_still_tail 8, (by kernel_rfl)
        all_goals still_call (picked_same _ _ _ _ H4.out)
        all_goals refine wpStill_nil ?_
        all_goals change wpList _ _ _ _ _ w3.drew
        all_goals have HV3d := Aside0.mk (show GrownAt w0 w3.drew g A raw.length c vars props s1 from HV3.out.drewN 1)
        all_goals generalize w3.drew = w3d at *
        all_goals go_wp2_with (go_at_call 39; go_must (refine (grown_put.calls w0 A raw.length c g vars props BG.out s1 _ _ _ _ HV3d.out H5.out).mono ?_; rintro e w4 ⟨rfl, hv⟩; have HV4 := Aside0.mk hv; clear hv))
        all_goals go_end0
        all_goals exact ⟨rfl, HV4.out⟩
      · rw [if_neg dp] at h
        have ep : decide (props > 0) = false := decide_eq_false dp
        clear dp
        obtain ⟨v, h4, h⟩ := Option.bind_eq_some_iff.mp h
        have H4 := Aside0.mk h4
        have H5 := Aside0.mk h
        clear h h4
        rcases hdp with ⟨(d0 | ⟨d0, d1⟩), h3⟩ | ⟨d0, d1, rfl⟩ <;> rcases hop with ⟨t0, t1, rfl⟩ | ⟨⟨t0, t1⟩ | t0, rfl⟩
        all_goals try (have H3 := Aside0.mk h3; clear h3)
        all_goals go_enter Tryd.func29, Tryd.ntmps29
        all_goals go_wp2_with (first | (go_at_call 38; go_must (refine (grown_take.calls w0 A c raw g vars props R0.out BG.out st r s1 _ HV.out H1.out).mono ?_; rintro e w1 ⟨rfl, hv⟩; have HV1 := Aside0.mk hv; clear hv)) | ((with_reducible refine gate_dst (N := 4) rfl ?_); go_must (refine box_event ?hg (N := 4) ?hd (cs := #[.int .i64 0, .int .i64 0]) (t := 79) ?hr ?_; (case hd => rfl); (case hg => rfl); (case hr => first | (go_simp; done) | (go_simp; rfl)); intro g4 hg w2 hbox hb; have K4 := Aside0.mk hbox; have HV2 := Aside0.mk (GrownAt.below HV1.out hb); have G4 := Aside0.mk (show w0.heap.size ≤ g4 by rw [hg]; exact HV1.out.size); have N4 : g ≠ g4 := (by rw [hg]; exact Nat.ne_of_lt HV1.out.lt); clear hb hbox hg; have h20 : w2.cell? ⟨g4, 0, none⟩ = some (.int .i64 0) := (blk_cell K4.out 0).trans rfl; have h21 : w2.cell? ⟨g4, 1, none⟩ = some (.int .i64 0) := (blk_cell K4.out 1).trans rfl; have f20 := blk_frozen K4.out 0; have f21 := blk_frozen K4.out 1)) | ((with_reducible refine gate_store (t := 79) (p := 4) (v := .tmp 7) rfl ?_); go_must (refine store_event (t := 79) (p := 4) (v := .tmp 7) (w1 := ((w2.setCell ⟨g4, 0, none⟩ (.int .i64 r.f0)).setCell ⟨g4, 1, none⟩ (.int .i64 r.f1))) ?hg ?ho ?hn ?hr ?_; (case ho => rfl); (case hg => rfl); (case hn => rfl); (case hr => first | (go_simp; done) | (go_simp; rfl)); intro w3 hw; have K43 := Aside0.mk (show w3.heap[g4]? = some (.cells #[.int .i64 r.f0, .int .i64 r.f1] 79 (0, 0)) by rw [hw]; exact blk_put (blk_put K4.out 0 _ rfl) 1 _ rfl); have HV3 := Aside0.mk (show GrownAt w0 w3 g A raw.length c vars props s1 by rw [hw]; exact GrownAt.box2 HV2.out K4.out N4 G4.out _ _); clear hw; have h30 : w3.cell? ⟨g4, 0, none⟩ = some (.int .i64 r.f0) := (blk_cell K43.out 0).trans rfl; have h31 : w3.cell? ⟨g4, 1, none⟩ = some (.int .i64 r.f1) := (blk_cell K43.out 1).trans rfl; have z31 := HV3.out.c1; have z32 := HV3.out.c2; have z33 := HV3.out.c3; have z34 := HV3.out.c4; have zf34 := HV3.out.f4)) | (go_at_call 18; go_must (refine (picked_same _ _ _ _ (by first | exact H2.out | exact H3.out | exact H4.out)).mono ?_; rintro e w' ⟨rfl, hww⟩; obtain rfl := hww.symm)) | (go_at_call 39; go_must (refine (grown_put.calls w0 A raw.length c g vars props BG.out s1 _ _ _ _ HV3.out H5.out).mono ?_; rintro e w4 ⟨rfl, hv⟩; have HV4 := Aside0.mk hv; clear hv)))
        all_goals go_end0
        all_goals exact ⟨rfl, HV4.out⟩
    · rw [if_neg d4] at h
      have e4 : decide (op < 4) = false := decide_eq_false d4
      by_cases d6 : op < 6
      · rw [if_pos d6] at h
        have e6 : decide (op < 6) = true := decide_eq_true d6
        clear d4 d6
        obtain ⟨s2, h4, h⟩ := Option.bind_eq_some_iff.mp h
        have H5 := Aside0.mk h4
        have H6 := Aside0.mk h
        clear h h4
        rcases hdp with ⟨(d0 | ⟨d0, d1⟩), h3⟩ | ⟨d0, d1, rfl⟩ <;> rcases hop with ⟨t0, t1, rfl⟩ | ⟨⟨t0, t1⟩ | t0, rfl⟩
        all_goals try (have H3 := Aside0.mk h3; clear h3)
        all_goals go_enter Tryd.func29, Tryd.ntmps29
        all_goals go_wp2_with (first | (go_at_call 38; go_must (refine (grown_take.calls w0 A c raw g vars props R0.out BG.out st r s1 _ HV.out H1.out).mono ?_; rintro e w1 ⟨rfl, hv⟩; have HV1 := Aside0.mk hv; clear hv)) | ((with_reducible refine gate_dst (N := 4) rfl ?_); go_must (refine box_event ?hg (N := 4) ?hd (cs := #[.int .i64 0, .int .i64 0]) (t := 79) ?hr ?_; (case hd => rfl); (case hg => rfl); (case hr => first | (go_simp; done) | (go_simp; rfl)); intro g4 hg w2 hbox hb; have K4 := Aside0.mk hbox; have HV2 := Aside0.mk (GrownAt.below HV1.out hb); have G4 := Aside0.mk (show w0.heap.size ≤ g4 by rw [hg]; exact HV1.out.size); have N4 : g ≠ g4 := (by rw [hg]; exact Nat.ne_of_lt HV1.out.lt); clear hb hbox hg; have h20 : w2.cell? ⟨g4, 0, none⟩ = some (.int .i64 0) := (blk_cell K4.out 0).trans rfl; have h21 : w2.cell? ⟨g4, 1, none⟩ = some (.int .i64 0) := (blk_cell K4.out 1).trans rfl; have f20 := blk_frozen K4.out 0; have f21 := blk_frozen K4.out 1)) | ((with_reducible refine gate_store (t := 79) (p := 4) (v := .tmp 7) rfl ?_); go_must (refine store_event (t := 79) (p := 4) (v := .tmp 7) (w1 := ((w2.setCell ⟨g4, 0, none⟩ (.int .i64 r.f0)).setCell ⟨g4, 1, none⟩ (.int .i64 r.f1))) ?hg ?ho ?hn ?hr ?_; (case ho => rfl); (case hg => rfl); (case hn => rfl); (case hr => first | (go_simp; done) | (go_simp; rfl)); intro w3 hw; have K43 := Aside0.mk (show w3.heap[g4]? = some (.cells #[.int .i64 r.f0, .int .i64 r.f1] 79 (0, 0)) by rw [hw]; exact blk_put (blk_put K4.out 0 _ rfl) 1 _ rfl); have HV3 := Aside0.mk (show GrownAt w0 w3 g A raw.length c vars props s1 by rw [hw]; exact GrownAt.box2 HV2.out K4.out N4 G4.out _ _); clear hw; have h30 : w3.cell? ⟨g4, 0, none⟩ = some (.int .i64 r.f0) := (blk_cell K43.out 0).trans rfl; have h31 : w3.cell? ⟨g4, 1, none⟩ = some (.int .i64 r.f1) := (blk_cell K43.out 1).trans rfl; have z31 := HV3.out.c1; have z32 := HV3.out.c2; have z33 := HV3.out.c3; have z34 := HV3.out.c4; have zf34 := HV3.out.f4)) | (go_at_call 18; go_must (refine (picked_same _ _ _ _ (by first | exact H2.out | exact H3.out | exact H4.out)).mono ?_; rintro e w' ⟨rfl, hww⟩; obtain rfl := hww.symm)) | (go_at_call 39; go_must (refine (grown_put.calls w0 A raw.length c g vars props BG.out s1 _ _ _ _ HV3.out H5.out).mono ?_; rintro e w4 ⟨rfl, hv⟩; have HV4 := Aside0.mk hv; clear hv)) | (go_at_call 29; go_must (refine (ih _ _ _ _ HV4.out H6.out).mono ?_; rintro e w5 ⟨rfl, hv⟩; have HVn := Aside0.mk hv; clear hv)))
        all_goals go_end0
        all_goals exact ⟨rfl, HVn.out⟩
      · rw [if_neg d6] at h
        have e6 : decide (op < 6) = false := decide_eq_false d6
        by_cases d9 : op < 9
        · rw [if_pos d9] at h
          have e9 : decide (op < 9) = true := decide_eq_true d9
          clear d4 d6 d9
          obtain ⟨s2, h4, h⟩ := Option.bind_eq_some_iff.mp h
          obtain ⟨s3, h5, h⟩ := Option.bind_eq_some_iff.mp h
          have H5 := Aside0.mk h4
          have H6 := Aside0.mk h5
          have H7 := Aside0.mk h
          clear h h4 h5
          rcases hdp with ⟨(d0 | ⟨d0, d1⟩), h3⟩ | ⟨d0, d1, rfl⟩ <;> rcases hop with ⟨t0, t1, rfl⟩ | ⟨⟨t0, t1⟩ | t0, rfl⟩
          all_goals try (have H3 := Aside0.mk h3; clear h3)
          all_goals go_enter Tryd.func29, Tryd.ntmps29
          all_goals go_wp2_with (first | (go_at_call 38; go_must (refine (grown_take.calls w0 A c raw g vars props R0.out BG.out st r s1 _ HV.out H1.out).mono ?_; rintro e w1 ⟨rfl, hv⟩; have HV1 := Aside0.mk hv; clear hv)) | ((with_reducible refine gate_dst (N := 4) rfl ?_); go_must (refine box_event ?hg (N := 4) ?hd (cs := #[.int .i64 0, .int .i64 0]) (t := 79) ?hr ?_; (case hd => rfl); (case hg => rfl); (case hr => first | (go_simp; done) | (go_simp; rfl)); intro g4 hg w2 hbox hb; have K4 := Aside0.mk hbox; have HV2 := Aside0.mk (GrownAt.below HV1.out hb); have G4 := Aside0.mk (show w0.heap.size ≤ g4 by rw [hg]; exact HV1.out.size); have N4 : g ≠ g4 := (by rw [hg]; exact Nat.ne_of_lt HV1.out.lt); clear hb hbox hg; have h20 : w2.cell? ⟨g4, 0, none⟩ = some (.int .i64 0) := (blk_cell K4.out 0).trans rfl; have h21 : w2.cell? ⟨g4, 1, none⟩ = some (.int .i64 0) := (blk_cell K4.out 1).trans rfl; have f20 := blk_frozen K4.out 0; have f21 := blk_frozen K4.out 1)) | ((with_reducible refine gate_store (t := 79) (p := 4) (v := .tmp 7) rfl ?_); go_must (refine store_event (t := 79) (p := 4) (v := .tmp 7) (w1 := ((w2.setCell ⟨g4, 0, none⟩ (.int .i64 r.f0)).setCell ⟨g4, 1, none⟩ (.int .i64 r.f1))) ?hg ?ho ?hn ?hr ?_; (case ho => rfl); (case hg => rfl); (case hn => rfl); (case hr => first | (go_simp; done) | (go_simp; rfl)); intro w3 hw; have K43 := Aside0.mk (show w3.heap[g4]? = some (.cells #[.int .i64 r.f0, .int .i64 r.f1] 79 (0, 0)) by rw [hw]; exact blk_put (blk_put K4.out 0 _ rfl) 1 _ rfl); have HV3 := Aside0.mk (show GrownAt w0 w3 g A raw.length c vars props s1 by rw [hw]; exact GrownAt.box2 HV2.out K4.out N4 G4.out _ _); clear hw; have h30 : w3.cell? ⟨g4, 0, none⟩ = some (.int .i64 r.f0) := (blk_cell K43.out 0).trans rfl; have h31 : w3.cell? ⟨g4, 1, none⟩ = some (.int .i64 r.f1) := (blk_cell K43.out 1).trans rfl; have z31 := HV3.out.c1; have z32 := HV3.out.c2; have z33 := HV3.out.c3; have z34 := HV3.out.c4; have zf34 := HV3.out.f4)) | (go_at_call 18; go_must (refine (picked_same _ _ _ _ (by first | exact H2.out | exact H3.out | exact H4.out)).mono ?_; rintro e w' ⟨rfl, hww⟩; obtain rfl := hww.symm)) | (go_at_call 39; go_must (refine (grown_put.calls w0 A raw.length c g vars props BG.out s1 _ _ _ _ HV3.out H5.out).mono ?_; rintro e w4 ⟨rfl, hv⟩; have HV4 := Aside0.mk hv; clear hv)) | (go_at_call 29; go_must (first | (refine (ih _ _ _ _ HV5.out H7.out).mono ?_; rintro e w6 ⟨rfl, hv⟩; have HVn := Aside0.mk hv; clear hv) | (refine (ih _ _ _ _ HV4.out H6.out).mono ?_; rintro e w5 ⟨rfl, hv⟩; have HV5 := Aside0.mk hv; clear hv))))
          all_goals go_end0
          all_goals exact ⟨rfl, HVn.out⟩
        · rw [if_neg d9] at h
          have e9 : decide (op < 9) = false := decide_eq_false d9
          by_cases d13 : op < 13
          · rw [if_pos d13] at h
            have e13 : decide (op < 13) = true := decide_eq_true d13
            obtain ⟨s2, h4, h⟩ := Option.bind_eq_some_iff.mp h
            have H5 := Aside0.mk h4
            have H6 := Aside0.mk h
            clear h h4
            have hk : op = 9 ∨ op = 10 ∨ op = 11 ∨ op = 12 := by omega
            clear d4 d6 d9 d13 e4 e6 e9 e13
            rcases hop with ⟨t0, t1, t2⟩ | ⟨⟨t0, t1⟩ | t0, t2⟩
            rotate_left 2
            · exact absurd (of_decide_eq_false t0) (by omega)
            all_goals rcases hk with rfl | rfl | rfl | rfl
            all_goals rcases hdp with ⟨(d0 | ⟨d0, d1⟩), h3⟩ | ⟨d0, d1, rfl⟩
            all_goals try (have H3 := Aside0.mk h3; clear h3)
            all_goals go_enter Tryd.func29, Tryd.ntmps29
            all_goals go_wp2_with (first | (go_at_call 38; go_must (refine (grown_take.calls w0 A c raw g vars props R0.out BG.out st r s1 _ HV.out H1.out).mono ?_; rintro e w1 ⟨rfl, hv⟩; have HV1 := Aside0.mk hv; clear hv)) | ((with_reducible refine gate_dst (N := 4) rfl ?_); go_must (refine box_event ?hg (N := 4) ?hd (cs := #[.int .i64 0, .int .i64 0]) (t := 79) ?hr ?_; (case hd => rfl); (case hg => rfl); (case hr => first | (go_simp; done) | (go_simp; rfl)); intro g4 hg w2 hbox hb; have K4 := Aside0.mk hbox; have HV2 := Aside0.mk (GrownAt.below HV1.out hb); have G4 := Aside0.mk (show w0.heap.size ≤ g4 by rw [hg]; exact HV1.out.size); have N4 : g ≠ g4 := (by rw [hg]; exact Nat.ne_of_lt HV1.out.lt); clear hb hbox hg; have h20 : w2.cell? ⟨g4, 0, none⟩ = some (.int .i64 0) := (blk_cell K4.out 0).trans rfl; have h21 : w2.cell? ⟨g4, 1, none⟩ = some (.int .i64 0) := (blk_cell K4.out 1).trans rfl; have f20 := blk_frozen K4.out 0; have f21 := blk_frozen K4.out 1)) | ((with_reducible refine gate_store (t := 79) (p := 4) (v := .tmp 7) rfl ?_); go_must (refine store_event (t := 79) (p := 4) (v := .tmp 7) (w1 := ((w2.setCell ⟨g4, 0, none⟩ (.int .i64 r.f0)).setCell ⟨g4, 1, none⟩ (.int .i64 r.f1))) ?hg ?ho ?hn ?hr ?_; (case ho => rfl); (case hg => rfl); (case hn => rfl); (case hr => first | (go_simp; done) | (go_simp; rfl)); intro w3 hw; have K43 := Aside0.mk (show w3.heap[g4]? = some (.cells #[.int .i64 r.f0, .int .i64 r.f1] 79 (0, 0)) by rw [hw]; exact blk_put (blk_put K4.out 0 _ rfl) 1 _ rfl); have HV3 := Aside0.mk (show GrownAt w0 w3 g A raw.length c vars props s1 by rw [hw]; exact GrownAt.box2 HV2.out K4.out N4 G4.out _ _); clear hw; have h30 : w3.cell? ⟨g4, 0, none⟩ = some (.int .i64 r.f0) := (blk_cell K43.out 0).trans rfl; have h31 : w3.cell? ⟨g4, 1, none⟩ = some (.int .i64 r.f1) := (blk_cell K43.out 1).trans rfl; have z31 := HV3.out.c1; have z32 := HV3.out.c2; have z33 := HV3.out.c3; have z34 := HV3.out.c4; have zf34 := HV3.out.f4)) | (go_at_call 18; go_must (refine (picked_same _ _ _ _ (by first | exact H2.out | exact H3.out | exact H4.out)).mono ?_; rintro e w' ⟨rfl, hww⟩; obtain rfl := hww.symm)) | ((with_reducible refine gate_store (t := 3) (p := 117) (v := .tmp 115) rfl ?_); go_must (refine store_event (t := 3) (p := 117) (v := .tmp 115) (w1 := (w3.setCell ⟨g, 4, none⟩ (.int .i64 (wrap64 (s1.tempo - 1))))) ?hg ?ho ?hn ?hr ?_; (case ho => rfl); (case hg => rfl); (case hn => rfl); (case hr => first | (go_simp; done) | (go_simp; rfl)); intro w5 hw; have HV5 := Aside0.mk (show GrownAt w0 w5 g A raw.length c vars props { s1 with tempo := wrap64 (s1.tempo - 1) } by rw [hw]; exact GrownAt.put4 HV3.out BG.out _); clear hw; have hl0 : (w5.alloc (.cells #[.int .i64 14, .int .i64 17, .int .i64 18, .int .i64 17] 3 (0, 0))).cell? ⟨w5.heap.size, 0, none⟩ = some (.int .i64 14) := (blk_cell (blk_new w5 _) 0).trans rfl; have hl1 : (w5.alloc (.cells #[.int .i64 14, .int .i64 17, .int .i64 18, .int .i64 17] 3 (0, 0))).cell? ⟨w5.heap.size, 1, none⟩ = some (.int .i64 17) := (blk_cell (blk_new w5 _) 1).trans rfl; have hl2 : (w5.alloc (.cells #[.int .i64 14, .int .i64 17, .int .i64 18, .int .i64 17] 3 (0, 0))).cell? ⟨w5.heap.size, 2, none⟩ = some (.int .i64 18) := (blk_cell (blk_new w5 _) 2).trans rfl; have hl3 : (w5.alloc (.cells #[.int .i64 14, .int .i64 17, .int .i64 18, .int .i64 17] 3 (0, 0))).cell? ⟨w5.heap.size, 3, none⟩ = some (.int .i64 17) := (blk_cell (blk_new w5 _) 3).trans rfl)) | (go_at_call 39; go_must (refine (grown_put.calls w0 A raw.length c g vars props BG.out { s1 with tempo := wrap64 (s1.tempo - 1) } _ _ _ _ (GrownAt.below HV5.out (below_alloc (Below.refl _ _) _)) H5.out).mono ?_; rintro e w4 ⟨rfl, hv⟩; have HV4 := Aside0.mk hv; clear hv HV5)) | (go_at_call 29; go_must (refine (ih _ _ _ _ HV4.out H6.out).mono ?_; rintro e w5 ⟨rfl, hv⟩; have HVn := Aside0.mk hv; clear hv)))
            all_goals go_end0
            all_goals exact ⟨rfl, HVn.out⟩
          · rw [if_neg d13] at h
            have e13 : decide (op < 13) = false := decide_eq_false d13
            clear d4 d6 d9 d13
            obtain ⟨s2, h4, h⟩ := Option.bind_eq_some_iff.mp h
            obtain ⟨s3, h5, h⟩ := Option.bind_eq_some_iff.mp h
            have H5 := Aside0.mk h4
            have H6 := Aside0.mk h5
            have H7 := Aside0.mk h
            clear h h4 h5
            rcases hdp with ⟨(d0 | ⟨d0, d1⟩), h3⟩ | ⟨d0, d1, rfl⟩ <;> rcases hop with ⟨t0, t1, rfl⟩ | ⟨⟨t0, t1⟩ | t0, rfl⟩
            all_goals try (have H3 := Aside0.mk h3; clear h3)
            all_goals go_enter Tryd.func29, Tryd.ntmps29
            all_goals go_wp2_with (first | (go_at_call 38; go_must (refine (grown_take.calls w0 A c raw g vars props R0.out BG.out st r s1 _ HV.out H1.out).mono ?_; rintro e w1 ⟨rfl, hv⟩; have HV1 := Aside0.mk hv; clear hv)) | ((with_reducible refine gate_dst (N := 4) rfl ?_); go_must (refine box_event ?hg (N := 4) ?hd (cs := #[.int .i64 0, .int .i64 0]) (t := 79) ?hr ?_; (case hd => rfl); (case hg => rfl); (case hr => first | (go_simp; done) | (go_simp; rfl)); intro g4 hg w2 hbox hb; have K4 := Aside0.mk hbox; have HV2 := Aside0.mk (GrownAt.below HV1.out hb); have G4 := Aside0.mk (show w0.heap.size ≤ g4 by rw [hg]; exact HV1.out.size); have N4 : g ≠ g4 := (by rw [hg]; exact Nat.ne_of_lt HV1.out.lt); clear hb hbox hg; have h20 : w2.cell? ⟨g4, 0, none⟩ = some (.int .i64 0) := (blk_cell K4.out 0).trans rfl; have h21 : w2.cell? ⟨g4, 1, none⟩ = some (.int .i64 0) := (blk_cell K4.out 1).trans rfl; have f20 := blk_frozen K4.out 0; have f21 := blk_frozen K4.out 1)) | ((with_reducible refine gate_store (t := 79) (p := 4) (v := .tmp 7) rfl ?_); go_must (refine store_event (t := 79) (p := 4) (v := .tmp 7) (w1 := ((w2.setCell ⟨g4, 0, none⟩ (.int .i64 r.f0)).setCell ⟨g4, 1, none⟩ (.int .i64 r.f1))) ?hg ?ho ?hn ?hr ?_; (case ho => rfl); (case hg => rfl); (case hn => rfl); (case hr => first | (go_simp; done) | (go_simp; rfl)); intro w3 hw; have K43 := Aside0.mk (show w3.heap[g4]? = some (.cells #[.int .i64 r.f0, .int .i64 r.f1] 79 (0, 0)) by rw [hw]; exact blk_put (blk_put K4.out 0 _ rfl) 1 _ rfl); have HV3 := Aside0.mk (show GrownAt w0 w3 g A raw.length c vars props s1 by rw [hw]; exact GrownAt.box2 HV2.out K4.out N4 G4.out _ _); clear hw; have h30 : w3.cell? ⟨g4, 0, none⟩ = some (.int .i64 r.f0) := (blk_cell K43.out 0).trans rfl; have h31 : w3.cell? ⟨g4, 1, none⟩ = some (.int .i64 r.f1) := (blk_cell K43.out 1).trans rfl; have z31 := HV3.out.c1; have z32 := HV3.out.c2; have z33 := HV3.out.c3; have z34 := HV3.out.c4; have zf34 := HV3.out.f4)) | (go_at_call 18; go_must (refine (picked_same _ _ _ _ (by first | exact H2.out | exact H3.out | exact H4.out)).mono ?_; rintro e w' ⟨rfl, hww⟩; obtain rfl := hww.symm)) | ((with_reducible refine gate_store (t := 3) (p := 41) (v := .tmp 39) rfl ?_); go_must (refine store_event (t := 3) (p := 41) (v := .tmp 39) (w1 := (w3.setCell ⟨g, 4, none⟩ (.int .i64 (wrap64 (s1.tempo - 1))))) ?hg ?ho ?hn ?hr ?_; (case ho => rfl); (case hg => rfl); (case hn => rfl); (case hr => first | (go_simp; done) | (go_simp; rfl)); intro w5 hw; have HV5 := Aside0.mk (show GrownAt w0 w5 g A raw.length c vars props { s1 with tempo := wrap64 (s1.tempo - 1) } by rw [hw]; exact GrownAt.put4 HV3.out BG.out _); clear hw)) | (go_at_call 39; go_must (refine (grown_put.calls w0 A raw.length c g vars props BG.out { s1 with tempo := wrap64 (s1.tempo - 1) } _ _ _ _ HV5.out H5.out).mono ?_; rintro e w4 ⟨rfl, hv⟩; have HV4 := Aside0.mk hv; clear hv HV5)) | (go_at_call 29; go_must (first | (refine (ih _ _ _ _ HV5.out H7.out).mono ?_; rintro e w6 ⟨rfl, hv⟩; have HVn := Aside0.mk hv; clear hv) | (refine (ih _ _ _ _ HV4.out H6.out).mono ?_; rintro e w5 ⟨rfl, hv⟩; have HV5 := Aside0.mk hv; clear hv))))
            all_goals go_end0
            all_goals exact ⟨rfl, HVn.out⟩

/-! ### foretellkeep_Formula: function 16 -/
--IMPORT FGrownTake
--IMPORT Derived.WalkSpells
def foretellkeep_Formula.f (k : Nat) (l0 : List (S79)) (a1 : Int) (a2 : Int) : Option ((List (S51))) := (grown_formula.f k l0 a1 ⟨0, a2, []⟩ 4).bind fun st => some st.out
theorem foretellkeep_Formula.mono : ∀ a0 a1 a2 k, LeO (foretellkeep_Formula.f k a0 a1 a2) (foretellkeep_Formula.f (k + 1) a0 a1 a2) := by
  intro a0 a1 a2 k
  unfold foretellkeep_Formula.f
  exact LeO.bind (grown_formula.mono_f k _ _ _ _) (fun _ => LeO.refl _)
set_option maxHeartbeats 8000000 in
set_option maxRecDepth 100000 in
theorem foretellkeep_Formula.calls (k : Nat) (A0 : Option Addr) (c0 : Nat) (l0 : List (S79)) (a1 : Int) (a2 : Int) (r : List (S51)) (w : World) (hr0 : Kd.C k79 w A0 l0.length l0) (hc0 : l0.length ≤ c0) (h : foretellkeep_Formula.f k l0 a1 a2 = some r) :
    Calls Tryd.prog 16 #[.slice A0 l0.length c0, .int .i64 a1, .int .i64 a2] w fun e w' => ∃ v0_ : Value, e = .returned (v0_) ∧ Kd.R k51 51 w' w.heap.size (fun _ => True) v0_ r ∧ Below w.heap.size w w' := by
  have R0 := Aside0.mk hr0
  clear hr0 hc0
  unfold foretellkeep_Formula.f at h
  obtain ⟨st, h1, h⟩ := Option.bind_eq_some_iff.mp h
  obtain rfl := Option.some.inj h
  have H1 := Aside0.mk h1
  clear h h1
  go_enter Tryd.func16, Tryd.ntmps16
  go_wp2_with (first | ((with_reducible refine gate_dst (N := 12) rfl ?_); go_must (refine box_event ?hg (N := 12) ?hd (cs := #[.slice A0 l0.length c0, .int .i64 0, .int .i64 0, .int .i64 a1, .int .i64 a2, .slice none 0 0]) (t := 63) ?hr ?_; (case hd => rfl); (case hg => rfl); (case hr => first | (go_simp; done) | (go_simp; rfl)); intro g hg w1 hbox hb; have HV := Aside0.mk (show GrownAt w w1 g A0 l0.length c0 0 a1 ⟨0, a2, []⟩ from ⟨_, hbox, Kd.R_nil _ _ _ _ _, hb⟩); have BG := Aside0.mk (show w.heap.size ≤ g by rw [hg]; exact Nat.le_refl _); clear hb hbox hg)) | (go_at_call 29; go_must (refine (grown_formula.calls w A0 c0 l0 g 0 a1 R0.out BG.out k _ _ _ _ HV.out H1.out).mono ?_; rintro e w2 ⟨rfl, hv⟩; obtain ⟨vo, k2, ro, b2⟩ := hv; have K2 := Aside0.mk k2; have RO := Aside0.mk ro; have HB := Aside0.mk b2; clear k2 ro b2; have hcz5 : w2.cell? ⟨g, 5, none⟩ = some vo := (blk_cell K2.out 5).trans rfl)))
  go_ret
  exact ⟨_, rfl, RO.out, HB.out⟩

end Go.Proofs.YtcoaeefmmnohkaaDoor.P
end
