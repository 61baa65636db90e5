-- PACKED by pack.py of this repo: FForetellkeepFairMore
import Derived.WalkSpells
import Derived.Deep.RegionLaw
import Derived.Deep.RegionHeld3
import Derived.Deep.DrawnRows
import Derived.Test.YtpkigkmkolbiiaaK2
import Derived.Test.YtpkigkmkolbiiaaK3
import Derived.Test.YtpkigkmkolbiiaaK4
import Derived.Test.YtpkigkmkolbiiaaK11
section
namespace Go.Proofs.Ytpkigkmkolbiiaa.P
open Go.RowKit Go.Proofs.YtpkigkmkolbiiaaW.PrintWords Go.Proofs.YtpkigkmkolbiiaaW.PrintLast Go.Proofs.YtpkigkmkolbiiaaW.PrintMore Go.Proofs.Ytpkigkmkolbiiaa.G
attribute [local go_sem] max2_int min2_int max_two min_two max_three min_three max_four min_four   -- for this text's walks alone
set_option linter.unusedVariables false
set_option linter.unusedSimpArgs false

/-! ### foretellkeep_FairMore: function 5 -/
--IMPORT Derived.WalkSpells
--IMPORT Derived.Deep.RegionLaw
--IMPORT Derived.Deep.RegionLaw
--IMPORT Derived.Deep.RegionHeld3
--IMPORT Derived.Deep.DrawnRows
def foretellkeep_FairMore.go (k : Nat) (a1 a2 a3 : Int) (sp : List S45) (f : Int) (nx : List (List Int)) (ms : List Int) (many : Int) : Option Bool :=
  if (sp.length : Int) = 0 then (scc_Fair.f k sp f nx ms many).bind fun e => some (e.2 == 11)
  else (foretellkeep_picked.f a1 (sp.length : Int)).bind fun x =>
    if 0 ≤ x then (if x < (nx.length : Int) then (if x < (ms.length : Int) then (if (rd_L1 nx x).length ≤ 1000 then (if 0 ≤ many then
      ((foretellkeep_picked.f a2 (sp.length : Int)).bind fun y => (foretellkeep_picked.f a3 (shl .i64 1 many)).bind fun z =>
        (scc_Fair.f k sp f nx ms many).bind fun e => (scc_Fair.f k sp f (nx.set x.toNat (rd_L1 nx x ++ [y])) (ms.set x.toNat (Go.bits .or .i64 (rd ms x) z)) many).bind fun e2 =>
          some (((e.2 == 0) || (e.2 == 11)) && ((e2.2 == 0) || (e2.2 == 11)) && ((e.2 != 0) || (e2.2 == 0))))
      else none) else none) else none) else none) else none
def foretellkeep_FairMore.f (k : Nat) (l0_0 : List (List Int)) (l0_1 : List Int) (a0_2 : Int) (a0_3 : Int) (a1 : Int) (a2 : Int) (a3 : Int) : Option (Bool) :=
  (foretellkeep_Graph.f k l0_0 l0_1 a0_2 a0_3).bind fun g => foretellkeep_FairMore.go k a1 a2 a3 g.1 g.2.1 g.2.2.1 g.2.2.2.1 g.2.2.2.2
theorem foretellkeep_FairMore.mono : ∀ a0 a1 a2 a3 a4 a5 a6 k, LeO (foretellkeep_FairMore.f k a0 a1 a2 a3 a4 a5 a6) (foretellkeep_FairMore.f (k + 1) a0 a1 a2 a3 a4 a5 a6) := by
  intro a0 a1 a2 a3 a4 a5 a6 k
  unfold foretellkeep_FairMore.f
  refine LeO.bind (foretellkeep_Graph.mono _ _ _ _ _) (fun _ => ?_)
  unfold foretellkeep_FairMore.go
  exact LeO.ite (LeO.bind (scc_Fair.mono _ _ _ _ _ _) (fun _ => LeO.refl _)) (LeO.bind (LeO.refl _) (fun _ => LeO.ite (LeO.ite (LeO.ite (LeO.ite (LeO.ite (LeO.bind (LeO.refl _) (fun _ => LeO.bind (LeO.refl _) (fun _ => LeO.bind (scc_Fair.mono _ _ _ _ _ _) (fun _ => LeO.bind (scc_Fair.mono _ _ _ _ _ _) (fun _ => LeO.refl _))))) (LeO.none _)) (LeO.none _)) (LeO.none _)) (LeO.none _)) (LeO.none _)))
theorem foretellkeep_FairMore.picked (a0 a1 r : Int) (w : World) (h : foretellkeep_picked.f a0 a1 = some r) : Calls Try.prog 14 #[.int .i64 a0, .int .i64 a1] w fun e w' => e = .returned (.int .i64 r) ∧ w' = w := by
  have H := h
  unfold foretellkeep_picked.f at H
  clear h
  by_cases c3 : a0 < 0
  · rw [if_pos c3] at H
    have c3b0 : decide (a0 < 0) = true := decide_eq_true c3
    clear c3
    by_cases c4 : a1 = 0
    · rw [if_pos c4] at H
      exact absurd H (by simp)
    · rw [if_neg c4] at H
      have c4b0 : (a1 == 0) = false := beq_eq_false_iff_ne.mpr c4
      have c4b1 : (a1 != 0) = true := bne_iff_ne.mpr c4
      obtain rfl := Option.some.inj H
      go_enter Try.func14, Try.ntmps14
      go_wp2
      go_ret
      exact ⟨by first | rfl | (simp; done) | (simp [*]; done), rfl⟩
  · rw [if_neg c3] at H
    have c3b0 : decide (a0 < 0) = false := decide_eq_false c3
    clear c3
    by_cases c5 : a1 = 0
    · rw [if_pos c5] at H
      exact absurd H (by simp)
    · rw [if_neg c5] at H
      have c5b0 : (a1 == 0) = false := beq_eq_false_iff_ne.mpr c5
      have c5b1 : (a1 != 0) = true := bne_iff_ne.mpr c5
      obtain rfl := Option.some.inj H
      go_enter Try.func14, Try.ntmps14
      go_wp2
      go_ret
      exact ⟨by first | rfl | (simp; done) | (simp [*]; done), rfl⟩
theorem addr_flat (g k : Nat) : (⟨g, 0, none⟩ : Addr).add k = ⟨g, k, none⟩ := by
  cases k <;> simp [Addr.add]
def foretellkeep_FairMore.T7 : Bool × List (List Nat × List Nat) := (true, [([], []), ([0], [0]), ([], []), ([], []), ([3], [3]), ([], []), ([4, 5], [4, 5]), ([6], [6]), ([7], [7]), ([], []), ([], []), ([10], [10]), ([11], [11]), ([9, 12, 8], [9, 12]), ([13], [13]), ([8, 14, 13], [8, 14]), ([1, 2, 0, 1, 2, 3, 4, 5, 6, 7, 8, 9, 10, 11, 12, 13, 14, 15], [1, 2]), ([16, 15, 15, 0, 1, 2, 3, 4, 5, 6, 7, 8, 9, 10, 11, 12, 13, 14, 15], [15, 16])])
def foretellkeep_FairMore.B7 : List Nat := [0, 1, 0, 0, 8, 0, 56, 120, 248, 0, 0, 1024, 3072, 8184, 16376, 32760, 65535, 131071]
theorem foretellkeep_FairMore.tab7 : rtab .any (opsOf Try.f5 7) = foretellkeep_FairMore.T7 := by kernel_rfl
theorem foretellkeep_FairMore.bits7 : waitsOk foretellkeep_FairMore.T7.2 foretellkeep_FairMore.B7 = true := by kernel_rfl
def foretellkeep_FairMore.T8 : Bool × List (List Nat × List Nat) := (true, [([], []), ([0], [0]), ([], []), ([1, 2], [1, 2]), ([3], [3]), ([], []), ([], []), ([6], [6]), ([7], [7]), ([5, 8], [5, 8]), ([4, 9], [4, 9]), ([1, 2, 0, 1, 2, 3, 4, 5, 6, 7, 8, 9, 10], [1, 2]), ([11, 10, 9, 0, 1, 2, 3, 4, 5, 6, 7, 8, 9, 10], [10, 11])])
def foretellkeep_FairMore.B8 : List Nat := [0, 1, 0, 7, 15, 0, 0, 64, 192, 480, 1023, 2047, 4095]
theorem foretellkeep_FairMore.tab8 : rtab .any (opsOf Try.f5 8) = foretellkeep_FairMore.T8 := by kernel_rfl
theorem foretellkeep_FairMore.bits8 : waitsOk foretellkeep_FairMore.T8.2 foretellkeep_FairMore.B8 = true := by kernel_rfl
/-- A row that is put into a row of rows; whoever keeps the blocks that these use keeps it. -/
theorem foretellkeep_FairMore.put {w W' : World} {base base2 g n cap c : Nat} {ok ok2 Pk : Nat → Prop} {nx : List (List Int)} {A : Option Addr} {l : List Int} {x : Int} (h0 : 0 ≤ x) (hx : x < (n : Int))
    (h : Kd.R (Kd.slice 3 (Kd.int .i64)) 23 w base ok (.slice (some ⟨g, 0, none⟩) n cap) nx) (hv : Kd.R (Kd.int .i64) 3 w base2 ok2 (.slice A l.length c) l) (hP : ∀ k, ok k → Pk k) (hP2 : ∀ k, ok2 k → Pk k)
    (hW : ∀ k, Pk k → k < (w.setCell ⟨g, x.toNat, none⟩ (.slice A l.length c)).heap.size → W'.heap[k]? = (w.setCell ⟨g, x.toNat, none⟩ (.slice A l.length c)).heap[k]?) :
    Kd.C (Kd.slice 3 (Kd.int .i64)) W' (some ⟨g, 0, none⟩) n (nx.set x.toNat l) := by
  have h00 := h.1 g (by simp [Value.ownBlock])
  obtain ⟨rfl, hc, hC⟩ := Kd.R_reads' h
  obtain ⟨g', cap', he, _, _, cells, hg⟩ := Kd.R_form h (by omega)
  have hge : g = g' := by injection he with a _ _; injection a with a; injection a
  subst hge
  have hne : ∀ q, q ∈ 3 :: (Kd.int .i64).E → q ≠ 23 := by decide
  have far : ∀ {b : Nat} {o : Nat → Prop} {v : Value} {xs : List Int}, Kd.R (Kd.int .i64) 3 w b o v xs → (∀ k, o k → Pk k) → Kd.R (Kd.int .i64) 3 W' b (fun k => o k ∧ k ≠ g) v xs := fun hr ho => Kd.R_step (Kd.R_far (p := ⟨g, x.toNat, none⟩) (Kd.R_types hr hg hne) (fun _ hk => hk.2) _) (fun k hk hlt => hW k (ho k hk.1) hlt)
  have hg' := (hW g (hP g h00) (blk_lt (blk_set hg _ _))).trans (blk_set hg x.toNat (.slice A l.length c))
  refine ⟨by rw [List.length_set], hC.2.1, fun _ => ⟨_, rfl, fun j p hj => ?_⟩⟩
  have hjn : j < nx.length := by
    have := (List.getElem?_eq_some_iff.1 hj).1
    rwa [List.length_set] at this
  obtain ⟨ce, hcl, ⟨ve, rfl, hve⟩, hcell⟩ := Kd.R_getA h ([] : List Int) (j : Int) (by omega) (by omega)
  have hc0 := hcell 0 _ rfl
  simp only [show (Kd.slice 3 (Kd.int .i64)).sz = 1 from rfl, Nat.mul_one, Nat.add_zero, Int.toNat_natCast, add_plain] at hc0
  refine ⟨[if j = x.toNat then .slice A l.length c else ve], rfl, ?_, fun i u hu => ?_⟩
  · by_cases e : j = x.toNat
    · subst e
      rw [List.getElem?_set_self (by omega)] at hj
      obtain rfl := Option.some.inj hj
      obtain ⟨a1, a2, a3⟩ := Kd.R_reads' (far hv hP2)
      rw [if_pos rfl]
      exact ⟨A, c, rfl, a2, a3⟩
    · rw [List.getElem?_set_ne (by omega)] at hj
      rw [List.getD_eq_getElem?_getD, Int.toNat_natCast, hj] at hve
      obtain ⟨A', c', rfl⟩ := Kd.R_slice hve
      obtain ⟨a1, a2, a3⟩ := Kd.R_reads' (far hve (fun k hk => hP k hk.1))
      rw [if_neg e]
      exact ⟨A', c', rfl, a2, a3⟩
  · cases i with
    | succ i => exact absurd hu (by simp)
    | zero =>
      obtain rfl := Option.some.inj hu
      simp only [show (Kd.slice 3 (Kd.int .i64)).sz = 1 from rfl, Nat.mul_one, Nat.add_zero, add_plain]
      rw [blk_cell hg] at hc0
      rw [blk_cell hg']
      have hlt : j < cells.size := (Array.getElem?_eq_some_iff.1 hc0).1
      by_cases e : j = x.toNat
      · subst e
        simp [Array.getElem?_setIfInBounds, hlt]
      · rw [if_neg e, Array.getElem?_setIfInBounds_ne (fun e2 => e e2.symm)]
        exact hc0
set_option maxHeartbeats 8000000 in
set_option maxRecDepth 100000 in
theorem foretellkeep_FairMore.calls (k : Nat) (A0_0 : Option Addr) (c0_0 : Nat) (l0_0 : List (List Int)) (A0_1 : Option Addr) (c0_1 : Nat) (l0_1 : List Int) (a0_2 : Int) (a0_3 : Int) (a1 : Int) (a2 : Int) (a3 : Int) (r : Bool) (w : World) (hr0_0 : Kd.C (Kd.slice 3 (Kd.int .i64)) w A0_0 l0_0.length l0_0) (hc0_0 : l0_0.length ≤ c0_0) (hr0_1 : Kd.C (Kd.int .i64) w A0_1 l0_1.length l0_1) (hc0_1 : l0_1.length ≤ c0_1) (hr_ : Aside0 (r = true)) (h : foretellkeep_FairMore.f k l0_0 l0_1 a0_2 a0_3 a1 a2 a3 = some r) :
    Calls Try.prog 5 #[.agg #[.slice A0_0 l0_0.length c0_0, .slice A0_1 l0_1.length c0_1, .int .i64 a0_2, .int .i64 a0_3], .int .i64 a1, .int .i64 a2, .int .i64 a3] w fun e w' => e = .returned (.bool r) ∧ Below w.heap.size w w' := by
  have info3 := (by kernel_rfl : (Try.prog.info? 3).map (fun i => (i.zero, i.size, i.bytes)) = some (some (.int .i64 0), 1, 8))
  have hu28 := Try.underlying28
  have hu25 := Try.underlying25
  unfold foretellkeep_FairMore.f at h
  obtain ⟨⟨sp, f, nx, ms, many⟩, hG, h⟩ := Option.bind_eq_some_iff.mp h
  have HG := Aside0.mk hG
  have R0 := Aside0.mk hr0_0
  have L0 := Aside0.mk hc0_0
  have R1 := Aside0.mk hr0_1
  have L1 := Aside0.mk hc0_1
  simp only at h
  unfold foretellkeep_FairMore.go at h
  clear hG hr0_0 hc0_0 hr0_1 hc0_1
  by_cases c0 : (sp.length : Int) = 0
  · rw [if_pos c0] at h
    have c0b : ((sp.length : Int) == 0) = true := beq_iff_eq.mpr c0
    clear c0
    obtain ⟨⟨i1, e1⟩, hf1, h⟩ := Option.bind_eq_some_iff.mp h
    have hv := (Option.some.inj h).trans hr_.out
    simp only [beq_iff_eq] at hv
    have hrr := hr_.out
    subst hv
    clear h hr_
    subst hrr
    have HF1 := Aside0.mk hf1
    clear hf1
    go_enter Try.func5, Try.ntmps5
    have TOK1 : True := trivial
    go_wp2_with (first | ((with_reducible refine gate_dst (N := 4) rfl ?_); go_must (refine box_event ?hg (N := 4) ?hd (cs := #[.slice A0_0 l0_0.length c0_0, .slice A0_1 l0_1.length c0_1, .int .i64 a0_2, .int .i64 a0_3]) (t := 25) ?hr ?_; (case hd => rfl); (case hg => rfl); (case hr => first | (go_simp; done) | (go_simp; rfl)); intro g4 hg w1 hbox hb; have BK4 := Aside0.mk hbox; have HB := Aside0.mk hb; clear hb hbox hg; have ha0 : w1.cell? ⟨g4, 0, none⟩ = some (.slice A0_0 l0_0.length c0_0) := (blk_cell BK4.out 0).trans rfl; have ha1 : w1.cell? ⟨g4, 1, none⟩ = some (.slice A0_1 l0_1.length c0_1) := (blk_cell BK4.out 1).trans rfl; have ha2 : w1.cell? ⟨g4, 2, none⟩ = some (.int .i64 a0_2) := (blk_cell BK4.out 2).trans rfl; have ha3 : w1.cell? ⟨g4, 3, none⟩ = some (.int .i64 a0_3) := (blk_cell BK4.out 3).trans rfl; )) | (go_at_call 9; have tok_ := TOK1; go_must (refine (foretellkeep_Graph.calls k _ _ l0_0 _ _ l0_1 a0_2 a0_3 sp f nx ms many _ (Kd.C_below R0.out HB.out) L0.out (Kd.C_below R1.out HB.out) L1.out HG.out).mono ?_; rintro e w2 ⟨v0, v2, v3, rfl, r0, r2, r3, hb⟩; obtain ⟨As, cs, rfl⟩ := Kd.R_slice r0; obtain ⟨An, cn, rfl⟩ := Kd.S_slice r2; obtain ⟨Am, cm, rfl⟩ := Kd.R_slice r3; have G0 := Aside0.mk (Kd.R_reads' r0); have G2 := Aside0.mk (Kd.S_reads' r2); have G3 := Aside0.mk (Kd.R_reads' r3); have HB2 := Aside0.mk (below_step HB.out hb); have BK42 := Aside0.mk (blk_below BK4.out hb); clear hb r0 r2 r3 tok_ TOK1)) | ((with_reducible refine gate_dst (N := 9) rfl ?_); go_must (refine box_event ?hg (N := 9) ?hd (cs := #[.slice none 0 0, .int .i64 0, .slice none 0 0, .slice none 0 0, .int .i64 0]) (t := 28) ?hr ?_; (case hd => rfl); (case hg => rfl); (case hr => first | (go_simp; done) | (go_simp; rfl)); intro g9 hg w3 hbox hb; have BK9 := Aside0.mk hbox; have GE9 := Aside0.mk (show w2.heap.size ≤ g9 by rw [hg]; exact Nat.le_refl _); have BH3 := Aside0.mk hb; clear hb hbox hg; have hb0 : w3.cell? ⟨g9, 0, none⟩ = some (.slice none 0 0) := (blk_cell BK9.out 0).trans rfl; have fhb0 := blk_frozen BK9.out 0; have hb1 : w3.cell? ⟨g9, 1, none⟩ = some (.int .i64 0) := (blk_cell BK9.out 1).trans rfl; have fhb1 := blk_frozen BK9.out 1; have hb2 : w3.cell? ⟨g9, 2, none⟩ = some (.slice none 0 0) := (blk_cell BK9.out 2).trans rfl; have fhb2 := blk_frozen BK9.out 2; have hb3 : w3.cell? ⟨g9, 3, none⟩ = some (.slice none 0 0) := (blk_cell BK9.out 3).trans rfl; have fhb3 := blk_frozen BK9.out 3; have hb4 : w3.cell? ⟨g9, 4, none⟩ = some (.int .i64 0) := (blk_cell BK9.out 4).trans rfl; have fhb4 := blk_frozen BK9.out 4; )) | ((with_reducible refine gate_store (t := 28) (p := 9) rfl ?_); go_must (refine store_event (t := 28) (p := 9) (v := .tmp 19) (w1 := (((((w3.setCell ⟨g9, 0, none⟩ (.slice As sp.length cs)).setCell ⟨g9, 1, none⟩ (.int .i64 f)).setCell ⟨g9, 2, none⟩ (.slice An nx.length cn)).setCell ⟨g9, 3, none⟩ (.slice Am ms.length cm)).setCell ⟨g9, 4, none⟩ (.int .i64 many))) ?hg ?ho ?hn ?hr ?_; (case ho => rfl); (case hg => rfl); (case hn => rfl); (case hr => first | (go_simp; done) | (go_simp; rfl)); intro w4 hw; have BK9b := Aside0.mk (show w4.heap[g9]? = some (.cells #[.slice As sp.length cs, .int .i64 f, .slice An nx.length cn, .slice Am ms.length cm, .int .i64 many] 28 (0, 0)) by rw [hw]; exact blk_put (blk_put (blk_put (blk_put (blk_put BK9.out 0 _ rfl) 1 _ rfl) 2 _ rfl) 3 _ rfl) 4 _ rfl); have BH4 := Aside0.mk (show Below w2.heap.size w2 w4 by rw [hw]; exact ((((BH3.out.setCell GE9.out _).setCell GE9.out _).setCell GE9.out _).setCell GE9.out _).setCell GE9.out _); clear hw hb0 hb1 hb2 hb3 hb4 fhb0 fhb1 fhb2 fhb3 fhb4; have hc0 : w4.cell? ⟨g9, 0, none⟩ = some (.slice As sp.length cs) := (blk_cell BK9b.out 0).trans rfl; have hc1 : w4.cell? ⟨g9, 1, none⟩ = some (.int .i64 f) := (blk_cell BK9b.out 1).trans rfl; have hc2 : w4.cell? ⟨g9, 2, none⟩ = some (.slice An nx.length cn) := (blk_cell BK9b.out 2).trans rfl; have hc3 : w4.cell? ⟨g9, 3, none⟩ = some (.slice Am ms.length cm) := (blk_cell BK9b.out 3).trans rfl; have hc4 : w4.cell? ⟨g9, 4, none⟩ = some (.int .i64 many) := (blk_cell BK9b.out 4).trans rfl; )) | (go_at_call 15; go_must (refine (scc_Fair.calls k _ _ sp f _ _ nx _ _ ms many i1 11 _ (Kd.C_below G0.out.2.2 BH4.out) G0.out.2.1 (Kd.C_below G2.out.2.2 BH4.out) G2.out.2.1 (Kd.C_below G3.out.2.2 BH4.out) G3.out.2.1 HF1.out).mono ?_; rintro e wf ⟨rfl, hb⟩; have FB := Aside0.mk hb; clear hb)))
    go_ret
    exact ⟨rfl, below_step (below_step HB2.out BH4.out) FB.out⟩
  · rw [if_neg c0] at h
    have c0b : ((sp.length : Int) == 0) = false := beq_eq_false_iff_ne.mpr c0
    clear c0
    obtain ⟨x, hx, h⟩ := Option.bind_eq_some_iff.mp h
    split at h
    case isFalse => exact absurd h (by simp)
    rename_i x0
    split at h
    case isFalse => exact absurd h (by simp)
    rename_i x1
    split at h
    case isFalse => exact absurd h (by simp)
    rename_i x2
    split at h
    case isFalse => exact absurd h (by simp)
    rename_i x3
    split at h
    case isFalse => exact absurd h (by simp)
    rename_i x4
    obtain ⟨y, hy, h⟩ := Option.bind_eq_some_iff.mp h
    obtain ⟨z, hz, h⟩ := Option.bind_eq_some_iff.mp h
    obtain ⟨⟨i1, e1⟩, hf1, h⟩ := Option.bind_eq_some_iff.mp h
    obtain ⟨⟨i2, e2⟩, hf2, h⟩ := Option.bind_eq_some_iff.mp h
    have HX := Aside0.mk hx
    have HY := Aside0.mk hy
    have HZ := Aside0.mk hz
    have HF1 := Aside0.mk hf1
    have HF2 := Aside0.mk hf2
    have HH := Aside0.mk (Option.some.inj h)
    have X0 := Aside0.mk x0
    have X1 := Aside0.mk x1
    have X2 := Aside0.mk x2
    have X3 := Aside0.mk x3
    clear hx hy hz hf1 hf2 h x3
    have q0 := eq_true x0
    have q1 := eq_true x1
    have q2 := eq_true x2
    clear x0 x1 x2
    go_enter Try.func5, Try.ntmps5
    have TOK1 : True := trivial
    go_upto_region 5 with (first | ((with_reducible refine gate_dst (N := 4) rfl ?_); go_must (refine box_event ?hg (N := 4) ?hd (cs := #[.slice A0_0 l0_0.length c0_0, .slice A0_1 l0_1.length c0_1, .int .i64 a0_2, .int .i64 a0_3]) (t := 25) ?hr ?_; (case hd => rfl); (case hg => rfl); (case hr => first | (go_simp; done) | (go_simp; rfl)); intro g4 hg w1 hbox hb; have BK4 := Aside0.mk hbox; have HB := Aside0.mk hb; clear hb hbox hg; have ha0 : w1.cell? ⟨g4, 0, none⟩ = some (.slice A0_0 l0_0.length c0_0) := (blk_cell BK4.out 0).trans rfl; have ha1 : w1.cell? ⟨g4, 1, none⟩ = some (.slice A0_1 l0_1.length c0_1) := (blk_cell BK4.out 1).trans rfl; have ha2 : w1.cell? ⟨g4, 2, none⟩ = some (.int .i64 a0_2) := (blk_cell BK4.out 2).trans rfl; have ha3 : w1.cell? ⟨g4, 3, none⟩ = some (.int .i64 a0_3) := (blk_cell BK4.out 3).trans rfl; )) | (go_at_call 9; have tok_ := TOK1; go_must (refine (foretellkeep_Graph.calls k _ _ l0_0 _ _ l0_1 a0_2 a0_3 sp f nx ms many _ (Kd.C_below R0.out HB.out) L0.out (Kd.C_below R1.out HB.out) L1.out HG.out).mono ?_; rintro e w2 ⟨v0, v2, v3, rfl, r0, r2, r3, hb⟩; obtain ⟨As, cs, rfl⟩ := Kd.R_slice r0; obtain ⟨An, cn, rfl⟩ := Kd.S_slice r2; obtain ⟨Am, cm, rfl⟩ := Kd.R_slice r3; have G0 := Aside0.mk (Kd.R_reads' r0); have G2 := Aside0.mk (Kd.S_reads' r2); have G3 := Aside0.mk (Kd.R_reads' r3); have HB2 := Aside0.mk (below_step HB.out hb); have BK42 := Aside0.mk (blk_below BK4.out hb); clear hb r0 r2 r3 tok_ TOK1)) | ((with_reducible refine gate_dst (N := 9) rfl ?_); go_must (refine box_event ?hg (N := 9) ?hd (cs := #[.slice none 0 0, .int .i64 0, .slice none 0 0, .slice none 0 0, .int .i64 0]) (t := 28) ?hr ?_; (case hd => rfl); (case hg => rfl); (case hr => first | (go_simp; done) | (go_simp; rfl)); intro g9 hg w3 hbox hb; have BK9 := Aside0.mk hbox; have GE9 := Aside0.mk (show w2.heap.size ≤ g9 by rw [hg]; exact Nat.le_refl _); have BH3 := Aside0.mk hb; clear hb hbox hg; have hb0 : w3.cell? ⟨g9, 0, none⟩ = some (.slice none 0 0) := (blk_cell BK9.out 0).trans rfl; have fhb0 := blk_frozen BK9.out 0; have hb1 : w3.cell? ⟨g9, 1, none⟩ = some (.int .i64 0) := (blk_cell BK9.out 1).trans rfl; have fhb1 := blk_frozen BK9.out 1; have hb2 : w3.cell? ⟨g9, 2, none⟩ = some (.slice none 0 0) := (blk_cell BK9.out 2).trans rfl; have fhb2 := blk_frozen BK9.out 2; have hb3 : w3.cell? ⟨g9, 3, none⟩ = some (.slice none 0 0) := (blk_cell BK9.out 3).trans rfl; have fhb3 := blk_frozen BK9.out 3; have hb4 : w3.cell? ⟨g9, 4, none⟩ = some (.int .i64 0) := (blk_cell BK9.out 4).trans rfl; have fhb4 := blk_frozen BK9.out 4; )) | ((with_reducible refine gate_store (t := 28) (p := 9) rfl ?_); go_must (refine store_event (t := 28) (p := 9) (v := .tmp 19) (w1 := (((((w3.setCell ⟨g9, 0, none⟩ (.slice As sp.length cs)).setCell ⟨g9, 1, none⟩ (.int .i64 f)).setCell ⟨g9, 2, none⟩ (.slice An nx.length cn)).setCell ⟨g9, 3, none⟩ (.slice Am ms.length cm)).setCell ⟨g9, 4, none⟩ (.int .i64 many))) ?hg ?ho ?hn ?hr ?_; (case ho => rfl); (case hg => rfl); (case hn => rfl); (case hr => first | (go_simp; done) | (go_simp; rfl)); intro w4 hw; have BK9b := Aside0.mk (show w4.heap[g9]? = some (.cells #[.slice As sp.length cs, .int .i64 f, .slice An nx.length cn, .slice Am ms.length cm, .int .i64 many] 28 (0, 0)) by rw [hw]; exact blk_put (blk_put (blk_put (blk_put (blk_put BK9.out 0 _ rfl) 1 _ rfl) 2 _ rfl) 3 _ rfl) 4 _ rfl); have BH4 := Aside0.mk (show Below w2.heap.size w2 w4 by rw [hw]; exact ((((BH3.out.setCell GE9.out _).setCell GE9.out _).setCell GE9.out _).setCell GE9.out _).setCell GE9.out _); clear hw hb0 hb1 hb2 hb3 hb4 fhb0 fhb1 fhb2 fhb3 fhb4; have hc0 : w4.cell? ⟨g9, 0, none⟩ = some (.slice As sp.length cs) := (blk_cell BK9b.out 0).trans rfl; have hc1 : w4.cell? ⟨g9, 1, none⟩ = some (.int .i64 f) := (blk_cell BK9b.out 1).trans rfl; have hc2 : w4.cell? ⟨g9, 2, none⟩ = some (.slice An nx.length cn) := (blk_cell BK9b.out 2).trans rfl; have hc3 : w4.cell? ⟨g9, 3, none⟩ = some (.slice Am ms.length cm) := (blk_cell BK9b.out 3).trans rfl; have hc4 : w4.cell? ⟨g9, 4, none⟩ = some (.int .i64 many) := (blk_cell BK9b.out 4).trans rfl; )))
    have BK44 := Aside0.mk (blk_below BK42.out BH4.out)
    have HB4 := Aside0.mk (below_step HB2.out BH4.out)
    have hh0 : w4.cell? ⟨g4, 0, none⟩ = some (.slice A0_0 l0_0.length c0_0) := (blk_cell BK44.out 0).trans rfl; have hh1 : w4.cell? ⟨g4, 1, none⟩ = some (.slice A0_1 l0_1.length c0_1) := (blk_cell BK44.out 1).trans rfl; have hh2 : w4.cell? ⟨g4, 2, none⟩ = some (.int .i64 a0_2) := (blk_cell BK44.out 2).trans rfl; have hh3 : w4.cell? ⟨g4, 3, none⟩ = some (.int .i64 a0_3) := (blk_cell BK44.out 3).trans rfl
    clear hc0 hc1 hc2 hc3 hc4
    have TOK2 : True := trivial
    have TOK3 : True := trivial
    have hk0 : w4.cell? ⟨g9, 0, none⟩ = some (.slice As sp.length cs) := (blk_cell BK9b.out 0).trans rfl
    go_upto_region 7 with (first | (go_at_call 14; have tok_ := TOK2; go_must (refine (foretellkeep_FairMore.picked a1 (sp.length : Int) x _ HX.out).mono ?_; rintro e w' ⟨rfl, hw_⟩; obtain rfl := hw_.symm; clear tok_ TOK2)) | (go_at_call 9; have tok_ := TOK3; go_must (refine (foretellkeep_Graph.calls k _ _ l0_0 _ _ l0_1 a0_2 a0_3 sp f nx ms many _ (Kd.C_below R0.out HB4.out) L0.out (Kd.C_below R1.out HB4.out) L1.out HG.out).mono ?_; rintro e w5 ⟨v0, v2, v3, rfl, r0, r2, r3, hb⟩; obtain ⟨Bs, ds, rfl⟩ := Kd.R_slice r0; obtain ⟨Bn, dn, rfl⟩ := Kd.S_slice r2; obtain ⟨Bm, dm, rfl⟩ := Kd.R_slice r3; have H0 := Aside0.mk r0; have H2 := Aside0.mk r2; have H3 := Aside0.mk r3; have BH5 := Aside0.mk hb; clear hb r0 r2 r3 tok_ TOK3)) | ((with_reducible refine gate_dst (N := 13) rfl ?_); go_must (refine box_event ?hg (N := 13) ?hd (cs := #[.slice none 0 0, .int .i64 0, .slice none 0 0, .slice none 0 0, .int .i64 0]) (t := 28) ?hr ?_; (case hd => rfl); (case hg => rfl); (case hr => first | (go_simp; done) | (go_simp; rfl)); intro g13 hg w6 hbox hb; have BK13 := Aside0.mk hbox; have GE13 := Aside0.mk (show w5.heap.size ≤ g13 by rw [hg]; exact Nat.le_refl _); have BH6 := Aside0.mk hb; clear hb hbox hg; have he0 : w6.cell? ⟨g13, 0, none⟩ = some (.slice none 0 0) := (blk_cell BK13.out 0).trans rfl; have fhe0 := blk_frozen BK13.out 0; have he1 : w6.cell? ⟨g13, 1, none⟩ = some (.int .i64 0) := (blk_cell BK13.out 1).trans rfl; have fhe1 := blk_frozen BK13.out 1; have he2 : w6.cell? ⟨g13, 2, none⟩ = some (.slice none 0 0) := (blk_cell BK13.out 2).trans rfl; have fhe2 := blk_frozen BK13.out 2; have he3 : w6.cell? ⟨g13, 3, none⟩ = some (.slice none 0 0) := (blk_cell BK13.out 3).trans rfl; have fhe3 := blk_frozen BK13.out 3; have he4 : w6.cell? ⟨g13, 4, none⟩ = some (.int .i64 0) := (blk_cell BK13.out 4).trans rfl; have fhe4 := blk_frozen BK13.out 4; )) | ((with_reducible refine gate_store (t := 28) (p := 13) rfl ?_); go_must (refine store_event (t := 28) (p := 13) (v := .tmp 37) (w1 := (((((w6.setCell ⟨g13, 0, none⟩ (.slice Bs sp.length ds)).setCell ⟨g13, 1, none⟩ (.int .i64 f)).setCell ⟨g13, 2, none⟩ (.slice Bn nx.length dn)).setCell ⟨g13, 3, none⟩ (.slice Bm ms.length dm)).setCell ⟨g13, 4, none⟩ (.int .i64 many))) ?hg ?ho ?hn ?hr ?_; (case ho => rfl); (case hg => rfl); (case hn => rfl); (case hr => first | (go_simp; done) | (go_simp; rfl)); intro w7 hw; have BK13b := Aside0.mk (show w7.heap[g13]? = some (.cells #[.slice Bs sp.length ds, .int .i64 f, .slice Bn nx.length dn, .slice Bm ms.length dm, .int .i64 many] 28 (0, 0)) by rw [hw]; exact blk_put (blk_put (blk_put (blk_put (blk_put BK13.out 0 _ rfl) 1 _ rfl) 2 _ rfl) 3 _ rfl) 4 _ rfl); have BH7 := Aside0.mk (show Below w5.heap.size w5 w7 by rw [hw]; exact ((((BH6.out.setCell GE13.out _).setCell GE13.out _).setCell GE13.out _).setCell GE13.out _).setCell GE13.out _); clear hw)))
    have HB7 := Aside0.mk (below_step BH5.out BH7.out)
    have H0w := Aside0.mk (Kd.R_below H0.out BH7.out)
    have H2w := Aside0.mk (Kd.S_below H2.out BH7.out)
    have H3w := Aside0.mk (Kd.R_below H3.out BH7.out)
    have hnl : 0 < nx.length := by have := X0.out; have := X1.out; omega
    obtain ⟨gN, capN, heN, geN, glN, cN, hN⟩ := Kd.S_form H2w.out hnl
    have hAe : Bn = some ⟨gN, 0, none⟩ := by injection heN
    subst hAe
    have HN := Aside0.mk hN
    have GEN := Aside0.mk geN
    obtain ⟨adr, ccr, er, hclr, ⟨Ar, cr, rfl, hlr, hCr⟩, hcell⟩ := Kd.C_get (Kd.S_reads' H2w.out).2.2 ([] : List Int) x X0.out X1.out
    obtain rfl : adr = ⟨gN, 0, none⟩ := by injection er with h_; exact h_.symm
    have hxc := hcell 0 _ rfl
    simp only [show (Kd.slice 3 (Kd.int .i64)).sz = 1 from rfl, Nat.mul_one, Nat.add_zero, addr_flat] at hxc
    have CB := Aside0.mk (show w7.cell? ⟨gN, x.toNat, none⟩ = some (.slice Ar (rd_L1 nx x).length cr) from hxc)
    have HCr := Aside0.mk (show Kd.C (Kd.int .i64) w7 Ar (rd_L1 nx x).length (rd_L1 nx x) from hCr)
    have HLR := Aside0.mk (show (rd_L1 nx x).length ≤ cr from hlr)
    have FN := Aside0.mk (blk_frozen hN x.toNat)
    clear heN geN glN hN er hclr hlr hCr hcell hxc hnl
    generalize hl : rd_L1 nx x = l at *
    have HL := Aside0.mk hl
    clear hl
    have CA := Aside0.mk (show w7.cell? ⟨g13, 2, none⟩ = some (.slice (some ⟨gN, 0, none⟩) nx.length dn) from (blk_cell BK13b.out 2).trans rfl)
    have LTA := Aside0.mk (blk_lt BK13b.out)
    have LTB := Aside0.mk (blk_lt HN.out)
    have BK97 := Aside0.mk (blk_below BK9b.out HB7.out)
    have LTC := Aside0.mk (blk_lt BK97.out)
    have CC := Aside0.mk (show w7.cell? ⟨g9, 0, none⟩ = some (.slice As sp.length cs) from (blk_cell BK97.out 0).trans rfl)
    (try simp only [Act.put, List.setIfInBounds_toArray, List.set_cons_zero, List.set_cons_succ])
    go_cut [] (fun wc => Aside0 (Below w4.heap.size w4 wc) ∧ Aside0 (wc.heap[g13]? = some (.cells #[.slice Bs sp.length ds, .int .i64 f, .slice (some ⟨gN, 0, none⟩) nx.length dn, .slice Bm ms.length dm, .int .i64 many] 28 (0, 0))) ∧ Aside0 (∀ W' : World, (∀ k, some k ≠ (Value.slice Bm ms.length dm).ownBlock → k < wc.heap.size → W'.heap[k]? = wc.heap[k]?) → Kd.C (Kd.slice 3 (Kd.int .i64)) W' (some ⟨gN, 0, none⟩) nx.length (nx.set x.toNat (l ++ [y]))) ∧ Aside0 (Kd.R (Kd.int .i64) 3 wc w4.heap.size (fun _ => True) (.slice Bm ms.length dm) ms) ∧ Aside0 (Kd.R k45 45 wc w4.heap.size (fun _ => True) (.slice Bs sp.length ds) sp))
    case first =>
      refine start_ (n := 18) (S := fun w' => w'.cell? ⟨g13, 2, none⟩ = some (.slice (some ⟨gN, 0, none⟩) nx.length dn) ∧ w'.cell? ⟨gN, x.toNat, none⟩ = some (.slice Ar l.length cr) ∧ w'.cell? ⟨g9, 0, none⟩ = some (.slice As sp.length cs)) (ds := [17]) (bl 18 0) (by kernel_rfl) rfl (by kernel_rfl) ⟨CA.out, CB.out, CC.out⟩ (fun hHeld => ?_)
      refine with_tabW foretellkeep_FairMore.tab7 foretellkeep_FairMore.bits7 (fun HT_ HW_ => ?_)
      refine puQ 0 (some 38) (bl 18 1) ?_
      refine puQ 2 (some 40) (bl 18 5) ?_
      refine puQ 3 (some 41) (bl 18 13) ?_
      refine puQ 5 (some 43) (bl 18 45) ?_
      refine puQ 9 (some 47) (bl 18 557) ?_
      refine puQ 10 (some 48) (bl 18 1581) ?_
      refine taQ 1 (some 39) (bl 18 1583) hHeld ?_
      refine taQ 4 (some 42) (bl 18 1599) hHeld ?_
      refine puQ 6 (some 44) (bl 18 1663) ?_
      refine taQ 7 (some 45) (bl 18 1791) hHeld ?_
      refine taQ 11 (some 49) (bl 18 3839) hHeld ?_
      refine puQ 12 (some 50) (bl 18 7935) ?_
      refine one_ (i := 8) (N := some 46) (bl 18 8191) rfl rfl (one_of HT_.out (by kernel_rfl)) (by decide) (fun K hK => ?_)
      refine Kd.R_append_rows_step (Kd.int .i64) (Rr := (Kd.int .i64).K w7) (w0 := w7) w7.heap.size (by rfl) (.const (.slice none 0 0)) (.tmp 45) 23 3 (.int .i64 0) 8 (by rfl) Try.underlying23 info3 rfl (by decide) (by omega) (.slice none 0 0) ([] : List Int) l Ar l.length cr (fun _ => True) (fun _ => False) (by rfl) (by rfl) (Kd.R_nil _ _ _ _ _) (Kd.C_below HCr.out (by repeat (first | assumption | exact Below.refl _ _ | apply below_drew1 | apply below_alloc | apply pw_below_drewN))) (fun _ _ h => h) (fun _ hk => hk.elim) (fun _ _ => trivial) (by repeat (first | assumption | exact Below.refl _ _ | apply below_drew1 | apply below_alloc | apply pw_below_drewN)) (below_size (by repeat (first | assumption | exact Below.refl _ _ | apply below_drew1 | apply below_alloc | apply pw_below_drewN))) (by have := X3.out; simp; omega) ?_
      intro va w8 hra hba hga hata
      clear hga hata
      rw [List.nil_append] at hra
      have HRA := Aside0.mk hra
      have HBA := Aside0.mk hba
      clear hra hba
      refine hK.out _ _ ⟨(Below.cell HBA.out LTA.out).trans CA.out, (Below.cell HBA.out LTB.out).trans CB.out, (Below.cell HBA.out LTC.out).trans CC.out⟩ (fun hHeld => ?_)
      clear hK K
      refine norm_ (a' := ?_) ?_ ?_
      rotate_left
      · show Act.put _ (some 46) _ = _
        simp only [Act.put, List.setIfInBounds_toArray, List.set_cons_zero, List.set_cons_succ, i64_w, i32_w]
        rfl
      refine one_ (i := 13) (N := some 51) (bl 18 16383) rfl rfl (one_of HT_.out (by kernel_rfl)) (by decide) (fun K hK => ?_)
      refine goes_ Try.func14 (by kernel_rfl) rfl #[.int .i64 a2, .int .i64 (sp.length : Int)] (by rfl) rfl rfl (by (try simp only [List.map_toArray, List.map_cons, List.map_nil]); first | done | rfl) ?_
      refine (foretellkeep_FairMore.picked a2 (sp.length : Int) y _ HY.out).mono ?_
      rintro e w' ⟨rfl, hw_⟩
      obtain rfl := hw_.symm
      clear hw_
      refine ⟨_, rfl, ?_⟩
      refine hK.out _ _ ⟨hHeld.1, hHeld.2.1, hHeld.2.2⟩ (fun hHeld => ?_)
      clear hK K
      refine norm_ (a' := ?_) ?_ ?_
      rotate_left
      · show Act.put _ (some 51) _ = _
        simp only [Act.put, List.setIfInBounds_toArray, List.set_cons_zero, List.set_cons_succ, i64_w, i32_w]
        rfl
      refine one_ (i := 14) (N := some 52) (bl 18 32767) rfl rfl (one_of HT_.out (by kernel_rfl)) (by decide) (fun K hK => ?_)
      refine value_ (w1 := ?_) (v := ?_) (by rfl) rfl ?_ ?_
      rotate_left 2
      · go_simp
        constructor
        · rfl
        · rfl
      refine hK.out _ _ ⟨(World.cell?_alloc_lt _ _ _ (World.block_lt_of_cell? _ _ (hHeld.1))).trans (hHeld.1), (World.cell?_alloc_lt _ _ _ (World.block_lt_of_cell? _ _ (hHeld.2.1))).trans (hHeld.2.1), (World.cell?_alloc_lt _ _ _ (World.block_lt_of_cell? _ _ (hHeld.2.2))).trans (hHeld.2.2)⟩ (fun hHeld => ?_)
      clear hK K
      refine norm_ (a' := ?_) ?_ ?_
      rotate_left
      · show Act.put _ (some 52) _ = _
        simp only [Act.put, List.setIfInBounds_toArray, List.set_cons_zero, List.set_cons_succ, i64_w, i32_w]
        rfl
      refine one_ (i := 15) (N := some 53) (bl 18 65535) rfl rfl (one_of HT_.out (by kernel_rfl)) (by decide) (fun K hK => ?_)
      refine Kd.R_append_step (Kd.int .i64) (w0 := w7) w7.heap.size (by rfl) (.tmp 46) (.tmp 52) 23 3 (.int .i64 0) 8 (by rfl) Try.underlying23 info3 rfl (by decide) (by omega) va l y [.int .i64 y] (fun _ => True) (fun _ => False) (by rfl) (by rfl) rfl (fun _ hk => hk.elim) (fun _ _ => trivial) HRA.out HBA.out (below_size HBA.out) (by have := X3.out; simp; omega) ?_
      intro vb w9 hrb hbb hgb hatb
      clear hgb hatb
      obtain ⟨Ab, cb2, rfl⟩ := Kd.R_slice hrb
      have HRB := Aside0.mk hrb
      have HBB := Aside0.mk hbb
      clear hrb hbb
      have fnz := (Below.frozen (p := ⟨gN, x.toNat, none⟩) HBB.out LTB.out).trans FN.out
      have cbz := (Below.cell (p := ⟨gN, x.toNat, none⟩) HBB.out LTB.out).trans CB.out
      refine hK.out _ _ ⟨(Below.cell HBB.out LTA.out).trans CA.out, cbz, (Below.cell HBB.out LTC.out).trans CC.out⟩ (fun hHeld => ?_)
      clear hK K
      refine norm_ (a' := ?_) ?_ ?_
      rotate_left
      · show Act.put _ (some 53) _ = _
        simp only [Act.put, List.setIfInBounds_toArray, List.set_cons_zero, List.set_cons_succ, i64_w, i32_w]
        rfl
      refine puQ 16 (some 54) (bl 18 131071) ?_
      refine last_ (i := 17) (N := none) (bl 18 262143) rfl rfl (one_of HT_.out (by kernel_rfl)) (by decide) (fun K hK => ?_)
      refine skip_ (w1 := ?_) (by rfl) rfl ?_ ?_
      rotate_left
      · go_simp
        rfl
      refine hK.out _ _ ?_
      clear hK K
      refine done_ (done_of HT_.out (by kernel_rfl)) ?_
      have HB9 := below_step HB7.out HBB.out
      have hne : ∀ q, q ∈ 3 :: (Kd.int .i64).E → q ≠ 23 := by decide
      have HN9 := blk_below HN.out HBB.out
      go_wp2
      go_meet
      case rel =>
        exact ⟨⟨below_set HB9 GEN.out⟩, ⟨blk_far (p := ⟨gN, x.toNat, none⟩) (blk_below BK13b.out HBB.out) (blk_ne (blk_below BK13b.out HBB.out) HN9 (by decide)) _⟩, ⟨fun W' hW => foretellkeep_FairMore.put (Pk := fun k => some k ≠ (Value.slice Bm ms.length dm).ownBlock) X0.out X1.out (Kd.S_R (Kd.S_below H2w.out HBB.out)) (Kd.R_bound HRB.out) (fun _ hk => hk) (fun k hk he => by have h1 := Kd.R_lt H3w.out k he.symm; have h2 := hk.2.1; omega) (by rw [List.length_append, List.length_singleton]; exact hW)⟩, ⟨Kd.R_mono (Kd.R_far (p := ⟨gN, x.toNat, none⟩) (Kd.R_types (Kd.R_below H3w.out HBB.out) HN9 hne) (fun _ hk => hk.2) _) (fun _ _ => trivial)⟩, ⟨Kd.R_mono (Kd.R_far (p := ⟨gN, x.toNat, none⟩) (Kd.R_types (Kd.R_below H0w.out HBB.out) HN9 (by decide)) (fun _ hk => hk.2) _) (fun _ _ => trivial)⟩⟩
    case rest =>
      obtain ⟨QB, QG, QN, QM, QS⟩ := hcut
      have BK98 := Aside0.mk (blk_below BK9b.out QB.out)
      have hms : 0 < ms.length := by have := X0.out; have := X2.out; omega
      obtain ⟨gM, capM, heM, geM, glM, cM, hM⟩ := Kd.R_form QM.out hms
      have hAm : Bm = some ⟨gM, 0, none⟩ := by injection heM
      subst hAm
      have HM := Aside0.mk hM
      have GEM := Aside0.mk geM
      obtain ⟨hcm, hfm⟩ := Kd.R_celln (0 : Int) QM.out x X0.out X2.out
      have CE := Aside0.mk (show wc.cell? ⟨gM, x.toNat, none⟩ = some (.int .i64 (rd ms x)) from hcm)
      have FE := Aside0.mk hfm
      have CD := Aside0.mk (show wc.cell? ⟨g13, 3, none⟩ = some (.slice (some ⟨gM, 0, none⟩) ms.length dm) from (blk_cell QG.out 3).trans rfl)
      have CF := Aside0.mk (show wc.cell? ⟨g9, 4, none⟩ = some (.int .i64 many) from (blk_cell BK98.out 4).trans rfl)
      clear heM geM glM hM hcm hfm hms
      have X4 := Aside0.mk x4
      have many0 := eq_true x4
      clear x4
      have hsm : shl .i64 1 many = wrap64 (2 ^ min many.toNat 64) := by
        show IntKind.i64.wrap (1 * 2 ^ min many.toNat 64) = _
        rw [Int.one_mul, i64_w]
      have HZ2 := Aside0.mk (show foretellkeep_picked.f a3 (wrap64 (2 ^ min many.toNat 64)) = some z by rw [← hsm]; exact HZ.out)
      clear hsm
      have cbz := CE.out
      have fnz := FE.out
      go_upto_region 8 with (fail)
      (try simp only [Act.put, List.setIfInBounds_toArray, List.set_cons_zero, List.set_cons_succ])
      go_cut [] (fun wd => Aside0 (Below w4.heap.size w4 wd) ∧ Aside0 (wd.heap[g13]? = some (.cells #[.slice Bs sp.length ds, .int .i64 f, .slice (some ⟨gN, 0, none⟩) nx.length dn, .slice (some ⟨gM, 0, none⟩) ms.length dm, .int .i64 many] 28 (0, 0))) ∧ Aside0 (Kd.C (Kd.slice 3 (Kd.int .i64)) wd (some ⟨gN, 0, none⟩) nx.length (nx.set x.toNat (l ++ [y]))) ∧ Aside0 (Kd.C (Kd.int .i64) wd (some ⟨gM, 0, none⟩) ms.length (ms.set x.toNat (Go.bits .or .i64 (rd ms x) z))) ∧ Aside0 (Kd.R k45 45 wd w4.heap.size (fun _ => True) (.slice Bs sp.length ds) sp))
      case first =>
        refine start_ (n := 13) (S := fun w' => w'.cell? ⟨g13, 3, none⟩ = some (.slice (some ⟨gM, 0, none⟩) ms.length dm) ∧ w'.cell? ⟨gM, x.toNat, none⟩ = some (.int .i64 (rd ms x)) ∧ w'.cell? ⟨g9, 4, none⟩ = some (.int .i64 many)) (ds := [12]) (bl 13 0) (by kernel_rfl) rfl (by kernel_rfl) ⟨CD.out, CE.out, CF.out⟩ (fun hHeld => ?_)
        refine with_tabW foretellkeep_FairMore.tab8 foretellkeep_FairMore.bits8 (fun HT_ HW_ => ?_)
        refine puQ 0 (some 55) (bl 13 1) ?_
        refine puQ 2 (some 57) (bl 13 5) ?_
        refine puQ 5 (some 60) (bl 13 37) ?_
        refine puQ 6 (some 61) (bl 13 101) ?_
        refine taQ 1 (some 56) (bl 13 103) hHeld ?_
        refine puQ 3 (some 58) (bl 13 111) ?_
        refine taQ 4 (some 59) (bl 13 127) hHeld ?_
        refine taQ 7 (some 62) (bl 13 255) hHeld ?_
        refine puQ 8 (some 63) (bl 13 511) ?_
        refine one_ (i := 9) (N := some 64) (bl 13 1023) rfl rfl (one_of HT_.out (by kernel_rfl)) (by decide) (fun K hK => ?_)
        refine goes_ Try.func14 (by kernel_rfl) rfl #[.int .i64 a3, .int .i64 (wrap64 (2 ^ min many.toNat 64))] (by rfl) rfl rfl (by (try simp only [List.map_toArray, List.map_cons, List.map_nil]); first | done | rfl) ?_
        refine (foretellkeep_FairMore.picked a3 _ z _ HZ2.out).mono ?_
        rintro e w' ⟨rfl, hw_⟩
        obtain rfl := hw_.symm
        clear hw_
        refine ⟨_, rfl, ?_⟩
        refine hK.out _ _ ⟨hHeld.1, hHeld.2.1, hHeld.2.2⟩ (fun hHeld => ?_)
        clear hK K
        refine norm_ (a' := ?_) ?_ ?_
        rotate_left
        · show Act.put _ (some 64) _ = _
          simp only [Act.put, List.setIfInBounds_toArray, List.set_cons_zero, List.set_cons_succ, i64_w, i32_w]
          rfl
        refine puQ 10 (some 65) (bl 13 2047) ?_
        refine puQ 11 (some 66) (bl 13 4095) ?_
        refine last_ (i := 12) (N := none) (bl 13 8191) rfl rfl (one_of HT_.out (by kernel_rfl)) (by decide) (fun K hK => ?_)
        refine skip_ (w1 := ?_) (by rfl) rfl ?_ ?_
        rotate_left
        · go_simp
          rfl
        refine hK.out _ _ ?_
        clear hK K
        refine done_ (done_of HT_.out (by kernel_rfl)) ?_
        go_wp2
        go_meet
        case rel =>
          have hkeep : ∀ k : Nat, k ≠ gM → (wc.setCell ⟨gM, x.toNat, none⟩ (.int .i64 (Go.bits .or .i64 (rd ms x) z))).drew.heap[k]? = wc.heap[k]? := fun k hk => Below.heap_setCell wc ⟨gM, x.toNat, none⟩ _ k hk
          exact ⟨⟨below_drew1 (below_set QB.out GEM.out)⟩, ⟨blk_drew (blk_far (p := ⟨gM, x.toNat, none⟩) QG.out (blk_ne QG.out HM.out (by decide)) _)⟩, ⟨QN.out _ (fun k hk _ => hkeep k (fun e_ => hk (by rw [e_]; rfl)))⟩, ⟨by have h_ := (Kd.R_reads' (Kd.R_drew (Kd.R_putn QM.out x (Go.bits .or .i64 (rd ms x) z)))).2.2; rw [List.length_set] at h_; exact h_⟩, ⟨Kd.R_mono (Kd.R_drew (Kd.R_far (p := ⟨gM, x.toNat, none⟩) (Kd.R_types QS.out HM.out (by decide)) (fun _ hk => hk.2) _)) (fun _ _ => trivial)⟩⟩
      case rest =>
        clear QB QG QN QM QS CE FE CD CF HM GEM BK98 cbz fnz HZ2
        obtain ⟨PB, PG, PN, PM, PS⟩ := hcut
        have BK99 := Aside0.mk (blk_below BK9b.out PB.out)
        have HB10 := Aside0.mk (below_step BH4.out PB.out)
        have T1 : True := trivial
        have T2 : True := trivial
        have h90 : wc.cell? ⟨g9, 0, none⟩ = some (.slice As sp.length cs) := (blk_cell BK99.out 0).trans rfl
        have h91 : wc.cell? ⟨g9, 1, none⟩ = some (.int .i64 f) := (blk_cell BK99.out 1).trans rfl
        have h92 : wc.cell? ⟨g9, 2, none⟩ = some (.slice An nx.length cn) := (blk_cell BK99.out 2).trans rfl
        have h93 : wc.cell? ⟨g9, 3, none⟩ = some (.slice Am ms.length cm) := (blk_cell BK99.out 3).trans rfl
        have h94 : wc.cell? ⟨g9, 4, none⟩ = some (.int .i64 many) := (blk_cell BK99.out 4).trans rfl
        go_upto_region 10 with (first | (go_at_call 15; go_must (refine (scc_Fair.calls k _ _ sp f _ _ nx _ _ ms many i1 e1 _ (Kd.C_below G0.out.2.2 HB10.out) G0.out.2.1 (Kd.C_below G2.out.2.2 HB10.out) G2.out.2.1 (Kd.C_below G3.out.2.2 HB10.out) G3.out.2.1 HF1.out).mono ?_; rintro e wf ⟨rfl, hb⟩; have FB := Aside0.mk hb; clear hb)))
        have hv := HH.out.trans hr_.out
        simp only [Bool.and_eq_true, Bool.or_eq_true, beq_iff_eq, bne_iff_ne, ne_eq] at hv
        have hc : (e1 = 0 ∧ e2 = 0) ∨ (e1 = 11 ∧ e2 = 0) ∨ (e1 = 11 ∧ e2 = 11) := by omega
        have hrr := hr_.out
        clear hr_ HH hv h90 h91 h92 h93 h94
        subst hrr
        have PGF := Aside0.mk (blk_below PG.out FB.out)
        have h90 : wf.cell? ⟨g13, 0, none⟩ = some (.slice Bs sp.length ds) := (blk_cell PGF.out 0).trans rfl
        have h91 : wf.cell? ⟨g13, 1, none⟩ = some (.int .i64 f) := (blk_cell PGF.out 1).trans rfl
        have h92 : wf.cell? ⟨g13, 2, none⟩ = some (.slice (some ⟨gN, 0, none⟩) nx.length dn) := (blk_cell PGF.out 2).trans rfl
        have h93 : wf.cell? ⟨g13, 3, none⟩ = some (.slice (some ⟨gM, 0, none⟩) ms.length dm) := (blk_cell PGF.out 3).trans rfl
        have h94 : wf.cell? ⟨g13, 4, none⟩ = some (.int .i64 many) := (blk_cell PGF.out 4).trans rfl
        have LN := Aside0.mk (Kd.S_reads' H2w.out).2.1
        have LM_ := Aside0.mk (Kd.R_reads' H3w.out).2.1
        rcases hc with ⟨rfl, rfl⟩ | ⟨rfl, rfl⟩ | ⟨rfl, rfl⟩
        all_goals
          go_wp2_with (go_at_call 15; go_must (refine (calls_of_args (by rw [List.length_set, List.length_set]) (scc_Fair.calls k _ ds sp f _ dn (nx.set x.toNat (l ++ [y])) _ dm (ms.set x.toNat (Go.bits .or .i64 (rd ms x) z)) many i2 _ _ (Kd.C_below (Kd.R_reads' PS.out).2.2 FB.out) (Kd.R_reads' PS.out).2.1 (by rw [List.length_set]; exact Kd.C_below PN.out FB.out) (by rw [List.length_set]; exact LN.out) (by rw [List.length_set]; exact Kd.C_below PM.out FB.out) (by rw [List.length_set]; exact LM_.out) HF2.out)).mono ?_; rintro e wg ⟨rfl, hb⟩; have GB := Aside0.mk hb; clear hb))
          go_ret
          exact ⟨rfl, below_step (below_step (below_step (below_step HB2.out BH4.out) PB.out) FB.out) GB.out⟩

end Go.Proofs.Ytpkigkmkolbiiaa.P
end
