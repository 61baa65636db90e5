-- PACKED by pack.py of this repo: FSccParts
import Derived.WalkSpells
import Derived.Deep.RegionHeld3
import Derived.Deep.DrawnRows
import Derived.Test.YtpkigkmkolbiiaaK2
import Derived.Test.YtpkigkmkolbiiaaK5
import Derived.Test.YtpkigkmkolbiiaaK8
import Derived.Test.YtpkigkmkolbiiaaK10
section
namespace Go.Proofs.Ytpkigkmkolbiiaa.P
open Go.RowKit Go.Proofs.YtpkigkmkolbiiaaW.PrintWords Go.Proofs.YtpkigkmkolbiiaaW.PrintLast Go.Proofs.YtpkigkmkolbiiaaW.PrintMore Go.Proofs.Ytpkigkmkolbiiaa.G
attribute [local go_sem] max2_int min2_int max_two min_two max_three min_three max_four min_four   -- for this text's walks alone
set_option linter.unusedVariables false
set_option linter.unusedSimpArgs false

/-! ### scc_Parts: function 13 -/
--IMPORT FSearchGoOn
--IMPORT Derived.WalkSpells
--IMPORT Derived.Deep.RegionHeld3
--IMPORT Derived.Deep.DrawnRows
/-- The search goes on till no call is left. -/
def scc_Parts.drain : Nat → List (List Int) → Nat → SrSt → Option SrSt
  | 0, _, _, _ => none
  | k + 1, g, n, st => if st.calls.length = 0 then some st else ((search_goOn.f g n st).bind fun s1 => scc_Parts.drain k g n s1)
/-- From every place that was not met yet. -/
def scc_Parts.outer : Nat → Nat → List (List Int) → Nat → Int → SrSt → Option SrSt
  | 0, _, _, _, _, _ => none
  | k + 1, m, g, n, i, st => if i < (n : Int) then (if 0 ≤ i then (if rd st.order i = 0 then (if st.opn.length ≤ 1000000 then (if st.calls.length ≤ 1000000 then ((scc_Parts.drain m g n (search_enter.st st i)).bind fun s1 => scc_Parts.outer k m g n (i + 1) s1) else none) else none) else ((scc_Parts.drain m g n st).bind fun s1 => scc_Parts.outer k m g n (i + 1) s1)) else none) else some st
def scc_Parts.st0 (n : Nat) : SrSt := { order := List.replicate n 0, low := List.replicate n 0, part := List.replicate n (-1), opn := [], calls := [], met := 0 }
def scc_Parts.f (k : Nat) (l0_0 : List (S45)) (a0_1 : Int) (l0_2 : List (List Int)) (l0_3 : List Int) (a0_4 : Int) : Option (List Int × Int) :=
  (scc_Check.f k l0_0 a0_1 l0_2 l0_3 a0_4).bind fun e => if e = 0 then (if l0_0.length ≤ 1000000 then ((scc_Parts.outer k k l0_2 l0_0.length 0 (scc_Parts.st0 l0_0.length)).bind fun s => some (s.part, 0)) else none) else some ([], e)
theorem scc_Parts.drain_mono : ∀ k g n s, LeO (scc_Parts.drain k g n s) (scc_Parts.drain (k + 1) g n s)
  | 0, _, _, _ => fun r h => by simp [scc_Parts.drain] at h
  | k + 1, g, n, s => by
    unfold scc_Parts.drain
    exact LeO.ite (LeO.refl _) (LeO.bind (LeO.refl _) (fun _ => scc_Parts.drain_mono k _ _ _))
theorem scc_Parts.outer_mono : ∀ k m g n i s, LeO (scc_Parts.outer k m g n i s) (scc_Parts.outer (k + 1) (m + 1) g n i s)
  | 0, _, _, _, _, _ => fun r h => by simp [scc_Parts.outer] at h
  | k + 1, m, g, n, i, s => by
    unfold scc_Parts.outer
    exact LeO.ite (LeO.ite (LeO.ite (LeO.ite (LeO.ite (LeO.bind (scc_Parts.drain_mono _ _ _ _) (fun _ => scc_Parts.outer_mono k _ _ _ _ _)) (LeO.none _)) (LeO.none _)) (LeO.bind (scc_Parts.drain_mono _ _ _ _) (fun _ => scc_Parts.outer_mono k _ _ _ _ _))) (LeO.none _)) (LeO.refl _)
theorem scc_Parts.mono : ∀ a0 a1 a2 a3 a4 k, LeO (scc_Parts.f k a0 a1 a2 a3 a4) (scc_Parts.f (k + 1) a0 a1 a2 a3 a4) := by
  intro a0 a1 a2 a3 a4 k
  unfold scc_Parts.f
  exact LeO.bind (scc_Check.mono _ _ _ _ _ _) (fun _ => LeO.ite (LeO.ite (LeO.bind (scc_Parts.outer_mono _ _ _ _ _ _) (fun _ => LeO.refl _)) (LeO.none _)) (LeO.refl _))
theorem OB.R {w : World} {g base : Nat} {xs : List Int} (h : OB w g xs) (hb : base ≤ g) (hl : xs.length ≤ 1000000) : Kd.R (Kd.int .i64) 3 w base (fun _ => True) (.slice (some ⟨g, 0, none⟩) xs.length xs.length) xs :=
  Kd.R_of_own ⟨by simp [encs], .inr ⟨g, xs.length, _, rfl, hb, h, Nat.le_refl _, by unfold maxLen; omega, by simp, by rw [Nat.mul_one]; exact List.take_of_length_le (by simp)⟩⟩ (fun _ _ => trivial)
theorem make_rows {P : Program} (t e : TypeId) (n : Nat) (ht : P.underlying t = some (.slice e)) (z : Value) (bytes : Nat) (hinfo : (P.info? e).map (fun i => (i.zero, i.size, i.bytes)) = some (some z, 1, bytes)) (hz : z.cells = #[z]) (hl : (bytes : Int) * n ≤ 281474976710656) (hn : (n : Int) ≤ 9223372036854775807) :
    ∀ W : World, (Instr.makeSlice t (.int .i64 n) (.int .i64 n)).run P W = .ok (.slice (some ⟨W.heap.size, 0, none⟩) n n) (W.alloc (.cells (List.replicate n z).toArray e)) := by
  intro W
  obtain ⟨i0, hi, hzz⟩ := Option.map_eq_some_iff.1 hinfo
  simp only [Prod.mk.injEq] at hzz
  obtain ⟨hz0, hz1, hz2⟩ := hzz
  have hr := run_make (P := P) W t e i0 z ht hi hz0 .i64 .i64 (n : Int) (n : Int) (by omega) (by omega) (by rw [hz2]; exact hl) hn
  simp only [Int.toNat_natCast] at hr
  rw [hz1, Nat.mul_one, hz, ← Array.toArray_toList (xs := madeCells #[z] n), toList_madeCells_one] at hr
  exact hr
section
variable (w : World) (a b c d : Obj)
theorem four_size : (w.alloc a).heap.size = w.heap.size + 1 := by unfold World.alloc; exact Array.size_push _
theorem four_at0 : ((((w.alloc a).alloc b).alloc c).alloc d).drew.heap[w.heap.size]? = some a := blk_alloc (blk_alloc (blk_alloc (blk_new w a) b) c) d
theorem four_at1 : ((((w.alloc a).alloc b).alloc c).alloc d).drew.heap[w.heap.size + 1]? = some b := by
  have h := blk_new (w.alloc a) b
  rw [four_size] at h
  exact blk_alloc (blk_alloc h c) d
theorem four_at2 : ((((w.alloc a).alloc b).alloc c).alloc d).drew.heap[w.heap.size + 1 + 1]? = some c := by
  have h := blk_new ((w.alloc a).alloc b) c
  rw [four_size, four_size] at h
  exact blk_alloc h d
theorem four_at3 : ((((w.alloc a).alloc b).alloc c).alloc d).drew.heap[w.heap.size + 1 + 1 + 1]? = some d := by
  have h := blk_new (((w.alloc a).alloc b).alloc c) d
  rw [four_size, four_size, four_size] at h
  exact h
theorem four_below : Below w.heap.size w ((((w.alloc a).alloc b).alloc c).alloc d).drew := below_drew (below_alloc (below_alloc (below_alloc (below_alloc (Below.refl _ _) _) _) _) _)
end
theorem SrAt.start {w2 W : World} {s go gl gp n : Nat} {v0 v1 v2 v3 v4 : Value} (hb : Below w2.heap.size w2 W)
    (ho : W.heap[go]? = some (.cells (Array.replicate n (.int .i64 0)) 3 (0, 0))) (hl : W.heap[gl]? = some (.cells (Array.replicate n (.int .i64 0)) 3 (0, 0))) (hp : W.heap[gp]? = some (.cells (Array.replicate n (.int .i64 0)) 3 (0, 0)))
    (hs : W.heap[s]? = some (.cells #[v0, v1, v2, v3, v4, .slice (some ⟨go, 0, none⟩) n n, .slice (some ⟨gl, 0, none⟩) n n, .slice (some ⟨gp, 0, none⟩) n n, .slice none 0 0, .slice none 0 0, .int .i64 0] 56 (0, 0)))
    (bs : w2.heap.size ≤ s) (bo : w2.heap.size ≤ go) (bl : w2.heap.size ≤ gl) (bp : w2.heap.size ≤ gp) (ol : go ≠ gl) (op_ : go ≠ gp) (lp : gl ≠ gp) :
    SrAt w2 W s go gl gp n v0 v1 v2 v3 v4 { order := List.replicate n 0, low := List.replicate n 0, part := List.replicate n 0, opn := [], calls := [], met := 0 } (.slice none 0 0) (.slice none 0 0) := by
  have e : (Array.replicate n (Value.int .i64 0)) = ((List.replicate n (0 : Int)).map (Value.int .i64)).toArray := by simp
  rw [e] at ho hl hp
  exact ⟨hs, ho, hl, hp, by simp, by simp, by simp, Kd.R_nil _ _ _ _ _, Kd.R_nil _ _ _ _ _, hb, bs, bo, bl, bp, ol, op_, lp⟩
theorem set_rep (n x : Nat) (h : x < n) : (List.replicate x (-1 : Int) ++ List.replicate (n - x) 0).set x (-1) = List.replicate (x + 1) (-1) ++ List.replicate (n - (x + 1)) 0 := by
  obtain ⟨m, rfl⟩ : ∃ m, n = x + 1 + m := ⟨n - (x + 1), by omega⟩
  rw [show x + 1 + m - x = m + 1 by omega, show x + 1 + m - (x + 1) = m by omega, List.replicate_succ, List.replicate_succ', List.set_append_right _ _ (by simp)]
  simp
set_option maxHeartbeats 8000000 in
set_option maxRecDepth 100000 in
theorem scc_Parts.calls (k : Nat) (A0_0 : Option Addr) (c0_0 : Nat) (l0_0 : List (S45)) (a0_1 : Int) (A0_2 : Option Addr) (c0_2 : Nat) (l0_2 : List (List Int)) (A0_3 : Option Addr) (c0_3 : Nat) (l0_3 : List Int) (a0_4 : Int) (r1 : List Int) (r2 : Int) (w : World) (hr0_0 : Kd.C k45 w A0_0 l0_0.length l0_0) (hc0_0 : l0_0.length ≤ c0_0) (hr0_2 : Kd.C (Kd.slice 3 (Kd.int .i64)) w A0_2 l0_2.length l0_2) (hc0_2 : l0_2.length ≤ c0_2) (hr0_3 : Kd.C (Kd.int .i64) w A0_3 l0_3.length l0_3) (hc0_3 : l0_3.length ≤ c0_3) (h : scc_Parts.f k l0_0 a0_1 l0_2 l0_3 a0_4 = some (r1, r2)) :
    Calls Try.prog 13 #[.agg #[.slice A0_0 l0_0.length c0_0, .int .i64 a0_1, .slice A0_2 l0_2.length c0_2, .slice A0_3 l0_3.length c0_3, .int .i64 a0_4]] w fun e w' => ∃ v0_ : Value, e = .returned (.tuple #[v0_, .int .i64 r2]) ∧ Kd.R (Kd.int .i64) 3 w' w.heap.size (fun _ => True) v0_ r1 ∧ Below w.heap.size w w' := by
  have info3 := (by kernel_rfl : (Try.prog.info? 3).map (fun i => (i.zero, i.size, i.bytes)) = some (some (.int .i64 0), 1, 8))
  have hu28 := Try.underlying28
  unfold scc_Parts.f at h
  obtain ⟨e1, hC, h⟩ := Option.bind_eq_some_iff.mp h
  have HC := Aside0.mk hC
  have R0 := Aside0.mk hr0_0
  have L0 := Aside0.mk hc0_0
  have R2 := Aside0.mk hr0_2
  have L2 := Aside0.mk hc0_2
  have R3 := Aside0.mk hr0_3
  have L3 := Aside0.mk hc0_3
  clear hC hr0_0 hc0_0 hr0_2 hc0_2 hr0_3 hc0_3
  by_cases c0 : e1 = 0
  · rw [if_pos c0] at h
    subst c0
    by_cases cL : l0_0.length ≤ 1000000
    · rw [if_pos cL] at h
      have LIM := Aside0.mk cL
      clear cL
      have H := Aside0.mk h
      clear h
      go_enter Try.func13, Try.ntmps13
      go_upto_region 5 with (first | ((with_reducible refine gate_dst (N := 1) rfl ?_); go_must (refine box_event ?hg (N := 1) ?hd (cs := #[.slice A0_0 l0_0.length c0_0, .int .i64 a0_1, .slice A0_2 l0_2.length c0_2, .slice A0_3 l0_3.length c0_3, .int .i64 a0_4]) (t := 28) ?hr ?_; (case hd => rfl); (case hg => rfl); (case hr => first | (go_simp; done) | (go_simp; rfl)); intro g1 hg w1 hbox hb; have BK1 := Aside0.mk hbox; have HB := Aside0.mk hb; clear hb hbox hg; have hcz0 : w1.cell? ⟨g1, 0, none⟩ = some (.slice A0_0 l0_0.length c0_0) := (blk_cell BK1.out 0).trans rfl; have hcz1 : w1.cell? ⟨g1, 1, none⟩ = some (.int .i64 a0_1) := (blk_cell BK1.out 1).trans rfl; have hcz2 : w1.cell? ⟨g1, 2, none⟩ = some (.slice A0_2 l0_2.length c0_2) := (blk_cell BK1.out 2).trans rfl; have hcz3 : w1.cell? ⟨g1, 3, none⟩ = some (.slice A0_3 l0_3.length c0_3) := (blk_cell BK1.out 3).trans rfl; have hcz4 : w1.cell? ⟨g1, 4, none⟩ = some (.int .i64 a0_4) := (blk_cell BK1.out 4).trans rfl)) | (go_at_call 12; go_must (refine (scc_Check.calls k _ _ l0_0 a0_1 _ _ l0_2 _ _ l0_3 a0_4 0 _ (Kd.C_below R0.out HB.out) L0.out (Kd.C_below R2.out HB.out) L2.out (Kd.C_below R3.out HB.out) L3.out HC.out).mono ?_; rintro e w2 ⟨rfl, hb⟩; have HB2 := Aside0.mk (HB.out.trans (hb.mono (below_size HB.out))); have G2 := Aside0.mk (blk_below BK1.out hb); clear hb; have hd0 : w2.cell? ⟨g1, 0, none⟩ = some (.slice A0_0 l0_0.length c0_0) := (blk_cell G2.out 0).trans rfl)))
      have hd1 : w2.cell? ⟨g1, 1, none⟩ = some (.int .i64 a0_1) := (blk_cell G2.out 1).trans rfl
      have hd2 : w2.cell? ⟨g1, 2, none⟩ = some (.slice A0_2 l0_2.length c0_2) := (blk_cell G2.out 2).trans rfl
      have hd3 : w2.cell? ⟨g1, 3, none⟩ = some (.slice A0_3 l0_3.length c0_3) := (blk_cell G2.out 3).trans rfl
      have hd4 : w2.cell? ⟨g1, 4, none⟩ = some (.int .i64 a0_4) := (blk_cell G2.out 4).trans rfl
      clear hcz0 hcz1 hcz2 hcz3 hcz4
      generalize hn : l0_0.length = n at *
      have hmk := make_rows (P := Try.prog) 23 3 n Try.underlying23 (.int .i64 0) 8 info3 rfl (by have := LIM.out; omega) (by have := LIM.out; omega)
      have hn0 : (0 : Int) ≤ (n : Int) := by omega
      have hglt : g1 < w2.heap.size := blk_lt G2.out
      have hn1 : w2.heap.size ≠ g1 := by omega
      have hn2 : w2.heap.size + 1 ≠ g1 := by omega
      have hn3 : w2.heap.size + 1 + 1 ≠ g1 := by omega
      have hn4 : w2.heap.size + 2 ≠ g1 := by omega
      have GLT := Aside0.mk hglt
      clear hglt
      go_cut [6] (fun v6 wc => ∃ (s go gl gp : Nat), v6 = .pointer (some ⟨s, 0, none⟩) ∧ Aside0 (SrAt w2 wc s go gl gp n (.slice A0_0 n c0_0) (.int .i64 a0_1) (.slice A0_2 l0_2.length c0_2) (.slice A0_3 l0_3.length c0_3) (.int .i64 a0_4) { order := List.replicate n 0, low := List.replicate n 0, part := List.replicate n 0, opn := [], calls := [], met := 0 } (.slice none 0 0) (.slice none 0 0)))
      case first =>
        go_region_held3 (fun w' => w'.cell? ⟨g1, 0, none⟩ = some (.slice A0_0 n c0_0) ∧ w'.cell? ⟨g1, 1, none⟩ = some (.int .i64 a0_1) ∧ w'.cell? ⟨g1, 2, none⟩ = some (.slice A0_2 l0_2.length c0_2) ∧ w'.cell? ⟨g1, 3, none⟩ = some (.slice A0_3 l0_3.length c0_3) ∧ w'.cell? ⟨g1, 4, none⟩ = some (.int .i64 a0_4)) (simp (maxDischargeDepth := 12) [*, World.cell?_alloc_some, World.cell?_setCell_far]) (fail)
        all_goals go_wp2_with fail
        all_goals go_meet
        all_goals (exact ⟨_, _, _, _, rfl, ⟨SrAt.start (four_below _ _ _ _ _) (by first | exact four_at0 _ _ _ _ _ | exact four_at1 _ _ _ _ _ | exact four_at2 _ _ _ _ _) (by first | exact four_at0 _ _ _ _ _ | exact four_at1 _ _ _ _ _ | exact four_at2 _ _ _ _ _) (by first | exact four_at0 _ _ _ _ _ | exact four_at1 _ _ _ _ _ | exact four_at2 _ _ _ _ _) (four_at3 _ _ _ _ _) (by omega) (by omega) (by omega) (by omega) (by omega) (by omega) (by omega)⟩⟩)
      case rest =>
        obtain ⟨s, go, gl, gp, rfl, HS⟩ := hcut
        have hnm : n ≤ 1000000 := LIM.out
        have hnm2 : (n : Int) ≤ 1000000 := by omega
        have h7 : wc.cell? ⟨s, 7, none⟩ = some (.slice (some ⟨gp, 0, none⟩) n n) := (blk_cell HS.out.blk 7).trans rfl
        clear hd0 hd1 hd2 hd3 hd4 hmk hn1 hn2 hn3 hn4
        have HN := Aside0.mk hn
        clear hn
        go_wp2
        go_loopw [31] (fun v31 wr => ∃ x : Nat, x ≤ n ∧ v31 = .int .i64 x ∧ Aside0 (SrAt w2 wr s go gl gp n (.slice A0_0 n c0_0) (.int .i64 a0_1) (.slice A0_2 l0_2.length c0_2) (.slice A0_3 l0_3.length c0_3) (.int .i64 a0_4) { order := List.replicate n 0, low := List.replicate n 0, part := List.replicate x (-1) ++ List.replicate (n - x) 0, opn := [], calls := [], met := 0 } (.slice none 0 0) (.slice none 0 0))) (fun v31 _ => n - (intOf v31).toNat)
        case atStart => exact ⟨0, by omega, rfl, HS⟩
        case round =>
          clear h7 HS
          obtain ⟨x, hx, rfl, HW⟩ := hrel
          by_cases c1 : x < n
          · have h7 : wr.cell? ⟨s, 7, none⟩ = some (.slice (some ⟨gp, 0, none⟩) n n) := (blk_cell HW.out.blk 7).trans rfl
            have hp := HW.out.part.cell (x : Int) (by omega) (by rw [HW.out.npart]; omega)
            have fp := blk_frozen HW.out.part x
            rw [Int.toNat_natCast] at hp
            go_wp2
            go_roundw
            case rel => exact ⟨x + 1, by omega, by go_num, ⟨by have hz := HW.out.setPart (x : Int) (-1); rw [Int.toNat_natCast, set_rep n x c1] at hz; exact hz⟩⟩
            case measure => simp [intOf]; omega
          · obtain rfl : x = n := by omega
            clear c1
            have HW0 := Aside0.mk (show SrAt w2 wr s go gl gp x (.slice A0_0 x c0_0) (.int .i64 a0_1) (.slice A0_2 l0_2.length c0_2) (.slice A0_3 l0_3.length c0_3) (.int .i64 a0_4) (scc_Parts.st0 x) (.slice none 0 0) (.slice none 0 0) by have hz := HW.out; rw [Nat.sub_self, List.replicate_zero, List.append_nil] at hz; exact hz)
            clear HW
            go_wp2
            go_loopg [42] k (fun kq v42 w' => ∃ (y : Int) (st : SrSt) (vo vc : Value), v42 = .int .i64 y ∧ 0 ≤ y ∧ Aside0 (((scc_Parts.outer kq k l0_2 x y st).bind fun s => some (s.part, (0 : Int))) = some (r1, r2)) ∧ Aside0 (kq ≤ k) ∧ Aside0 (SrAt w2 w' s go gl gp x (.slice A0_0 x c0_0) (.int .i64 a0_1) (.slice A0_2 l0_2.length c0_2) (.slice A0_3 l0_3.length c0_3) (.int .i64 a0_4) st vo vc))
            case atStart => exact ⟨0, _, _, _, rfl, by omega, H, ⟨Nat.le_refl _⟩, HW0⟩
            case round =>
              clear H HW0
              obtain ⟨y, st, vo, vc, rfl, hy0, HA, HK, HW⟩ := hrel
              cases gk with
              | zero => exact absurd HA.out (by simp [scc_Parts.outer])
              | succ k1 =>
                have H := HA.out
                clear HA
                simp only [scc_Parts.outer] at H
                by_cases c2 : y < (x : Int)
                · rw [if_pos c2, if_pos hy0] at H
                  have H' := Aside0.mk H
                  clear H
                  have c2b := eq_true c2
                  have h5 : wr.cell? ⟨s, 5, none⟩ = some (.slice (some ⟨go, 0, none⟩) x x) := (blk_cell HW.out.blk 5).trans rfl
                  have hoy := HW.out.ord.cell y hy0 (by rw [HW.out.nord]; exact c2)
                  have Y1 := Aside0.mk c2
                  have Y0 := Aside0.mk hy0
                  go_upto_if 52 with (fail)
                  go_cut [] from 43 to 64 (fun wx => ∃ (st1 : SrSt) (vo vc : Value), Aside0 (((scc_Parts.drain k l0_2 x st1).bind fun s1 => (scc_Parts.outer k1 k l0_2 x (y + 1) s1).bind fun s => some (s.part, (0 : Int))) = some (r1, r2)) ∧ Aside0 (SrAt w2 wx s go gl gp x (.slice A0_0 x c0_0) (.int .i64 a0_1) (.slice A0_2 l0_2.length c0_2) (.slice A0_3 l0_3.length c0_3) (.int .i64 a0_4) st1 vo vc))
                  case first =>
                    have H := H'.out
                    clear H'
                    by_cases c3 : rd st.order y = 0
                    · rw [if_pos c3] at H
                      have c3' : (rd st.order y == 0) = true := by simp [c3]
                      clear c3
                      by_cases c4 : st.opn.length ≤ 1000000
                      · rw [if_pos c4] at H
                        by_cases c5 : st.calls.length ≤ 1000000
                        · rw [if_pos c5, Option.bind_assoc] at H
                          have H' := Aside0.mk H
                          have C4 := Aside0.mk c4
                          have C5 := Aside0.mk c5
                          clear H c4 c5
                          go_wp2_with (go_at_call 19; go_must (refine (search_enter.calls w2 s go gl gp x (.slice A0_0 x c0_0) (.int .i64 a0_1) (.slice A0_2 l0_2.length c0_2) (.slice A0_3 l0_3.length c0_3) (.int .i64 a0_4) vo vc st y Y0.out Y1.out C4.out C5.out wr HW.out).mono ?_; rintro e w5 ⟨rfl, hv⟩; have HV5 := Aside0.mk hv; clear hv))
                          go_meet
                          case rel => obtain ⟨vo', vc', hv⟩ := HV5.out; exact ⟨_, vo', vc', H', ⟨hv⟩⟩
                        · rw [if_neg c5] at H
                          exact absurd H (by simp)
                      · rw [if_neg c4] at H
                        exact absurd H (by simp)
                    · rw [if_neg c3, Option.bind_assoc] at H
                      have c3' : (rd st.order y == 0) = false := by simp [c3]
                      have H' := Aside0.mk H
                      clear c3 H
                      go_wp2
                      go_meet
                      case rel => exact ⟨_, _, _, H', HW⟩
                  case rest =>
                    obtain ⟨st1, vo1, vc1, H1, HW1⟩ := hcut
                    clear H' h5 hoy
                    go_wp2
                    go_loopg [] k (fun kq w' => ∃ (st1 : SrSt) (vo vc : Value), Aside0 (((scc_Parts.drain kq l0_2 x st1).bind fun s1 => (scc_Parts.outer k1 k l0_2 x (y + 1) s1).bind fun s => some (s.part, (0 : Int))) = some (r1, r2)) ∧ Aside0 (kq ≤ k) ∧ Aside0 (SrAt w2 w' s go gl gp x (.slice A0_0 x c0_0) (.int .i64 a0_1) (.slice A0_2 l0_2.length c0_2) (.slice A0_3 l0_3.length c0_3) (.int .i64 a0_4) st1 vo vc))
                    case atStart => exact ⟨_, _, _, H1, ⟨Nat.le_refl _⟩, HW1⟩
                    case round =>
                      clear H1 HW1
                      obtain ⟨st2, vo2, vc2, HA, HK2, HW2⟩ := hrel
                      cases gk with
                      | zero => exact absurd HA.out (by simp [scc_Parts.drain])
                      | succ k3 =>
                        have H := HA.out
                        clear HA
                        simp only [scc_Parts.drain] at H
                        obtain ⟨Ac, cc, rfl⟩ := Kd.R_slice HW2.out.cls
                        have h9 : wr.cell? ⟨s, 9, none⟩ = some (.slice Ac st2.calls.length cc) := (blk_cell HW2.out.blk 9).trans rfl
                        by_cases c6 : st2.calls.length = 0
                        · rw [if_pos c6, Option.bind_some] at H
                          have H' := Aside0.mk H
                          have c6' : decide (((st2.calls.length : Nat) : Int) > 0) = false := decide_eq_false (by omega)
                          have c7' : ¬ 0 < st2.calls.length := by omega
                          clear H c6
                          go_wp2
                          go_roundg k1
                          case measure => have := HK.out; omega
                          case rel => exact ⟨y + 1, _, _, _, rfl, by omega, H', ⟨by have := HK.out; omega⟩, HW2⟩
                        · rw [if_neg c6, Option.bind_assoc] at H
                          obtain ⟨st3, A5, H⟩ := Option.bind_eq_some_iff.mp H
                          have A5 := Aside0.mk A5
                          have H' := Aside0.mk H
                          have c6' : decide (((st2.calls.length : Nat) : Int) > 0) = true := decide_eq_true (by omega)
                          have c7' : 0 < st2.calls.length := by omega
                          clear H c6
                          go_wp2_with (go_at_call 20; go_must (refine (search_goOn.calls w2 s go gl gp x (.slice A0_0 x c0_0) (.int .i64 a0_1) (.slice A0_3 l0_3.length c0_3) (.int .i64 a0_4) vo2 (.slice Ac st2.calls.length cc) A0_2 c0_2 l0_2 (Kd.C_below R2.out HB2.out) st2 wr HW2.out st3 A5.out).mono ?_; rintro e w6 ⟨rfl, hv⟩; have HV6 := Aside0.mk hv; clear hv))
                          go_roundg k3
                          case measure => have := HK2.out; omega
                          case rel => obtain ⟨vo', vc', hv⟩ := HV6.out; exact ⟨_, vo', vc', H', ⟨by have := HK2.out; omega⟩, ⟨hv⟩⟩
                · rw [if_neg c2, Option.bind_some] at H
                  simp only [Option.some.injEq, Prod.mk.injEq] at H
                  obtain ⟨rfl, rfl⟩ := H
                  have c2b := eq_false c2
                  have h7 : wr.cell? ⟨s, 7, none⟩ = some (.slice (some ⟨gp, 0, none⟩) x x) := (blk_cell HW.out.blk 7).trans rfl
                  go_wp2
                  go_ret2
                  have hR := OB.R (base := w.heap.size) HW.out.part (Nat.le_trans (below_size HB2.out) HW.out.bp) (by rw [HW.out.npart]; exact hnm)
                  rw [HW.out.npart] at hR
                  exact ⟨_, rfl, hR, HB2.out.trans (HW.out.bel.mono (below_size HB2.out))⟩
    · rw [if_neg cL] at h
      exact absurd h (by simp)
  · rw [if_neg c0] at h
    have c0b0 : (e1 == 0) = false := beq_eq_false_iff_ne.mpr c0
    have c0b1 : (e1 != 0) = true := bne_iff_ne.mpr c0
    clear c0
    simp only [Option.some.injEq, Prod.mk.injEq] at h
    obtain ⟨rfl, rfl⟩ := h
    go_enter Try.func13, Try.ntmps13
    go_wp2_with (first | ((with_reducible refine gate_dst (N := 1) rfl ?_); go_must (refine box_event ?hg (N := 1) ?hd (cs := #[.slice A0_0 l0_0.length c0_0, .int .i64 a0_1, .slice A0_2 l0_2.length c0_2, .slice A0_3 l0_3.length c0_3, .int .i64 a0_4]) (t := 28) ?hr ?_; (case hd => rfl); (case hg => rfl); (case hr => first | (go_simp; done) | (go_simp; rfl)); intro g1 hg w1 hbox hb; have BK1 := Aside0.mk hbox; have HB := Aside0.mk hb; clear hb hbox hg; have hcz0 : w1.cell? ⟨g1, 0, none⟩ = some (.slice A0_0 l0_0.length c0_0) := (blk_cell BK1.out 0).trans rfl; have hcz1 : w1.cell? ⟨g1, 1, none⟩ = some (.int .i64 a0_1) := (blk_cell BK1.out 1).trans rfl; have hcz2 : w1.cell? ⟨g1, 2, none⟩ = some (.slice A0_2 l0_2.length c0_2) := (blk_cell BK1.out 2).trans rfl; have hcz3 : w1.cell? ⟨g1, 3, none⟩ = some (.slice A0_3 l0_3.length c0_3) := (blk_cell BK1.out 3).trans rfl; have hcz4 : w1.cell? ⟨g1, 4, none⟩ = some (.int .i64 a0_4) := (blk_cell BK1.out 4).trans rfl)) | (go_at_call 12; go_must (refine (scc_Check.calls k _ _ l0_0 a0_1 _ _ l0_2 _ _ l0_3 a0_4 e1 _ (Kd.C_below R0.out HB.out) L0.out (Kd.C_below R2.out HB.out) L2.out (Kd.C_below R3.out HB.out) L3.out HC.out).mono ?_; rintro e w2 ⟨rfl, hb⟩; have HB2 := Aside0.mk (HB.out.trans (hb.mono (below_size HB.out))); clear hb)))
    go_ret2
    exact ⟨_, rfl, Kd.R_nil _ _ _ _ _, HB2.out⟩

end Go.Proofs.Ytpkigkmkolbiiaa.P
end
