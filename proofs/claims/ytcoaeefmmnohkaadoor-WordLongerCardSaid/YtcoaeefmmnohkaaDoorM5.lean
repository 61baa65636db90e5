-- PACKED by pack.py of this repo: FPolish
import Derived.WalkSpells
import Derived.WalkLawsBesides
import Derived.Recover
import Derived.Test.YtcoaeefmmnohkaaDoorM2
section
namespace Go.Proofs.YtcoaeefmmnohkaaDoor.P
open Go.RowKit Go.Proofs.YtcoaeefmmnohkaaDoorW.PrintWords Go.Proofs.YtcoaeefmmnohkaaDoorW.PrintLast Go.Proofs.YtcoaeefmmnohkaaDoorW.PrintMore Go.Proofs.YtcoaeefmmnohkaaDoor.G
attribute [local go_sem] max2_int min2_int max_two min_two max_three min_three max_four min_four   -- for this text's walks alone
set_option linter.unusedVariables false
set_option linter.unusedSimpArgs false

/-! ### polish_Parts: function 46 -/
/-- How many parts each kind has. -/
def polish_Parts.tab : List Int := [-1, 0, 0, 2, 2, 2, 2, 2, 2, 2, 1, 0, 0, 0, 1, 2, 2, 1, 1]
def polish_Parts.f (a0 : Int) : Option (Int × Int) := if a0 < 1 then some (0, 13) else if 18 < a0 then some (0, 13) else some (polish_Parts.tab.getD a0.toNat 0, 0)
set_option maxHeartbeats 8000000 in
set_option maxRecDepth 100000 in
theorem polish_Parts.calls (a0 : Int) (r1 : Int) (r2 : Int) (w : World) (hG_ : Glob w) (h : polish_Parts.f a0 = some (r1, r2)) :
    Calls Tryd.prog 46 #[.int .i64 a0] w fun e w' => e = .returned (.tuple #[.int .i64 r1, .int .i64 r2]) ∧ Drawn0 w w' := by
  unfold polish_Parts.f at h
  by_cases c1 : a0 < 1
  · rw [if_pos c1] at h
    have c1' : decide (a0 < 1) = true := decide_eq_true c1
    obtain ⟨rfl, rfl⟩ := Prod.mk.inj (Option.some.inj h)
    go_enter Tryd.func46, Tryd.ntmps46
    go_wp2
    go_ret2
    exact ⟨rfl, 0, rfl⟩
  · rw [if_neg c1] at h
    have c1' : decide (a0 < 1) = false := decide_eq_false c1
    by_cases c2 : 18 < a0
    · rw [if_pos c2] at h
      have c2' : decide (18 < a0) = true := decide_eq_true c2
      obtain ⟨rfl, rfl⟩ := Prod.mk.inj (Option.some.inj h)
      go_enter Tryd.func46, Tryd.ntmps46
      go_wp2
      go_ret2
      exact ⟨rfl, 0, rfl⟩
    · rw [if_neg c2] at h
      have c2' : decide (18 < a0) = false := decide_eq_false c2
      obtain ⟨rfl, rfl⟩ := Prod.mk.inj (Option.some.inj h)
      have hcell : w.cell? ⟨0, a0.toNat, none⟩ = some (.int .i64 (polish_Parts.tab.getD a0.toNat 0)) := hG_.at_ a0.toNat (by show a0.toNat < 19; omega)
      generalize polish_Parts.tab.getD a0.toNat 0 = t at hcell ⊢
      have b0 : (0 ≤ a0) = True := eq_true (by omega)
      have b1 : (a0 < 19) = True := eq_true (by omega)
      clear c1 c2
      go_enter Tryd.func46, Tryd.ntmps46
      go_wp2
      go_ret2
      exact ⟨rfl, 0, rfl⟩

--IMPORT FPolishParts
--IMPORT Derived.WalkSpells
--IMPORT Derived.WalkLawsBesides
/-! ### polish_skip: function 42 -/
mutual
/-- What 'skip' answers (what it panics with, 0: nothing), and the ends behind it. -/
def polish_skip.f : Nat → List S51 → Int → List Int → Option (Int × Int × List Int)
  | 0, _, _, _ => none
  | k + 1, l, a, es => if 0 ≤ a then (if a < (l.length : Int) then (if (rd_T51 l a).f0 < 1 then some (13, 0, es) else (if 18 < (rd_T51 l a).f0 then some (13, 0, es) else polish_skip.l k l a (polish_Parts.tab.getD ((rd_T51 l a).f0).toNat 0) 0 (wrap64 (a + 1)) es)) else some (4, 0, es)) else none
def polish_skip.l : Nat → List S51 → Int → Int → Int → Int → List Int → Option (Int × Int × List Int)
  | 0, _, _, _, _, _, _ => none
  | k + 1, l, a, n, i, e, es => if i < n then ((polish_skip.f k l e es).bind fun r => if r.1 = 0 then polish_skip.l k l a n (wrap64 (i + 1)) r.2.1 r.2.2 else some (r.1, 0, r.2.2)) else (if a < (es.length : Int) then some (0, e, es.set a.toNat e) else none)
end
theorem polish_skip.mono_l : ∀ k, (∀ l a es, LeO (polish_skip.f k l a es) (polish_skip.f (k + 1) l a es)) ∧ (∀ l a n i e es, LeO (polish_skip.l k l a n i e es) (polish_skip.l (k + 1) l a n i e es))
  | 0 => ⟨fun _ _ _ r h => by simp [polish_skip.f] at h, fun _ _ _ _ _ _ r h => by simp [polish_skip.l] at h⟩
  | k + 1 => by
    obtain ⟨ih0, ih1⟩ := polish_skip.mono_l k
    refine ⟨fun l a es => ?_, fun l a n i e es => ?_⟩
    · unfold polish_skip.f
      exact LeO.ite (LeO.ite (LeO.ite (LeO.refl _) (LeO.ite (LeO.refl _) (ih1 _ _ _ _ _ _))) (LeO.refl _)) (LeO.none _)
    · unfold polish_skip.l
      exact LeO.ite (LeO.bind (ih0 _ _ _) (fun _ => LeO.ite (ih1 _ _ _ _ _ _) (LeO.refl _))) (LeO.refl _)
/-- What stands in memory while the reader goes on. -/
def polish_skip.St (w0 w : World) (gr : Nat) (A : Option Addr) (n c : Nat) (es : List Int) : Prop :=
  ∃ ve, w.heap[gr]? = some (.cells #[.slice A n c, ve] 85 (0, 0)) ∧ Kd.R (Kd.int .i64) 3 w w0.heap.size (fun _ => True) ve es ∧ Below w0.heap.size w0 w
theorem polish_skip.St.drewN {w0 w : World} {gr : Nat} {A : Option Addr} {n c : Nat} {es : List Int} (h : polish_skip.St w0 w gr A n c es) (m : Nat) : polish_skip.St w0 (w.drewN m) gr A n c es := by
  obtain ⟨ve, h1, h2, h3⟩ := h
  exact ⟨ve, h1, Kd.R_drewN h2 m, pw_below_drewN h3 m⟩
def polish_skip.pan (n : Int) : List PanicEntry := [{ v := .iface 26 (.int .i64 n), recovered := false }]
set_option maxHeartbeats 8000000 in
set_option maxRecDepth 100000 in
theorem polish_skip.calls (w0 : World) (A : Option Addr) (c : Nat) (l : List S51) (gr : Nat) (hr : Kd.C k51 w0 A l.length l) (hc : l.length ≤ c) (hG_ : Glob w0) (bg : w0.heap.size ≤ gr) (k : Nat) :
    ∀ (a : Int) (es : List Int) (r : Int × Int × List Int) (w : World) (hv : polish_skip.St w0 w gr A l.length c es) (h : polish_skip.f k l a es = some r),
      Calls Tryd.prog 42 #[.pointer (some ⟨gr, 0, none⟩), .int .i64 a] w fun e w' => (if r.1 = 0 then e = .returned (.int .i64 r.2.1) else e = .panicked (polish_skip.pan r.1)) ∧ polish_skip.St w0 w' gr A l.length c r.2.2 := by
  induction k using Nat.strongRecOn with
  | _ k ih =>
  intro a es r w hv h
  have R0 := Aside0.mk hr
  have L0 := Aside0.mk hc
  have BG := Aside0.mk bg
  have GL := Aside0.mk hG_
  clear hr hc hG_ bg
  cases k with
  | zero => exact absurd h (by simp [polish_skip.f])
  | succ k =>
  simp only [polish_skip.f] at h
  have HS := hv
  obtain ⟨ve, hbk, hre, hb⟩ := hv
  have BK := Aside0.mk hbk
  have RE := Aside0.mk hre
  have HB := Aside0.mk hb
  clear hbk hre hb
  obtain ⟨Ae, ce, rfl⟩ := Kd.R_slice RE.out
  have RW := Aside0.mk (Kd.C_below R0.out HB.out)
  have hcz0 : w.cell? ⟨gr, 0, none⟩ = some (.slice A l.length c) := (blk_cell BK.out 0).trans rfl
  have hcz1 : w.cell? ⟨gr, 1, none⟩ = some (.slice Ae es.length ce) := (blk_cell BK.out 1).trans rfl
  by_cases c1 : 0 ≤ a
  · rw [if_pos c1] at h
    by_cases c2 : a < (l.length : Int)
    · rw [if_pos c2] at h
      have c2' : decide (a ≥ (l.length : Int)) = false := decide_eq_false (by omega)
      obtain ⟨ad, eA, hx0, hx1⟩ := at_T51 RW.out a c1 c2
      subst eA
      have HX0 := Aside0.mk hx0
      have c1' := eq_true c1
      have c2b := eq_true c2
      clear c1 c2
      generalize hop : rd_T51 l a = op at *
      by_cases c3 : op.f0 < 1
      · rw [if_pos c3] at h
        obtain rfl := Option.some.inj h
        go_enter Tryd.func42, Tryd.ntmps42
        go_wp2_with (go_at_call 46; go_must (refine (polish_Parts.calls op.f0 0 13 _ (Glob.below GL.out HB.out) (by unfold polish_Parts.f; rw [if_pos c3])).mono ?_; rintro e w' ⟨rfl, ⟨nd, rfl⟩⟩))
        exact ⟨rfl, rfl, HS.drewN nd⟩
      · rw [if_neg c3] at h
        by_cases c4 : 18 < op.f0
        · rw [if_pos c4] at h
          obtain rfl := Option.some.inj h
          go_enter Tryd.func42, Tryd.ntmps42
          go_wp2_with (go_at_call 46; go_must (refine (polish_Parts.calls op.f0 0 13 _ (Glob.below GL.out HB.out) (by unfold polish_Parts.f; rw [if_neg c3, if_pos c4])).mono ?_; rintro e w' ⟨rfl, ⟨nd, rfl⟩⟩))
          exact ⟨rfl, rfl, HS.drewN nd⟩
        · rw [if_neg c4] at h
          have HP := Aside0.mk (show polish_Parts.f op.f0 = some (polish_Parts.tab.getD op.f0.toNat 0, 0) by unfold polish_Parts.f; rw [if_neg c3, if_neg c4])
          clear c3 c4
          generalize polish_Parts.tab.getD op.f0.toNat 0 = n at *
          have H' := Aside0.mk h
          clear h
          go_enter Tryd.func42, Tryd.ntmps42
          go_wp2_with (go_at_call 46; go_must (refine (polish_Parts.calls op.f0 n 0 _ (Glob.below GL.out HB.out) HP.out).mono ?_; rintro e w' ⟨rfl, ⟨nd, rfl⟩⟩))
          go_loopg [7, 35] k (fun kq v7 v35 w' => ∃ (e i : Int) (es1 : List Int), v7 = .int .i64 e ∧ v35 = .int .i64 i ∧ Aside0 (polish_skip.l kq l a n i e es1 = some r) ∧ Aside0 (kq ≤ k) ∧ Aside0 (polish_skip.St w0 w' gr (some ad) l.length c es1))
          case atStart => exact ⟨_, 0, es, rfl, rfl, H', ⟨Nat.le_refl _⟩, ⟨HS.drewN nd⟩⟩
          case round =>
            clear H' HS HP hx0 hx1 HX0 hop hcz0 hcz1 RW RE BK HB
            obtain ⟨e, i, es1, rfl, rfl, HA, HK, HV⟩ := hrel
            cases gk with
            | zero => exact absurd HA.out (by simp [polish_skip.l])
            | succ k1 =>
              have H := HA.out
              clear HA
              simp only [polish_skip.l] at H
              by_cases d1 : i < n
              · rw [if_pos d1] at H
                have d1' : decide (i < n) = true := decide_eq_true d1
                clear d1
                obtain ⟨r1, A1, H⟩ := Option.bind_eq_some_iff.mp H
                have HA1 := Aside0.mk A1
                clear A1
                by_cases d2 : r1.1 = 0
                · rw [if_pos d2] at H
                  have D2 := Aside0.mk d2
                  clear d2
                  have H' := Aside0.mk H
                  clear H
                  go_wp2_with (go_at_call 42; go_must (refine (ih k1 (by have := HK.out; omega) e es1 r1 _ HV.out HA1.out).mono ?_; rintro e' w2 ⟨he, hv⟩; rw [if_pos D2.out] at he; subst he; have HV2 := Aside0.mk hv; clear hv))
                  go_roundg k1
                  case measure => have := HK.out; omega
                  case rel => exact ⟨_, wrap64 (i + 1), r1.2.2, rfl, rfl, H', ⟨by have := HK.out; omega⟩, HV2⟩
                · rw [if_neg d2] at H
                  have D2 := Aside0.mk d2
                  clear d2
                  obtain rfl := Option.some.inj H
                  clear H
                  go_wp2_with (go_at_call 42; go_must (refine (ih k1 (by have := HK.out; omega) e es1 r1 _ HV.out HA1.out).mono ?_; rintro e' w2 ⟨he, hv⟩; rw [if_neg D2.out] at he; subst he; have HV2 := Aside0.mk hv; clear hv))
                  all_goals first | exact absurd (by assumption) D2.out | exact ⟨rfl, rfl, HV2.out⟩
              · rw [if_neg d1] at H
                have d1' : decide (i < n) = false := decide_eq_false d1
                clear d1
                by_cases d2 : a < (es1.length : Int)
                · rw [if_pos d2] at H
                  obtain rfl := Option.some.inj H
                  clear H
                  obtain ⟨ve, hbk, hre, hb⟩ := HV.out
                  have BK := Aside0.mk hbk
                  have RE := Aside0.mk hre
                  have HB := Aside0.mk hb
                  clear hbk hre hb HV
                  obtain ⟨Ae2, ce2, rfl⟩ := Kd.R_slice RE.out
                  obtain ⟨gs, cp, he5, _, _, cgs, hgs⟩ := Kd.R_form RE.out (by have := of_eq_true c1'; omega)
                  cases he5
                  have HGS := Aside0.mk hgs
                  have N5s : gr ≠ gs := blk_ne BK.out hgs (by decide)
                  obtain ⟨hcs, hfs⟩ := Kd.R_celln (0 : Int) RE.out a (of_eq_true c1') d2
                  have d2' := eq_true d2
                  clear hgs d2
                  have hcz1 : wr.cell? ⟨gr, 1, none⟩ = some (.slice (some ⟨gs, 0, none⟩) es1.length ce2) := (blk_cell BK.out 1).trans rfl
                  go_wp2_with ((with_reducible refine gate_store (t := 3) (p := 47) (v := .tmp 46) rfl ?_); go_must (refine store_event (t := 3) (p := 47) (v := .tmp 46) (w1 := (wr.setCell ⟨gs, a.toNat, none⟩ (.int .i64 e))) ?hg ?ho ?hn ?hr ?_; (case ho => rfl); (case hg => rfl); (case hn => rfl); (case hr => first | (go_simp; done) | (go_simp; rfl)); intro w1 hw1; have HV2 := Aside0.mk (show polish_skip.St w0 w1 gr (some ad) l.length c (es1.set a.toNat e) by rw [hw1]; exact ⟨_, blk_far (p := ⟨gs, a.toNat, none⟩) BK.out N5s _, by exact Kd.R_putn RE.out a e, HB.out.setCell (Kd.R_base RE.out gs rfl) _⟩); clear hw1))
                  go_ret
                  exact ⟨rfl, HV2.out⟩
                · rw [if_neg d2] at H
                  exact absurd H (by simp)
    · rw [if_neg c2] at h
      have c2' : decide (a ≥ (l.length : Int)) = true := decide_eq_true (by omega)
      obtain rfl := Option.some.inj h
      clear c1 c2
      go_enter Tryd.func42, Tryd.ntmps42
      go_wp2
      exact ⟨rfl, rfl, HS⟩
  · rw [if_neg c1] at h
    exact absurd h (by simp)

--IMPORT Derived.WalkSpells
--IMPORT Derived.WalkLawsBesides
--IMPORT Derived.Recover
/-! ### polish_catch: function 41 -/
set_option maxRecDepth 100000 in
theorem polish_catch.panicking (g2 g3 : Nat) (v2 v3 : Value) (n : Int) (w : World) (h2 : w.heap[g2]? = some (.cells #[v2] 25 (0, 0))) (h3 : w.heap[g3]? = some (.cells #[v3] 26 (0, 0))) (hne : g2 ≠ g3) :
    CallsD Tryd.prog 41 #[.pointer (some ⟨g2, 0, none⟩), .pointer (some ⟨g3, 0, none⟩)] (.panicking [{ v := .iface 26 (.int .i64 n), recovered := false }]) w fun e u' w' =>
      e = .returned (.tuple #[]) ∧ u' = .panicking [{ v := .iface 26 (.int .i64 n), recovered := true }] ∧ w'.heap[g2]? = some (.cells #[.slice none 0 0] 25 (0, 0)) ∧ w'.heap[g3]? = some (.cells #[.int .i64 n] 26 (0, 0)) ∧ ∀ b, b ≤ g2 → b ≤ g3 → Below b w w' := by
  have hc2 : w.cell? ⟨g2, 0, none⟩ = some v2 := (blk_cell h2 0).trans rfl
  have hc3 : w.cell? ⟨g3, 0, none⟩ = some v3 := (blk_cell h3 0).trans rfl
  have hz2 := blk_frozen h2 0
  have hz3 := blk_frozen h3 0
  have hn3 : g3 ≠ g2 := hne.symm
  have B2 := Aside0.mk h2
  have B3 := Aside0.mk h3
  clear h2 h3
  refine callsD_of_wpS Tryd.func41 rfl fun c₀ cs hu => ?_
  apply wpS_seq
  apply wpS_region
  simp [wpOpsS, go_sem, recoverD, hu, Tryd.ntmps41, Exit.thenS]
  apply wpS_seq
  apply wpS_region
  simp [wpOpsS, go_sem, recoverD, hu, Tryd.ntmps41, Exit.thenS]
  refine wpS_cond (t := true) (by simp [Act.eval, Array.replicate]) ?_
  simp only [if_true]
  have hta : ∀ W : World, (Instr.typeAssert (.iface 26 (.int .i64 n)) 20 26 false).run Tryd.prog W = .ok (.int .i64 n) W := fun W => by rfl
  refine wpS_of_wp ?_
  go_region
  all_goals
    have b2 : w.drew.heap[g2]? = some (.cells #[v2] 25 (0, 0)) := B2.out
    have b3 : w.drew.heap[g3]? = some (.cells #[v3] 26 (0, 0)) := B3.out
    refine ⟨rfl, _, rfl, .tuple #[], by simp [results, Tryd.results41], rfl, rfl, ?_, ?_, fun b h2 h3 => ?_⟩
    · first
      | exact blk_far (p := ⟨g3, 0, none⟩) (blk_put b2 0 _ rfl) hne _
      | exact blk_put (blk_far (p := ⟨g3, 0, none⟩) b2 hne _) 0 _ rfl
    · first
      | exact blk_far (p := ⟨g2, 0, none⟩) (blk_put b3 0 _ rfl) hn3 _
      | exact blk_put (blk_far (p := ⟨g2, 0, none⟩) b3 hn3 _) 0 _ rfl
    · have b0 : Below b w w.drew := (Below.refl b w).drew
      first
      | exact (b0.setCell (p := ⟨g2, 0, none⟩) h2 _).setCell (p := ⟨g3, 0, none⟩) h3 _
      | exact (b0.setCell (p := ⟨g3, 0, none⟩) h3 _).setCell (p := ⟨g2, 0, none⟩) h2 _
theorem polish_catch.idle (p q : Addr) (w : World) :
    CallsD Tryd.prog 41 #[.pointer (some p), .pointer (some q)] .returning w fun e u' w' => e = .returned (.tuple #[]) ∧ u' = .returning ∧ w' = w := by
  refine callsD_of_wpS Tryd.func41 rfl fun c₀ cs hu => ?_
  apply wpS_seq
  apply wpS_region
  simp [wpOpsS, go_sem, recoverD, hu, Tryd.ntmps41, Exit.thenS]
  apply wpS_seq
  apply wpS_region
  simp [wpOpsS, go_sem, recoverD, hu, Tryd.ntmps41, Exit.thenS]
  refine wpS_cond (t := false) (by simp [Act.eval, Array.replicate]) ?_
  simp only [Bool.false_eq_true, if_false]
  refine wpS_of_wp (wp_skip ?_)
  cases c₀
  simp_all [bodyPostS, results, Tryd.results41]

/-! ### polish_Ends: function 32 -/
--IMPORT Derived.WalkSpells
--IMPORT Derived.WalkLawsBesides
--IMPORT Derived.Recover
def polish_Ends.f (k : Nat) (l0 : List (S51)) : Option (List Int × Int) := if 60 < (l0.length : Int) then some ([], 1) else ((polish_skip.f k l0 0 (List.replicate l0.length 0)).bind fun r => if r.1 = 0 then (if r.2.1 = (l0.length : Int) then some (r.2.2, 0) else some ([], 3)) else some ([], r.1))
theorem polish_Ends.mono : ∀ a0 k, LeO (polish_Ends.f k a0) (polish_Ends.f (k + 1) a0) := by
  intro a0 k
  unfold polish_Ends.f
  exact LeO.ite (LeO.refl _) (LeO.bind ((polish_skip.mono_l k).1 _ _ _) (fun _ => LeO.refl _))
set_option maxHeartbeats 8000000 in
set_option maxRecDepth 100000 in
theorem polish_Ends.calls (k : Nat) (A0 : Option Addr) (c0 : Nat) (l0 : List (S51)) (r1 : List Int) (r2 : Int) (w : World) (hr0 : Kd.C k51 w A0 l0.length l0) (hc0 : l0.length ≤ c0) (hG_ : Glob w) (h : polish_Ends.f k l0 = some (r1, r2)) :
    Calls Tryd.prog 32 #[.slice A0 l0.length c0] w fun e w' => ∃ v0_ : Value, e = .returned (.tuple #[v0_, .int .i64 r2]) ∧ Kd.R (Kd.int .i64) 3 w' w.heap.size (fun _ => True) v0_ r1 ∧ Below w.heap.size w w' := by
  have hmf : ∀ (fn : Fn) (first cap : Array Value) (w : World), (Instr.makeFunc fn first cap).run Tryd.prog w = .ok (.func fn first cap) w := fun _ _ _ _ => rfl
  have info3 := (by kernel_rfl : (Tryd.prog.info? 3).map (fun i => (i.zero, i.size, i.bytes)) = some (some (.int .i64 0), 1, 8))
  have R0 := Aside0.mk hr0
  have L0 := Aside0.mk hc0
  have GL := Aside0.mk hG_
  clear hr0 hc0 hG_
  unfold polish_Ends.f at h
  by_cases c1 : 60 < (l0.length : Int)
  · rw [if_pos c1] at h
    have c1' : decide ((l0.length : Int) > 60) = true := decide_eq_true c1
    clear c1
    obtain ⟨rfl, rfl⟩ := Prod.mk.inj (Option.some.inj h)
    clear h
    go_enter_defers Tryd.func32, Tryd.ntmps32
    go_wp2_with (first | ((with_reducible refine gate_dst (N := 2) rfl ?_); go_must (refine box_event ?hg (N := 2) ?hd (cs := #[.slice none 0 0]) (t := 25) ?hr ?_; (case hd => rfl); (case hg => rfl); (case hr => first | (go_simp; done) | (go_simp; rfl)); intro g2 hg w1 hbox hb; have BK2 := Aside0.mk hbox; have HB1 := Aside0.mk hb; have B2 := Aside0.mk (show w.heap.size ≤ g2 by rw [hg]; exact Nat.le_refl _); clear hb hbox hg)) | ((with_reducible refine gate_dst (N := 3) rfl ?_); go_must (refine box_event ?hg (N := 3) ?hd (cs := #[.int .i64 0]) (t := 26) ?hr ?_; (case hd => rfl); (case hg => rfl); (case hr => first | (go_simp; done) | (go_simp; rfl)); intro g3 hg w2 hbox hb; have BK3 := Aside0.mk hbox; have K2 := Aside0.mk (blk_below BK2.out hb); have HB2 := Aside0.mk (below_step HB1.out hb); have B3 := Aside0.mk (show w.heap.size ≤ g3 by rw [hg]; exact below_size HB1.out); clear hb hbox hg; have N23 : g2 ≠ g3 := blk_ne K2.out BK3.out (by decide); have hcz2 : w2.cell? ⟨g2, 0, none⟩ = some (.slice none 0 0) := (blk_cell K2.out 0).trans rfl; have hfz2 := blk_frozen K2.out 0; have hcz3 : w2.cell? ⟨g3, 0, none⟩ = some (.int .i64 0) := (blk_cell BK3.out 0).trans rfl; have hfz3 := blk_frozen BK3.out 0)))
    have k2 := blk_far (p := ⟨g3, 0, none⟩) (blk_put K2.out 0 (.slice none 0 0) rfl) N23 (.int .i64 1)
    have k3 := blk_put (blk_far (p := ⟨g2, 0, none⟩) BK3.out N23.symm (.slice none 0 0)) 0 (.int .i64 1) rfl
    have kb := (HB2.out.setCell (p := ⟨g2, 0, none⟩) B2.out (.slice none 0 0)).setCell (p := ⟨g3, 0, none⟩) B3.out (.int .i64 1)
    generalize (w2.setCell ⟨g2, 0, none⟩ (.slice none 0 0)).setCell ⟨g3, 0, none⟩ (.int .i64 1) = W at *
    have q2 : W.cell? ⟨g2, 0, none⟩ = some (.slice none 0 0) := (blk_cell k2 0).trans rfl
    have q3 : W.cell? ⟨g3, 0, none⟩ = some (.int .i64 1) := (blk_cell k3 0).trans rfl
    refine ⟨.tuple #[.slice none 0 0, .int .i64 1], ?_, _, rfl, Kd.R_nil _ _ _ _ _, kb⟩
    simp [results, Tryd.results32, go_sem, q2, q3]
  · rw [if_neg c1] at h
    have c1' : decide ((l0.length : Int) > 60) = false := decide_eq_false c1
    have LM := Aside0.mk c1
    clear c1
    obtain ⟨r, hA, h⟩ := Option.bind_eq_some_iff.mp h
    have HA := Aside0.mk hA
    clear hA
    by_cases c2 : r.1 = 0
    · rw [if_pos c2] at h
      have C2 := Aside0.mk c2
      clear c2
      by_cases c3 : r.2.1 = (l0.length : Int)
      · rw [if_pos c3] at h
        have C3 := Aside0.mk c3
        obtain ⟨rfl, rfl⟩ := Prod.mk.inj (Option.some.inj h)
        clear h
        have c3' : decide (r.2.1 ≠ (l0.length : Int)) = false := decide_eq_false (by omega)
        go_enter_defers Tryd.func32, Tryd.ntmps32
        go_wp2_with (first | ((with_reducible refine gate_dst (N := 2) rfl ?_); go_must (refine box_event ?hg (N := 2) ?hd (cs := #[.slice none 0 0]) (t := 25) ?hr ?_; (case hd => rfl); (case hg => rfl); (case hr => first | (go_simp; done) | (go_simp; rfl)); intro g2 hg w1 hbox hb; have BK2 := Aside0.mk hbox; have HB1 := Aside0.mk hb; have B2 := Aside0.mk (show w.heap.size ≤ g2 by rw [hg]; exact Nat.le_refl _); clear hb hbox hg)) | ((with_reducible refine gate_dst (N := 3) rfl ?_); go_must (refine box_event ?hg (N := 3) ?hd (cs := #[.int .i64 0]) (t := 26) ?hr ?_; (case hd => rfl); (case hg => rfl); (case hr => first | (go_simp; done) | (go_simp; rfl)); intro g3 hg w2 hbox hb; have BK3 := Aside0.mk hbox; have K2 := Aside0.mk (blk_below BK2.out hb); have HB2 := Aside0.mk (below_step HB1.out hb); have B3 := Aside0.mk (show w.heap.size ≤ g3 by rw [hg]; exact below_size HB1.out); clear hb hbox hg; have N23 : g2 ≠ g3 := blk_ne K2.out BK3.out (by decide); have hcz2 : w2.cell? ⟨g2, 0, none⟩ = some (.slice none 0 0) := (blk_cell K2.out 0).trans rfl; have hfz2 := blk_frozen K2.out 0; have hcz3 : w2.cell? ⟨g3, 0, none⟩ = some (.int .i64 0) := (blk_cell BK3.out 0).trans rfl; have hfz3 := blk_frozen BK3.out 0)) | ((with_reducible refine gate_dst (N := 12) rfl ?_); go_must (refine Kd.R_make (Kd.int .i64) (w0 := w2) w2.heap.size 3 rfl (N := 12) rfl 25 _ _ rfl (l0.length : Int) rfl rfl Tryd.underlying25 (.int .i64 0) 8 info3 rfl (by decide) (by omega) 0 (ok := fun _ => True) (okp := fun _ => True) rfl (fun _ hk => hk) trivial (by omega) (by have := LM.out; omega) (Below.refl _ _) (Nat.le_refl _) ?_; intro ve w3 ho hb hg hnew; obtain ⟨As, cs5, rfl⟩ := Kd.R_slice ho; rw [List.length_replicate, Int.toNat_natCast] at ho; have RE3 := Aside0.mk ho; have HB3 := Aside0.mk hb; clear ho hb hg hnew)) | ((with_reducible refine gate_dst (N := 14) rfl ?_); go_must (refine box_event ?hg (N := 14) ?hd (cs := #[.slice A0 l0.length c0, .slice As l0.length cs5]) (t := 85) ?hr ?_; (case hd => rfl); (case hg => rfl); (case hr => first | (go_simp; done) | (go_simp; rfl)); intro gr hg w4 hbox hb; have HS := Aside0.mk (show polish_skip.St w2 w4 gr A0 l0.length c0 (List.replicate l0.length 0) from ⟨_, hbox, Kd.R_below RE3.out hb, below_step HB3.out hb⟩); have BG := Aside0.mk (show w2.heap.size ≤ gr by rw [hg]; exact below_size HB3.out); clear hb hbox hg)) | (go_at_call 42; go_must (refine (polish_skip.calls w2 A0 c0 l0 gr (Kd.C_below R0.out HB2.out) L0.out (Glob.below GL.out HB2.out) BG.out k 0 (List.replicate l0.length 0) r w4 HS.out HA.out).mono ?_; rintro e w5 ⟨he, hv⟩; rw [if_pos C2.out] at he; subst he; have HS5 := Aside0.mk hv; clear hv; obtain ⟨ve, k5, re5, b5⟩ := HS5.out; have K5 := Aside0.mk k5; have RE5 := Aside0.mk re5; have HB5 := Aside0.mk b5; clear k5 re5 b5; obtain ⟨Ae, ce, rfl⟩ := Kd.R_slice RE5.out; have K52 := Aside0.mk (blk_below K2.out HB5.out); have K53 := Aside0.mk (blk_below BK3.out HB5.out); have hdz2 : w5.cell? ⟨g2, 0, none⟩ = some (.slice none 0 0) := (blk_cell K52.out 0).trans rfl; have hdf2 := blk_frozen K52.out 0; have hdz3 : w5.cell? ⟨g3, 0, none⟩ = some (.int .i64 0) := (blk_cell K53.out 0).trans rfl; have hdf3 := blk_frozen K53.out 0; have hdz4 : w5.cell? ⟨gr, 1, none⟩ = some (.slice Ae r.2.2.length ce) := (blk_cell K5.out 1).trans rfl)))
        have k2 := blk_far (p := ⟨g3, 0, none⟩) (blk_put K52.out 0 (.slice Ae r.2.2.length ce) rfl) N23 (.int .i64 0)
        have k3 := blk_put (blk_far (p := ⟨g2, 0, none⟩) K53.out N23.symm (.slice Ae r.2.2.length ce)) 0 (.int .i64 0) rfl
        have kb := ((below_step HB2.out HB5.out).setCell (p := ⟨g2, 0, none⟩) B2.out (.slice Ae r.2.2.length ce)).setCell (p := ⟨g3, 0, none⟩) B3.out (.int .i64 0)
        have kr := Kd.R_set (Kd.R_set RE5.out K52.out (by decide) 0 (.slice Ae r.2.2.length ce)) (blk_far (p := ⟨g2, 0, none⟩) K53.out N23.symm (.slice Ae r.2.2.length ce)) (by decide) 0 (.int .i64 0)
        generalize (w5.setCell ⟨g2, 0, none⟩ (.slice Ae r.2.2.length ce)).setCell ⟨g3, 0, none⟩ (.int .i64 0) = W at *
        have q2 : W.cell? ⟨g2, 0, none⟩ = some (.slice Ae r.2.2.length ce) := (blk_cell k2 0).trans rfl
        have q3 : W.cell? ⟨g3, 0, none⟩ = some (.int .i64 0) := (blk_cell k3 0).trans rfl
        refine leaves_cons (f := 41) (args := #[.pointer (some ⟨g2, 0, none⟩), .pointer (some ⟨g3, 0, none⟩)]) (by simp) (by simp [go_sem]) ?_
        refine (polish_catch.idle _ _ _).mono ?_
        rintro e u' w' ⟨rfl, rfl, rfl⟩
        refine ⟨.tuple #[.slice Ae r.2.2.length ce, .int .i64 0], ?_, _, rfl, Kd.R_lower kr (below_size HB2.out), kb⟩
        simp [results, Tryd.results32, go_sem, q2, q3]
      · rw [if_neg c3] at h
        obtain ⟨rfl, rfl⟩ := Prod.mk.inj (Option.some.inj h)
        clear h
        go_enter_defers Tryd.func32, Tryd.ntmps32
        go_wp2_with (first | ((with_reducible refine gate_dst (N := 2) rfl ?_); go_must (refine box_event ?hg (N := 2) ?hd (cs := #[.slice none 0 0]) (t := 25) ?hr ?_; (case hd => rfl); (case hg => rfl); (case hr => first | (go_simp; done) | (go_simp; rfl)); intro g2 hg w1 hbox hb; have BK2 := Aside0.mk hbox; have HB1 := Aside0.mk hb; have B2 := Aside0.mk (show w.heap.size ≤ g2 by rw [hg]; exact Nat.le_refl _); clear hb hbox hg)) | ((with_reducible refine gate_dst (N := 3) rfl ?_); go_must (refine box_event ?hg (N := 3) ?hd (cs := #[.int .i64 0]) (t := 26) ?hr ?_; (case hd => rfl); (case hg => rfl); (case hr => first | (go_simp; done) | (go_simp; rfl)); intro g3 hg w2 hbox hb; have BK3 := Aside0.mk hbox; have K2 := Aside0.mk (blk_below BK2.out hb); have HB2 := Aside0.mk (below_step HB1.out hb); have B3 := Aside0.mk (show w.heap.size ≤ g3 by rw [hg]; exact below_size HB1.out); clear hb hbox hg; have N23 : g2 ≠ g3 := blk_ne K2.out BK3.out (by decide); have hcz2 : w2.cell? ⟨g2, 0, none⟩ = some (.slice none 0 0) := (blk_cell K2.out 0).trans rfl; have hfz2 := blk_frozen K2.out 0; have hcz3 : w2.cell? ⟨g3, 0, none⟩ = some (.int .i64 0) := (blk_cell BK3.out 0).trans rfl; have hfz3 := blk_frozen BK3.out 0)) | ((with_reducible refine gate_dst (N := 12) rfl ?_); go_must (refine Kd.R_make (Kd.int .i64) (w0 := w2) w2.heap.size 3 rfl (N := 12) rfl 25 _ _ rfl (l0.length : Int) rfl rfl Tryd.underlying25 (.int .i64 0) 8 info3 rfl (by decide) (by omega) 0 (ok := fun _ => True) (okp := fun _ => True) rfl (fun _ hk => hk) trivial (by omega) (by have := LM.out; omega) (Below.refl _ _) (Nat.le_refl _) ?_; intro ve w3 ho hb hg hnew; obtain ⟨As, cs5, rfl⟩ := Kd.R_slice ho; rw [List.length_replicate, Int.toNat_natCast] at ho; have RE3 := Aside0.mk ho; have HB3 := Aside0.mk hb; clear ho hb hg hnew)) | ((with_reducible refine gate_dst (N := 14) rfl ?_); go_must (refine box_event ?hg (N := 14) ?hd (cs := #[.slice A0 l0.length c0, .slice As l0.length cs5]) (t := 85) ?hr ?_; (case hd => rfl); (case hg => rfl); (case hr => first | (go_simp; done) | (go_simp; rfl)); intro gr hg w4 hbox hb; have HS := Aside0.mk (show polish_skip.St w2 w4 gr A0 l0.length c0 (List.replicate l0.length 0) from ⟨_, hbox, Kd.R_below RE3.out hb, below_step HB3.out hb⟩); have BG := Aside0.mk (show w2.heap.size ≤ gr by rw [hg]; exact below_size HB3.out); clear hb hbox hg)) | (go_at_call 42; go_must (refine (polish_skip.calls w2 A0 c0 l0 gr (Kd.C_below R0.out HB2.out) L0.out (Glob.below GL.out HB2.out) BG.out k 0 (List.replicate l0.length 0) r w4 HS.out HA.out).mono ?_; rintro e w5 ⟨he, hv⟩; rw [if_pos C2.out] at he; subst he; have HS5 := Aside0.mk hv; clear hv; obtain ⟨ve, k5, re5, b5⟩ := HS5.out; have K5 := Aside0.mk k5; have RE5 := Aside0.mk re5; have HB5 := Aside0.mk b5; clear k5 re5 b5; obtain ⟨Ae, ce, rfl⟩ := Kd.R_slice RE5.out; have K52 := Aside0.mk (blk_below K2.out HB5.out); have K53 := Aside0.mk (blk_below BK3.out HB5.out); have hdz2 : w5.cell? ⟨g2, 0, none⟩ = some (.slice none 0 0) := (blk_cell K52.out 0).trans rfl; have hdf2 := blk_frozen K52.out 0; have hdz3 : w5.cell? ⟨g3, 0, none⟩ = some (.int .i64 0) := (blk_cell K53.out 0).trans rfl; have hdf3 := blk_frozen K53.out 0; have hdz4 : w5.cell? ⟨gr, 1, none⟩ = some (.slice Ae r.2.2.length ce) := (blk_cell K5.out 1).trans rfl)))
        refine leaves_cons (f := 41) (args := #[.pointer (some ⟨g2, 0, none⟩), .pointer (some ⟨g3, 0, none⟩)]) (by simp) (by simp [go_sem]) ?_
        refine (polish_catch.panicking g2 g3 _ _ 3 _ K52.out K53.out N23).mono ?_
        rintro e u' w' ⟨rfl, rfl, k2, k3, kb⟩
        have q2 : w'.cell? ⟨g2, 0, none⟩ = some (.slice none 0 0) := (blk_cell k2 0).trans rfl
        have q3 : w'.cell? ⟨g3, 0, none⟩ = some (.int .i64 3) := (blk_cell k3 0).trans rfl
        refine ⟨.tuple #[.slice none 0 0, .int .i64 3], ?_, _, rfl, Kd.R_nil _ _ _ _ _, (below_step HB2.out HB5.out).trans (kb _ B2.out B3.out)⟩
        simp [results, Tryd.results32, go_sem, q2, q3]
    · rw [if_neg c2] at h
      have C2 := Aside0.mk c2
      clear c2
      obtain ⟨rfl, rfl⟩ := Prod.mk.inj (Option.some.inj h)
      clear h
      go_enter_defers Tryd.func32, Tryd.ntmps32
      go_wp2_with (first | ((with_reducible refine gate_dst (N := 2) rfl ?_); go_must (refine box_event ?hg (N := 2) ?hd (cs := #[.slice none 0 0]) (t := 25) ?hr ?_; (case hd => rfl); (case hg => rfl); (case hr => first | (go_simp; done) | (go_simp; rfl)); intro g2 hg w1 hbox hb; have BK2 := Aside0.mk hbox; have HB1 := Aside0.mk hb; have B2 := Aside0.mk (show w.heap.size ≤ g2 by rw [hg]; exact Nat.le_refl _); clear hb hbox hg)) | ((with_reducible refine gate_dst (N := 3) rfl ?_); go_must (refine box_event ?hg (N := 3) ?hd (cs := #[.int .i64 0]) (t := 26) ?hr ?_; (case hd => rfl); (case hg => rfl); (case hr => first | (go_simp; done) | (go_simp; rfl)); intro g3 hg w2 hbox hb; have BK3 := Aside0.mk hbox; have K2 := Aside0.mk (blk_below BK2.out hb); have HB2 := Aside0.mk (below_step HB1.out hb); have B3 := Aside0.mk (show w.heap.size ≤ g3 by rw [hg]; exact below_size HB1.out); clear hb hbox hg; have N23 : g2 ≠ g3 := blk_ne K2.out BK3.out (by decide); have hcz2 : w2.cell? ⟨g2, 0, none⟩ = some (.slice none 0 0) := (blk_cell K2.out 0).trans rfl; have hfz2 := blk_frozen K2.out 0; have hcz3 : w2.cell? ⟨g3, 0, none⟩ = some (.int .i64 0) := (blk_cell BK3.out 0).trans rfl; have hfz3 := blk_frozen BK3.out 0)) | ((with_reducible refine gate_dst (N := 12) rfl ?_); go_must (refine Kd.R_make (Kd.int .i64) (w0 := w2) w2.heap.size 3 rfl (N := 12) rfl 25 _ _ rfl (l0.length : Int) rfl rfl Tryd.underlying25 (.int .i64 0) 8 info3 rfl (by decide) (by omega) 0 (ok := fun _ => True) (okp := fun _ => True) rfl (fun _ hk => hk) trivial (by omega) (by have := LM.out; omega) (Below.refl _ _) (Nat.le_refl _) ?_; intro ve w3 ho hb hg hnew; obtain ⟨As, cs5, rfl⟩ := Kd.R_slice ho; rw [List.length_replicate, Int.toNat_natCast] at ho; have RE3 := Aside0.mk ho; have HB3 := Aside0.mk hb; clear ho hb hg hnew)) | ((with_reducible refine gate_dst (N := 14) rfl ?_); go_must (refine box_event ?hg (N := 14) ?hd (cs := #[.slice A0 l0.length c0, .slice As l0.length cs5]) (t := 85) ?hr ?_; (case hd => rfl); (case hg => rfl); (case hr => first | (go_simp; done) | (go_simp; rfl)); intro gr hg w4 hbox hb; have HS := Aside0.mk (show polish_skip.St w2 w4 gr A0 l0.length c0 (List.replicate l0.length 0) from ⟨_, hbox, Kd.R_below RE3.out hb, below_step HB3.out hb⟩); have BG := Aside0.mk (show w2.heap.size ≤ gr by rw [hg]; exact below_size HB3.out); clear hb hbox hg)) | (go_at_call 42; go_must (refine (polish_skip.calls w2 A0 c0 l0 gr (Kd.C_below R0.out HB2.out) L0.out (Glob.below GL.out HB2.out) BG.out k 0 (List.replicate l0.length 0) r w4 HS.out HA.out).mono ?_; rintro e w5 ⟨he, hv⟩; rw [if_neg C2.out] at he; subst he; have HS5 := Aside0.mk hv; clear hv; obtain ⟨ve, k5, re5, b5⟩ := HS5.out; have K5 := Aside0.mk k5; have RE5 := Aside0.mk re5; have HB5 := Aside0.mk b5; clear k5 re5 b5; obtain ⟨Ae, ce, rfl⟩ := Kd.R_slice RE5.out; have K52 := Aside0.mk (blk_below K2.out HB5.out); have K53 := Aside0.mk (blk_below BK3.out HB5.out); have hdz2 : w5.cell? ⟨g2, 0, none⟩ = some (.slice none 0 0) := (blk_cell K52.out 0).trans rfl; have hdf2 := blk_frozen K52.out 0; have hdz3 : w5.cell? ⟨g3, 0, none⟩ = some (.int .i64 0) := (blk_cell K53.out 0).trans rfl; have hdf3 := blk_frozen K53.out 0; have hdz4 : w5.cell? ⟨gr, 1, none⟩ = some (.slice Ae r.2.2.length ce) := (blk_cell K5.out 1).trans rfl)))
      refine leaves_cons (f := 41) (args := #[.pointer (some ⟨g2, 0, none⟩), .pointer (some ⟨g3, 0, none⟩)]) (by simp) (by simp [go_sem]) ?_
      refine (polish_catch.panicking g2 g3 _ _ r.1 _ K52.out K53.out N23).mono ?_
      rintro e u' w' ⟨rfl, rfl, k2, k3, kb⟩
      have q2 : w'.cell? ⟨g2, 0, none⟩ = some (.slice none 0 0) := (blk_cell k2 0).trans rfl
      have q3 : w'.cell? ⟨g3, 0, none⟩ = some (.int .i64 r.1) := (blk_cell k3 0).trans rfl
      refine ⟨.tuple #[.slice none 0 0, .int .i64 r.1], ?_, _, rfl, Kd.R_nil _ _ _ _ _, (below_step HB2.out HB5.out).trans (kb _ B2.out B3.out)⟩
      simp [results, Tryd.results32, go_sem, q2, q3]

end Go.Proofs.YtcoaeefmmnohkaaDoor.P
end
