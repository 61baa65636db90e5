-- a walk, laid out by a program of this repo over the seat's translation
import Derived.Test.YtcoaeefmmnohkaaDoorF0
import Derived.Test.YtcoaeefmmnohkaaDoorFPolishParts
import Derived.Test.YtcoaeefmmnohkaaDoorFPolishParts
import Derived.WalkSpells
import Derived.WalkLawsBesides
namespace Go.Proofs.YtcoaeefmmnohkaaDoor.P
open Go.RowKit Go.Proofs.YtcoaeefmmnohkaaDoorW.PrintWords Go.Proofs.YtcoaeefmmnohkaaDoorW.PrintLast Go.Proofs.YtcoaeefmmnohkaaDoorW.PrintMore Go.Proofs.YtcoaeefmmnohkaaDoor.G
attribute [local go_sem] max2_int min2_int max_two min_two max_three min_three max_four min_four   -- for this text's walks alone
set_option linter.unusedVariables false
set_option linter.unusedSimpArgs false

--IMPORT FPolishParts
--IMPORT Derived.WalkSpells
--IMPORT Derived.WalkLawsBesides
/-! ### polish_skip: function 42 -/
mutual
/-- What 'skip' answers (what it panics with, 0: nothing), and the ends behind it. -/
def polish_skip.f : Nat → List S51 → Int → List Int → Option (Int × Int × List Int)
  | 0, _, _, _ => none
  | k + 1, l, a, es => if 0 ≤ a then (if a < (l.length : Int) then (if (rd_T51 l a).f0 < 1 then some (13, 0, es) else (if 18 < (rd_T51 l a).f0 then some (13, 0, es) else polish_skip.l k l a (polish_Parts.tab.getD ((rd_T51 l a).f0).toNat 0) 0 (wrap64 (a + 1)) es)) else some (4, 0, es)) else none
def polish_skip.l : Nat → List S51 → Int → Int → Int → Int → List Int → Option (Int × Int × List Int)
  | 0, _, _, _, _, _, _ => none
  | k + 1, l, a, n, i, e, es => if i < n then ((polish_skip.f k l e es).bind fun r => if r.1 = 0 then polish_skip.l k l a n (wrap64 (i + 1)) r.2.1 r.2.2 else some (r.1, 0, r.2.2)) else (if a < (es.length : Int) then some (0, e, es.set a.toNat e) else none)
end
theorem polish_skip.mono_l : ∀ k, (∀ l a es, LeO (polish_skip.f k l a es) (polish_skip.f (k + 1) l a es)) ∧ (∀ l a n i e es, LeO (polish_skip.l k l a n i e es) (polish_skip.l (k + 1) l a n i e es))
  | 0 => ⟨fun _ _ _ r h => by simp [polish_skip.f] at h, fun _ _ _ _ _ _ r h => by simp [polish_skip.l] at h⟩
  | k + 1 => by
    obtain ⟨ih0, ih1⟩ := polish_skip.mono_l k
    refine ⟨fun l a es => ?_, fun l a n i e es => ?_⟩
    · unfold polish_skip.f
      exact LeO.ite (LeO.ite (LeO.ite (LeO.refl _) (LeO.ite (LeO.refl _) (ih1 _ _ _ _ _ _))) (LeO.refl _)) (LeO.none _)
    · unfold polish_skip.l
      exact LeO.ite (LeO.bind (ih0 _ _ _) (fun _ => LeO.ite (ih1 _ _ _ _ _ _) (LeO.refl _))) (LeO.refl _)
/-- What stands in memory while the reader goes on. -/
def polish_skip.St (w0 w : World) (gr : Nat) (A : Option Addr) (n c : Nat) (es : List Int) : Prop :=
  ∃ ve, w.heap[gr]? = some (.cells #[.slice A n c, ve] 85 (0, 0)) ∧ Kd.R (Kd.int .i64) 3 w w0.heap.size (fun _ => True) ve es ∧ Below w0.heap.size w0 w
theorem polish_skip.St.drewN {w0 w : World} {gr : Nat} {A : Option Addr} {n c : Nat} {es : List Int} (h : polish_skip.St w0 w gr A n c es) (m : Nat) : polish_skip.St w0 (w.drewN m) gr A n c es := by
  obtain ⟨ve, h1, h2, h3⟩ := h
  exact ⟨ve, h1, Kd.R_drewN h2 m, pw_below_drewN h3 m⟩
def polish_skip.pan (n : Int) : List PanicEntry := [{ v := .iface 26 (.int .i64 n), recovered := false }]
set_option maxHeartbeats 8000000 in
set_option maxRecDepth 100000 in
theorem polish_skip.calls (w0 : World) (A : Option Addr) (c : Nat) (l : List S51) (gr : Nat) (hr : Kd.C k51 w0 A l.length l) (hc : l.length ≤ c) (hG_ : Glob w0) (bg : w0.heap.size ≤ gr) (k : Nat) :
    ∀ (a : Int) (es : List Int) (r : Int × Int × List Int) (w : World) (hv : polish_skip.St w0 w gr A l.length c es) (h : polish_skip.f k l a es = some r),
      Calls Tryd.prog 42 #[.pointer (some ⟨gr, 0, none⟩), .int .i64 a] w fun e w' => (if r.1 = 0 then e = .returned (.int .i64 r.2.1) else e = .panicked (polish_skip.pan r.1)) ∧ polish_skip.St w0 w' gr A l.length c r.2.2 := by
  induction k using Nat.strongRecOn with
  | _ k ih =>
  intro a es r w hv h
  have R0 := Aside0.mk hr
  have L0 := Aside0.mk hc
  have BG := Aside0.mk bg
  have GL := Aside0.mk hG_
  clear hr hc hG_ bg
  cases k with
  | zero => exact absurd h (by simp [polish_skip.f])
  | succ k =>
  simp only [polish_skip.f] at h
  have HS := hv
  obtain ⟨ve, hbk, hre, hb⟩ := hv
  have BK := Aside0.mk hbk
  have RE := Aside0.mk hre
  have HB := Aside0.mk hb
  clear hbk hre hb
  obtain ⟨Ae, ce, rfl⟩ := Kd.R_slice RE.out
  have RW := Aside0.mk (Kd.C_below R0.out HB.out)
  have hcz0 : w.cell? ⟨gr, 0, none⟩ = some (.slice A l.length c) := (blk_cell BK.out 0).trans rfl
  have hcz1 : w.cell? ⟨gr, 1, none⟩ = some (.slice Ae es.length ce) := (blk_cell BK.out 1).trans rfl
  by_cases c1 : 0 ≤ a
  · rw [if_pos c1] at h
    by_cases c2 : a < (l.length : Int)
    · rw [if_pos c2] at h
      have c2' : decide (a ≥ (l.length : Int)) = false := decide_eq_false (by omega)
      obtain ⟨ad, eA, hx0, hx1⟩ := at_T51 RW.out a c1 c2
      subst eA
      have HX0 := Aside0.mk hx0
      have c1' := eq_true c1
      have c2b := eq_true c2
      clear c1 c2
      generalize hop : rd_T51 l a = op at *
      by_cases c3 : op.f0 < 1
      · rw [if_pos c3] at h
        obtain rfl := Option.some.inj h
        go_enter Tryd.func42, Tryd.ntmps42
        go_wp2_with (go_at_call 46; go_must (refine (polish_Parts.calls op.f0 0 13 _ (Glob.below GL.out HB.out) (by unfold polish_Parts.f; rw [if_pos c3])).mono ?_; rintro e w' ⟨rfl, ⟨nd, rfl⟩⟩))
        exact ⟨rfl, rfl, HS.drewN nd⟩
      · rw [if_neg c3] at h
        by_cases c4 : 18 < op.f0
        · rw [if_pos c4] at h
          obtain rfl := Option.some.inj h
          go_enter Tryd.func42, Tryd.ntmps42
          go_wp2_with (go_at_call 46; go_must (refine (polish_Parts.calls op.f0 0 13 _ (Glob.below GL.out HB.out) (by unfold polish_Parts.f; rw [if_neg c3, if_pos c4])).mono ?_; rintro e w' ⟨rfl, ⟨nd, rfl⟩⟩))
          exact ⟨rfl, rfl, HS.drewN nd⟩
        · rw [if_neg c4] at h
          have HP := Aside0.mk (show polish_Parts.f op.f0 = some (polish_Parts.tab.getD op.f0.toNat 0, 0) by unfold polish_Parts.f; rw [if_neg c3, if_neg c4])
          clear c3 c4
          generalize polish_Parts.tab.getD op.f0.toNat 0 = n at *
          have H' := Aside0.mk h
          clear h
          go_enter Tryd.func42, Tryd.ntmps42
          go_wp2_with (go_at_call 46; go_must (refine (polish_Parts.calls op.f0 n 0 _ (Glob.below GL.out HB.out) HP.out).mono ?_; rintro e w' ⟨rfl, ⟨nd, rfl⟩⟩))
          go_loopg [7, 35] k (fun kq v7 v35 w' => ∃ (e i : Int) (es1 : List Int), v7 = .int .i64 e ∧ v35 = .int .i64 i ∧ Aside0 (polish_skip.l kq l a n i e es1 = some r) ∧ Aside0 (kq ≤ k) ∧ Aside0 (polish_skip.St w0 w' gr (some ad) l.length c es1))
          case atStart => exact ⟨_, 0, es, rfl, rfl, H', ⟨Nat.le_refl _⟩, ⟨HS.drewN nd⟩⟩
          case round =>
            clear H' HS HP hx0 hx1 HX0 hop hcz0 hcz1 RW RE BK HB
            obtain ⟨e, i, es1, rfl, rfl, HA, HK, HV⟩ := hrel
            cases gk with
            | zero => exact absurd HA.out (by simp [polish_skip.l])
            | succ k1 =>
              have H := HA.out
              clear HA
              simp only [polish_skip.l] at H
              by_cases d1 : i < n
              · rw [if_pos d1] at H
                have d1' : decide (i < n) = true := decide_eq_true d1
                clear d1
                obtain ⟨r1, A1, H⟩ := Option.bind_eq_some_iff.mp H
                have HA1 := Aside0.mk A1
                clear A1
                by_cases d2 : r1.1 = 0
                · rw [if_pos d2] at H
                  have D2 := Aside0.mk d2
                  clear d2
                  have H' := Aside0.mk H
                  clear H
                  go_wp2_with (go_at_call 42; go_must (refine (ih k1 (by have := HK.out; omega) e es1 r1 _ HV.out HA1.out).mono ?_; rintro e' w2 ⟨he, hv⟩; rw [if_pos D2.out] at he; subst he; have HV2 := Aside0.mk hv; clear hv))
                  go_roundg k1
                  case measure => have := HK.out; omega
                  case rel => exact ⟨_, wrap64 (i + 1), r1.2.2, rfl, rfl, H', ⟨by have := HK.out; omega⟩, HV2⟩
                · rw [if_neg d2] at H
                  have D2 := Aside0.mk d2
                  clear d2
                  obtain rfl := Option.some.inj H
                  clear H
                  go_wp2_with (go_at_call 42; go_must (refine (ih k1 (by have := HK.out; omega) e es1 r1 _ HV.out HA1.out).mono ?_; rintro e' w2 ⟨he, hv⟩; rw [if_neg D2.out] at he; subst he; have HV2 := Aside0.mk hv; clear hv))
                  all_goals first | exact absurd (by assumption) D2.out | exact ⟨rfl, rfl, HV2.out⟩
              · rw [if_neg d1] at H
                have d1' : decide (i < n) = false := decide_eq_false d1
                clear d1
                by_cases d2 : a < (es1.length : Int)
                · rw [if_pos d2] at H
                  obtain rfl := Option.some.inj H
                  clear H
                  obtain ⟨ve, hbk, hre, hb⟩ := HV.out
                  have BK := Aside0.mk hbk
                  have RE := Aside0.mk hre
                  have HB := Aside0.mk hb
                  clear hbk hre hb HV
                  obtain ⟨Ae2, ce2, rfl⟩ := Kd.R_slice RE.out
                  obtain ⟨gs, cp, he5, _, _, cgs, hgs⟩ := Kd.R_form RE.out (by have := of_eq_true c1'; omega)
                  cases he5
                  have HGS := Aside0.mk hgs
                  have N5s : gr ≠ gs := blk_ne BK.out hgs (by decide)
                  obtain ⟨hcs, hfs⟩ := Kd.R_celln (0 : Int) RE.out a (of_eq_true c1') d2
                  have d2' := eq_true d2
                  clear hgs d2
                  have hcz1 : wr.cell? ⟨gr, 1, none⟩ = some (.slice (some ⟨gs, 0, none⟩) es1.length ce2) := (blk_cell BK.out 1).trans rfl
                  go_wp2_with ((with_reducible refine gate_store (t := 3) (p := 47) (v := .tmp 46) rfl ?_); go_must (refine store_event (t := 3) (p := 47) (v := .tmp 46) (w1 := (wr.setCell ⟨gs, a.toNat, none⟩ (.int .i64 e))) ?hg ?ho ?hn ?hr ?_; (case ho => rfl); (case hg => rfl); (case hn => rfl); (case hr => first | (go_simp; done) | (go_simp; rfl)); intro w1 hw1; have HV2 := Aside0.mk (show polish_skip.St w0 w1 gr (some ad) l.length c (es1.set a.toNat e) by rw [hw1]; exact ⟨_, blk_far (p := ⟨gs, a.toNat, none⟩) BK.out N5s _, by exact Kd.R_putn RE.out a e, HB.out.setCell (Kd.R_base RE.out gs rfl) _⟩); clear hw1))
                  go_ret
                  exact ⟨rfl, HV2.out⟩
                · rw [if_neg d2] at H
                  exact absurd H (by simp)
    · rw [if_neg c2] at h
      have c2' : decide (a ≥ (l.length : Int)) = true := decide_eq_true (by omega)
      obtain rfl := Option.some.inj h
      clear c1 c2
      go_enter Tryd.func42, Tryd.ntmps42
      go_wp2
      exact ⟨rfl, rfl, HS⟩
  · rw [if_neg c1] at h
    exact absurd h (by simp)

end Go.Proofs.YtcoaeefmmnohkaaDoor.P
