-- PACKED by pack.py of this repo: FModelKind FModelRule QType
import Derived.WalkSpells
import Derived.WalkLawsBesides
import Derived.Maps.OwnSet
import Derived.Maps.Views
import Derived.Maps.Keyed
import Derived.ChangeKeys
import Derived.Test.YteennleoieafiaaDoorK2
import Derived.Test.YteennleoieafiaaDoorK8
import Derived.Test.YteennleoieafiaaDoorK3
import Derived.Test.YteennleoieafiaaDoorK5
section
namespace Go.Proofs.YteennleoieafiaaDoor.P
open Go.RowKit Go.Proofs.YteennleoieafiaaDoorW.PrintWords Go.Proofs.YteennleoieafiaaDoorW.PrintLast Go.Proofs.YteennleoieafiaaDoorW.PrintMore Go.Proofs.YteennleoieafiaaDoor.G
attribute [local go_sem] max2_int min2_int max_two min_two max_three min_three max_four min_four   -- for this text's walks alone
set_option linter.unusedVariables false
set_option linter.unusedSimpArgs false

/-! ### model_kind: function 41 -/
def model_kind.f (k : Nat) (l0 : List (S35)) (a1 : Int) (a2 : Bool) : Option (Int) := (expr_Check.f k l0 a1).bind fun bt133 => (if bt133.2 = 0 then (if (bt133.1 != a2) = true then (some 5) else (some bt133.2)) else (some bt133.2))
theorem model_kind.mono : ∀ a0 a1 a2 k, LeO (model_kind.f k a0 a1 a2) (model_kind.f (k + 1) a0 a1 a2) := by
  intro a0 a1 a2 k
  unfold model_kind.f
  repeat' first
      | (with_reducible exact expr_Check.mono _ _ _)
      | (with_reducible exact LeO.refl _)
      | (with_reducible exact LeO.none _)
      | (with_reducible refine LeO.ite ?_ ?_)
      | (with_reducible refine LeO.bind ?_ (fun _ => ?_))
      | exact expr_Check.mono _ _ _
      | exact LeO.none _
      | refine LeO.ite ?_ ?_
      | refine LeO.bind ?_ (fun _ => ?_)
set_option maxHeartbeats 8000000 in
set_option maxRecDepth 100000 in
theorem model_kind.calls (k : Nat) (A0 : Option Addr) (c0 : Nat) (l0 : List (S35)) (a1 : Int) (a2 : Bool) (r : Int) (w : World) (hr0 : Kd.C k35 w A0 l0.length l0) (hc0 : l0.length ≤ c0) (hG_ : Glob w) (h : model_kind.f k l0 a1 a2 = some r) :
    Calls Tryd.prog 41 #[.slice A0 l0.length c0, .int .i64 a1, .bool a2] w fun e w' => e = .returned (.int .i64 r) ∧ Below w.heap.size w w' := by
  have HR0 := Aside0.mk hr0
  have HC0 := Aside0.mk hc0
  clear hr0 hc0
  have HB := Aside0.mk (Below.refl w.heap.size w)
  have H : ((expr_Check.f k l0 a1).bind fun bt133 => (if bt133.2 = 0 then (if (bt133.1 != a2) = true then (some 5) else (some bt133.2)) else (some bt133.2))) = some r := h
  clear h
  replace H := Option.bind_eq_some_iff.mp H
  obtain ⟨⟨t133, t134⟩, A40, H⟩ := H
  replace H : (if t134 = 0 then (if (t133 != a2) = true then (some 5) else (some t134)) else (some t134)) = some r := H
  have A4 := Aside0.mk A40
  clear A40
  by_cases c5 : t134 = 0
  · rw [if_pos c5] at H
    have c5b0 : (t134 == 0) = true := beq_iff_eq.mpr c5
    have c5b1 : (t134 != 0) = false := bne_eq_false_iff_eq.mpr c5
    clear c5
    by_cases c6 : (t133 != a2) = true
    · rw [if_pos c6] at H
      have c6b0 : (t133 != a2) = true := c6
      (try (have c6b1 : decide (t133 = a2) = false := by simpa using c6))
      (try (have c6b2 : (t133 == a2) = false := by simpa using c6))
      (try (have c6b3 : ¬ (t133 = a2) := by simpa using c6))
      clear c6
      obtain rfl := Option.some.inj H
      go_enter Tryd.func41, Tryd.ntmps41
      go_wp2_with (first | ((with_reducible refine gate_callee (f := 42) rfl ?_); refine goesL_ (some 12) rfl rfl Tryd.func42 (by kernel_rfl) rfl #[.slice A0 l0.length c0, .int .i64 a1] rfl (by (try simp only [List.map_toArray, List.map_cons, List.map_nil]); first | done | rfl | (simp only [List.length_drop, List.length_take]; rfl)) ?_; (with_reducible refine (expr_Check.calls k _ _ l0 a1 t133 t134 _ ?side1 ?side2 ?side3 A4.out).mono ?_); (case side1 => repeat (first | exact HR0.out | (with_reducible refine Kd.C_alloc ?_ _) | (with_reducible refine Kd.C_drewN ?_ _) | (with_reducible refine Kd.C_drew ?_))); (case side2 => exact HC0.out); (case side3 => first | exact hG_ | exact Glob.drewN hG_ _ | exact Glob.below hG_ (by repeat (first | (with_reducible first | exact HB.out | apply below_alloc | apply pw_below_drewN | apply below_drew1) | exact HB.out))); rintro e w7 ⟨rfl, hb⟩; refine ⟨_, rfl, ?_⟩; have n0_ := Aside0.mk (below_step (by repeat (first | (with_reducible first | exact HB.out | apply below_alloc | apply pw_below_drewN | apply below_drew1) | exact HB.out)) hb); clear HB; have HB := n0_; clear n0_; (try clear hb); (try clear hb2); (try clear hk); (try clear hi)))
      go_ret
      exact ⟨by first | rfl | (simp [errW_none, errW_some] <;> rfl) | (simp [*, errW_none, errW_some] <;> rfl), by repeat (first | (with_reducible first | exact HB.out | apply below_alloc | apply pw_below_drewN | apply below_drew1) | exact HB.out)⟩
    · rw [if_neg c6] at H
      have c6b0 : (t133 != a2) = false := by simpa using c6
      (try (have c6b1 : decide (t133 = a2) = true := by simpa using c6))
      (try (have c6b2 : (t133 == a2) = true := by simpa using c6))
      clear c6
      obtain rfl := Option.some.inj H
      go_enter Tryd.func41, Tryd.ntmps41
      go_wp2_with (first | ((with_reducible refine gate_callee (f := 42) rfl ?_); refine goesL_ (some 12) rfl rfl Tryd.func42 (by kernel_rfl) rfl #[.slice A0 l0.length c0, .int .i64 a1] rfl (by (try simp only [List.map_toArray, List.map_cons, List.map_nil]); first | done | rfl | (simp only [List.length_drop, List.length_take]; rfl)) ?_; (with_reducible refine (expr_Check.calls k _ _ l0 a1 t133 t134 _ ?side1 ?side2 ?side3 A4.out).mono ?_); (case side1 => repeat (first | exact HR0.out | (with_reducible refine Kd.C_alloc ?_ _) | (with_reducible refine Kd.C_drewN ?_ _) | (with_reducible refine Kd.C_drew ?_))); (case side2 => exact HC0.out); (case side3 => first | exact hG_ | exact Glob.drewN hG_ _ | exact Glob.below hG_ (by repeat (first | (with_reducible first | exact HB.out | apply below_alloc | apply pw_below_drewN | apply below_drew1) | exact HB.out))); rintro e w8 ⟨rfl, hb⟩; refine ⟨_, rfl, ?_⟩; have n0_ := Aside0.mk (below_step (by repeat (first | (with_reducible first | exact HB.out | apply below_alloc | apply pw_below_drewN | apply below_drew1) | exact HB.out)) hb); clear HB; have HB := n0_; clear n0_; (try clear hb); (try clear hb2); (try clear hk); (try clear hi)))
      go_ret
      exact ⟨by first | rfl | (simp [errW_none, errW_some] <;> rfl) | (simp [*, errW_none, errW_some] <;> rfl), by repeat (first | (with_reducible first | exact HB.out | apply below_alloc | apply pw_below_drewN | apply below_drew1) | exact HB.out)⟩
  · rw [if_neg c5] at H
    have c5b0 : (t134 == 0) = false := beq_eq_false_iff_ne.mpr c5
    have c5b1 : (t134 != 0) = true := bne_iff_ne.mpr c5
    obtain rfl := Option.some.inj H
    go_enter Tryd.func41, Tryd.ntmps41
    go_wp2_with (first | ((with_reducible refine gate_callee (f := 42) rfl ?_); refine goesL_ (some 12) rfl rfl Tryd.func42 (by kernel_rfl) rfl #[.slice A0 l0.length c0, .int .i64 a1] rfl (by (try simp only [List.map_toArray, List.map_cons, List.map_nil]); first | done | rfl | (simp only [List.length_drop, List.length_take]; rfl)) ?_; (with_reducible refine (expr_Check.calls k _ _ l0 a1 t133 t134 _ ?side1 ?side2 ?side3 A4.out).mono ?_); (case side1 => repeat (first | exact HR0.out | (with_reducible refine Kd.C_alloc ?_ _) | (with_reducible refine Kd.C_drewN ?_ _) | (with_reducible refine Kd.C_drew ?_))); (case side2 => exact HC0.out); (case side3 => first | exact hG_ | exact Glob.drewN hG_ _ | exact Glob.below hG_ (by repeat (first | (with_reducible first | exact HB.out | apply below_alloc | apply pw_below_drewN | apply below_drew1) | exact HB.out))); rintro e w9 ⟨rfl, hb⟩; refine ⟨_, rfl, ?_⟩; have n0_ := Aside0.mk (below_step (by repeat (first | (with_reducible first | exact HB.out | apply below_alloc | apply pw_below_drewN | apply below_drew1) | exact HB.out)) hb); clear HB; have HB := n0_; clear n0_; (try clear hb); (try clear hb2); (try clear hk); (try clear hi)))
    go_ret
    exact ⟨by first | rfl | (simp [errW_none, errW_some] <;> rfl) | (simp [*, errW_none, errW_some] <;> rfl), by repeat (first | (with_reducible first | exact HB.out | apply below_alloc | apply pw_below_drewN | apply below_drew1) | exact HB.out)⟩

end Go.Proofs.YteennleoieafiaaDoor.P
end
section
namespace Go.Proofs.YteennleoieafiaaDoor.P
open Go.RowKit Go.Proofs.YteennleoieafiaaDoorW.PrintWords Go.Proofs.YteennleoieafiaaDoorW.PrintLast Go.Proofs.YteennleoieafiaaDoorW.PrintMore Go.Proofs.YteennleoieafiaaDoor.G
attribute [local go_sem] max2_int min2_int max_two min_two max_three min_three max_four min_four   -- for this text's walks alone
set_option linter.unusedVariables false
set_option linter.unusedSimpArgs false

/-! ### model_rule: function 31 -/
--IMPORT FModelVariables
--IMPORT FModelKind
--IMPORT Derived.WalkSpells
--IMPORT Derived.WalkLawsBesides
--IMPORT Derived.Maps.OwnSet
--IMPORT Derived.Maps.Views
--IMPORT Derived.Maps.Keyed
--IMPORT Derived.ChangeKeys
open Go.Maps Go.WideMaps
abbrev model_rule.St := S39
def model_rule.go (k : Nat) (vars : Int) : List model_rule.St → List Int → Option Int
  | [], _ => some 0
  | v :: l, seen =>
    if v.f0 < 0 ∨ v.f0 ≥ vars then some 2
    else if v.f0 ∈ seen then some 7
    else (model_kind.f k v.f1 vars false).bind fun e => if e = 0 then model_rule.go k vars l (seen ++ [v.f0]) else some e
def model_rule.f (k : Nat) (l0_0 : List (S35)) (l0_1 : List (S39)) (a1 : Int) : Option (Int) := if (l0_1.length : Int) > 6 then some 1 else (model_kind.f k l0_0 a1 true).bind fun e => if e = 0 then (if a1 ≤ 1000000 then model_rule.go k a1 l0_1 [] else none) else some e
theorem model_rule.go_mono (k : Nat) (vars : Int) : ∀ l seen, LeO (model_rule.go k vars l seen) (model_rule.go (k + 1) vars l seen)
  | [], _ => LeO.refl _
  | v :: l, seen => by
    unfold model_rule.go
    exact LeO.ite (LeO.refl _) (LeO.ite (LeO.refl _) (LeO.bind (model_kind.mono _ _ _ _) (fun _ => LeO.ite (model_rule.go_mono k vars l _) (LeO.refl _))))
theorem model_rule.mono : ∀ a0 a1 a2 k, LeO (model_rule.f k a0 a1 a2) (model_rule.f (k + 1) a0 a1 a2) := by
  intro a0 a1 a2 k
  unfold model_rule.f
  exact LeO.ite (LeO.refl _) (LeO.bind (model_kind.mono _ _ _ _) (fun _ => LeO.ite (LeO.ite (model_rule.go_mono _ _ _ _) (LeO.none _)) (LeO.refl _)))
def model_rule.keys (l : List model_rule.St) : List Lit := l.map fun v => .int .i64 v.f0
def model_rule.set (l : List model_rule.St) : DataW Unit := setOf (.agg []) (model_rule.keys l)
theorem model_rule.set_snoc (l : List model_rule.St) (v : model_rule.St) : model_rule.set (l ++ [v]) = (model_rule.set l).put (.int .i64 v.f0) (.agg []) := by
  unfold model_rule.set model_rule.keys
  rw [List.map_append, List.map_singleton, setOf_snoc]
theorem same_int (a b : Int) : (Lit.int .i64 a).sameKey (Lit.int .i64 b) = decide (a = b) := by
  by_cases c : a = b
  · subst c
    simp [Lit.sameKey]
  · rw [sameKey_ne (fun h => c (by injection h)), decide_eq_false c]
theorem model_rule.has_set (l : List model_rule.St) (k : Int) : Maps.has (model_rule.set l) (.int .i64 k) = decide (k ∈ l.map fun v => v.f0) := by
  unfold model_rule.set
  rw [has_setOf _ _ _ (fun x hx => by
    obtain ⟨v, _, rfl⟩ := List.mem_map.1 hx
    trivial)]
  unfold model_rule.keys
  rw [List.any_map, Bool.eq_iff_iff, List.any_eq_true, decide_eq_true_iff, List.mem_map]
  constructor
  · rintro ⟨v, hv, h⟩
    rw [Function.comp_apply, same_int, decide_eq_true_iff] at h
    exact ⟨v, hv, h⟩
  · rintro ⟨v, hv, h⟩
    exact ⟨v, hv, by rw [Function.comp_apply, same_int, decide_eq_true_iff]; exact h⟩
def model_rule.At (w0 w : World) (gm q : Nat) (l : List model_rule.St) : Prop := w.ownsMap Tryd.prog 3 unitElem gm q (model_rule.set l) ∧ Below w0.heap.size w0 w ∧ w0.heap.size ≤ gm ∧ gm < w.heap.size ∧ True
theorem model_rule.law : Keyed Tryd.prog 3 := int_keyed Tryd.underlying3
theorem key_int {n : Int} (h0 : 0 ≤ n) (h1 : n ≤ 1000000) : keyOf Tryd.prog 3 (.int .i64 n) = some (.int .i64 n) := by
  refine keyOf_int_mk Tryd.underlying3 ?_
  simp only [Lit.wf, IntKind.min, IntKind.max, IntKind.signed, IntKind.bits, Bool.and_eq_true, decide_eq_true_eq, if_true]
  omega
theorem cell_of_below {w w' : World} (h : Below w.heap.size w w') {a : Addr} {v : Value} (hc : w.cell? a = some v) : w'.cell? a = some v := by
  rw [h.cell (World.block_lt_of_cell? w a hc)]
  exact hc
set_option maxHeartbeats 8000000 in
set_option maxRecDepth 100000 in
theorem model_rule.calls (k : Nat) (A0_0 : Option Addr) (c0_0 : Nat) (l0_0 : List (S35)) (A0_1 : Option Addr) (c0_1 : Nat) (l0_1 : List (S39)) (a1 : Int) (r : Int) (w : World) (hr0_0 : Kd.C k35 w A0_0 l0_0.length l0_0) (hc0_0 : l0_0.length ≤ c0_0) (hr0_1 : Kd.C k39 w A0_1 l0_1.length l0_1) (hc0_1 : l0_1.length ≤ c0_1) (hG_ : Glob w) (h : model_rule.f k l0_0 l0_1 a1 = some r) :
    Calls Tryd.prog 31 #[.agg #[.slice A0_0 l0_0.length c0_0, .slice A0_1 l0_1.length c0_1], .int .i64 a1] w fun e w' => e = .returned (.int .i64 r) ∧ Below w.heap.size w w' := by
  have R0 := Aside0.mk hr0_0
  have L0 := Aside0.mk hc0_0
  have R1 := Aside0.mk hr0_1
  have L1 := Aside0.mk hc0_1
  have GL := Aside0.mk hG_
  have hu42 := Tryd.underlying42
  have hu39 := Tryd.underlying39
  clear hr0_0 hc0_0 hr0_1 hc0_1 hG_
  unfold model_rule.f at h
  by_cases c0 : (l0_1.length : Int) > 6
  · rw [if_pos c0] at h
    cases h
    have c0' : decide ((l0_1.length : Int) > 6) = true := decide_eq_true c0
    go_enter Tryd.func31, Tryd.ntmps31
    go_wp2_with (first | ((with_reducible refine gate_dst (N := 2) rfl ?_); go_must (refine box_event ?hg (N := 2) ?hd (cs := #[(.slice A0_0 l0_0.length c0_0), (.slice A0_1 l0_1.length c0_1)]) (t := 42) ?hr ?_; (case hd => rfl); (case hg => rfl); (case hr => first | (go_simp; done) | (go_simp; rfl)); intro g2 hg w1 hbox hb; have K2 := Aside0.mk hbox; have B1 := Aside0.mk hb; clear hb hbox hg; have hz0 : w1.cell? ⟨g2, 0, none⟩ = some (.slice A0_0 l0_0.length c0_0) := (blk_cell K2.out 0).trans rfl; have hz1 : w1.cell? ⟨g2, 1, none⟩ = some (.slice A0_1 l0_1.length c0_1) := (blk_cell K2.out 1).trans rfl)))
    go_ret
    exact ⟨rfl, B1.out⟩
  · rw [if_neg c0] at h
    obtain ⟨e1, he, h⟩ := Option.bind_eq_some_iff.mp h
    have HE := Aside0.mk he
    have hn : (l0_1.length : Int) ≤ 6 := by omega
    clear c0 he
    have hmm := @run_makeMap Tryd.prog
    have hz75 : ∀ w : World, (zeroValue 75).run Tryd.prog w = .ok (.agg #[]) w := fun w => by kernel_rfl
    by_cases c1 : e1 = 0
    · rw [if_pos c1] at h
      subst c1
      by_cases c2 : a1 ≤ 1000000
      · rw [if_pos c2] at h
        have HR := Aside0.mk h
        have A1M := Aside0.mk c2
        clear h c2
        go_enter Tryd.func31, Tryd.ntmps31
        go_upto_region 7 with (first | ((with_reducible refine gate_dst (N := 2) rfl ?_); go_must (refine box_event ?hg (N := 2) ?hd (cs := #[(.slice A0_0 l0_0.length c0_0), (.slice A0_1 l0_1.length c0_1)]) (t := 42) ?hr ?_; (case hd => rfl); (case hg => rfl); (case hr => first | (go_simp; done) | (go_simp; rfl)); intro g2 hg w1 hbox hb; have K2 := Aside0.mk hbox; have B1 := Aside0.mk hb; clear hb hbox hg; have hz0 : w1.cell? ⟨g2, 0, none⟩ = some (.slice A0_0 l0_0.length c0_0) := (blk_cell K2.out 0).trans rfl; have hz1 : w1.cell? ⟨g2, 1, none⟩ = some (.slice A0_1 l0_1.length c0_1) := (blk_cell K2.out 1).trans rfl)) | (go_at_call 41; go_must (refine (model_kind.calls k _ _ l0_0 a1 true _ _ (Kd.C_below R0.out B1.out) L0.out (Glob.below GL.out B1.out) HE.out).mono ?_; rintro e w2 ⟨rfl, hb⟩; have K22 := Aside0.mk (blk_below K2.out hb); have B2 := Aside0.mk (below_step B1.out hb); clear hb; have hy0 : w2.cell? ⟨g2, 0, none⟩ = some (.slice A0_0 l0_0.length c0_0) := (blk_cell K22.out 0).trans rfl; have hy1 : w2.cell? ⟨g2, 1, none⟩ = some (.slice A0_1 l0_1.length c0_1) := (blk_cell K22.out 1).trans rfl)))
        have hal1 : ∀ o, (w2.alloc o).cell? ⟨g2, 1, none⟩ = some (.slice A0_1 l0_1.length c0_1) := fun o => cell_of_below (below_alloc (Below.refl _ _) o) hy1
        go_wp2
        clear hal1
        go_loopw [27] (fun v27 wr => ∃ (q : Nat), q ≤ l0_1.length ∧ v27 = .int .i64 q ∧ Aside0 (model_rule.go k a1 (l0_1.drop q) ((l0_1.take q).map fun v => v.f0) = some r) ∧ Aside0 (model_rule.At w wr w2.heap.size q (l0_1.take q))) (fun v27 _ => l0_1.length - (intOf v27).toNat)
        case atStart => exact ⟨0, by omega, rfl, HR, ⟨World.ownsMap_made _ _ _ _, below_alloc B2.out _, B2.out.size, by rw [World.size_alloc]; omega, trivial⟩⟩
        case round =>
          have hgm := Aside0.mk B2.out.size
          generalize w2.heap.size = gm at *
          obtain ⟨q, hq, rfl, HG, HA⟩ := hrel
          clear HR
          by_cases c1 : q < l0_1.length
          · have hdr : l0_1.drop q = l0_1[q] :: l0_1.drop (q + 1) := List.drop_eq_getElem_cons c1
            have htk : l0_1.take (q + 1) = l0_1.take q ++ [l0_1[q]] := List.take_succ_eq_append_getElem c1
            obtain ⟨ad, B, cb, e0, hv0, hv1, hv2, hv3⟩ := at_T39 R1.out (q : Int) (by omega) (by omega)
            subst e0
            have hrd : rd_T39 l0_1 (q : Int) = l0_1[q] := by
              unfold rd_T39
              rw [Int.toNat_natCast, List.getD_eq_getElem?_getD, List.getElem?_eq_getElem c1]
              rfl
            rw [hrd, Int.toNat_natCast] at hv0 hv1
            rw [hrd] at hv2 hv3
            have hx0 := cell_of_below HA.out.2.1 hv0
            have hx1 := cell_of_below HA.out.2.1 hv1
            have CBL := Aside0.mk hv2
            have CB := Aside0.mk hv3
            have hg := HG.out
            rw [hdr] at hg
            clear hrd hdr hv0 hv1 hv2 hv3
            generalize l0_1[q] = v at *
            have HTK := Aside0.mk htk
            clear htk
            simp only [model_rule.go] at hg
            by_cases c2 : v.f0 < 0 ∨ v.f0 ≥ a1
            · rw [if_pos c2] at hg
              cases hg
              have C2 := Aside0.mk c2
              clear c2
              have c2' : v.f0 < 0 ∨ (0 ≤ v.f0 ∧ v.f0 ≥ a1) := by have := C2.out; omega
              rcases c2' with d1 | ⟨d1, d2⟩
              all_goals go_wp2_with (first | ((with_reducible refine gate_dst (N := 8) rfl ?_); go_must (refine box_event ?hg (N := 8) ?hd (cs := #[(.int .i64 0), (.slice none 0 0)]) (t := 39) ?hr ?_; (case hd => rfl); (case hg => rfl); (case hr => first | (go_simp; done) | (go_simp; rfl)); intro g6 hg w3 hbox hb; have K6 := Aside0.mk hbox; have G6 := Aside0.mk (show wr.heap.size ≤ g6 by rw [hg]; exact Nat.le_refl _); have B3 := Aside0.mk hb; clear hb hbox hg; have ha0 : w3.cell? ⟨g6, 0, none⟩ = some (.int .i64 0) := (blk_cell K6.out 0).trans rfl; have fha0 := blk_frozen K6.out 0; have ha1 : w3.cell? ⟨g6, 1, none⟩ = some (.slice none 0 0) := (blk_cell K6.out 1).trans rfl; have fha1 := blk_frozen K6.out 1)) | ((with_reducible refine gate_store (t := 39) (p := 8) rfl ?_); go_must (refine store_event (t := 39) (p := 8) (v := .tmp 30) (w1 := ((w3.setCell ⟨g6, 0, none⟩ (.int .i64 v.f0)).setCell ⟨g6, 1, none⟩ (.slice B v.f1.length cb))) ?hg ?ho ?hn ?hr ?_; (case ho => rfl); (case hg => rfl); (case hn => rfl); (case hr => first | (go_simp; done) | (go_simp; rfl)); intro w4 hw; have K7 := Aside0.mk (show w4.heap[g6]? = some (.cells #[(.int .i64 v.f0), (.slice B v.f1.length cb)] 39 (0, 0)) by rw [hw]; exact blk_put (blk_put K6.out 0 _ rfl) 1 _ rfl); have B4 := Aside0.mk (show Below wr.heap.size wr w4 by rw [hw]; exact (B3.out.setCell G6.out _).setCell G6.out _); clear hw ha0 ha1 fha0 fha1; have hb0 : w4.cell? ⟨g6, 0, none⟩ = some (.int .i64 v.f0) := (blk_cell K7.out 0).trans rfl; have hb1 : w4.cell? ⟨g6, 1, none⟩ = some (.slice B v.f1.length cb) := (blk_cell K7.out 1).trans rfl)))
              all_goals go_ret
              all_goals exact ⟨rfl, HA.out.2.1.trans (B4.out.mono HA.out.2.1.size)⟩
            · rw [if_neg c2] at hg
              have c2a : 0 ≤ v.f0 := by omega
              have c2b : v.f0 < a1 := by omega
              have hkey := key_int c2a (by have := A1M.out; omega)
              clear c2
              have HG2 := Aside0.mk hg
              have HK := Aside0.mk hkey
              clear hg hkey
              go_upto_region 12 with (first | ((with_reducible refine gate_dst (N := 8) rfl ?_); go_must (refine box_event ?hg (N := 8) ?hd (cs := #[(.int .i64 0), (.slice none 0 0)]) (t := 39) ?hr ?_; (case hd => rfl); (case hg => rfl); (case hr => first | (go_simp; done) | (go_simp; rfl)); intro g6 hg w3 hbox hb; have K6 := Aside0.mk hbox; have G6 := Aside0.mk (show wr.heap.size ≤ g6 by rw [hg]; exact Nat.le_refl _); have B3 := Aside0.mk hb; clear hb hbox hg; have ha0 : w3.cell? ⟨g6, 0, none⟩ = some (.int .i64 0) := (blk_cell K6.out 0).trans rfl; have fha0 := blk_frozen K6.out 0; have ha1 : w3.cell? ⟨g6, 1, none⟩ = some (.slice none 0 0) := (blk_cell K6.out 1).trans rfl; have fha1 := blk_frozen K6.out 1)) | ((with_reducible refine gate_store (t := 39) (p := 8) rfl ?_); go_must (refine store_event (t := 39) (p := 8) (v := .tmp 30) (w1 := ((w3.setCell ⟨g6, 0, none⟩ (.int .i64 v.f0)).setCell ⟨g6, 1, none⟩ (.slice B v.f1.length cb))) ?hg ?ho ?hn ?hr ?_; (case ho => rfl); (case hg => rfl); (case hn => rfl); (case hr => first | (go_simp; done) | (go_simp; rfl)); intro w4 hw; have K7 := Aside0.mk (show w4.heap[g6]? = some (.cells #[(.int .i64 v.f0), (.slice B v.f1.length cb)] 39 (0, 0)) by rw [hw]; exact blk_put (blk_put K6.out 0 _ rfl) 1 _ rfl); have B4 := Aside0.mk (show Below wr.heap.size wr w4 by rw [hw]; exact (B3.out.setCell G6.out _).setCell G6.out _); clear hw ha0 ha1 fha0 fha1; have hb0 : w4.cell? ⟨g6, 0, none⟩ = some (.int .i64 v.f0) := (blk_cell K7.out 0).trans rfl; have hb1 : w4.cell? ⟨g6, 1, none⟩ = some (.slice B v.f1.length cb) := (blk_cell K7.out 1).trans rfl)))
              have hown := Aside0.mk (own_of (w' := w4) HA.out.1 (B4.out.block _ HA.out.2.2.2.1))
              have hhas := model_rule.has_set (l0_1.take q) v.f0
              clear hx0 hx1
              have hg := HG2.out
              by_cases c3 : v.f0 ∈ (l0_1.take q).map fun v => v.f0
              · rw [if_pos c3] at hg
                cases hg
                rw [decide_eq_true c3] at hhas
                go_wp2_with (first | (at_lookup; go_must (refine wpList_lookup_own_unit _ rfl (.tmp 41) (.tmp 43) 76 rfl 3 75 model_rule.law Tryd.underlying76 (hz75 _) gm q (model_rule.set (l0_1.take q)) rfl hown.out (.int .i64 v.f0) (.int .i64 v.f0) rfl HK.out ?_)))
                go_ret
                exact ⟨rfl, HA.out.2.1.trans ((below_alloc B4.out _).mono HA.out.2.1.size)⟩
              · rw [if_neg c3] at hg
                rw [decide_eq_false c3] at hhas
                obtain ⟨e2, he2, hg⟩ := Option.bind_eq_some_iff.mp hg
                have HE2 := Aside0.mk he2
                have HG3 := Aside0.mk hg
                clear hg he2 c3 HG2
                have GNE := Aside0.mk (show g6 ≠ gm by have := G6.out; have := HA.out.2.2.2.1; omega)
                have GMB := HA.out.2.2.1
                go_upto_region 16 with (first | (at_lookup; go_must (refine wpList_lookup_own_unit _ rfl (.tmp 41) (.tmp 43) 76 rfl 3 75 model_rule.law Tryd.underlying76 (hz75 _) gm q (model_rule.set (l0_1.take q)) rfl hown.out (.int .i64 v.f0) (.int .i64 v.f0) rfl HK.out ?_)) | ((with_reducible refine gate_dst (N := 9) rfl ?_); go_must (refine box_event ?hg (N := 9) ?hd (cs := #[]) (t := 75) ?hr ?_; (case hd => rfl); (case hg => rfl); (case hr => first | (go_simp; done) | (go_simp; rfl)); intro g7 hg w6 hbox hb; have K9 := Aside0.mk (blk_below K7.out hb); have B6 := Aside0.mk (below_step B4.out hb); have hown6 := Aside0.mk (own_of (w' := w6) HA.out.1 (B6.out.block _ HA.out.2.2.2.1)); clear hb hbox hg; have hd0 : w6.cell? ⟨g6, 0, none⟩ = some (.int .i64 v.f0) := (blk_cell K9.out 0).trans rfl; have hd1 : w6.cell? ⟨g6, 1, none⟩ = some (.slice B v.f1.length cb) := (blk_cell K9.out 1).trans rfl)) | (at_mapUpdate; go_must (refine wpList_mapUpdate_own _ rfl (.tmp 48) (.tmp 50) (.tmp 51) 76 rfl 3 75 model_rule.law Tryd.underlying76 unitElem gm q (model_rule.set (l0_1.take q)) rfl hown6.out (by unfold maxLen; omega) (.int .i64 v.f0) (.agg #[]) (.int .i64 v.f0) rfl rfl HK.out (.agg []) [] unitElem_mk ?_; intro w7 hown7 hgrow7; have O7 := Aside0.mk hown7; have GR7 := Aside0.mk hgrow7; have K10 := Aside0.mk (blk_grown K9.out hgrow7 (fun e => GNE.out (by injection e))); have BW := Aside0.mk (show Below w.heap.size w w7 from (HA.out.2.1.trans (B6.out.mono HA.out.2.1.size)).grown GR7.out (Nat.le_trans HA.out.2.1.size B6.out.size) (fun k hk => by cases hk; exact HA.out.2.2.1)); clear hown7 hgrow7; have he0 : w7.cell? ⟨g6, 0, none⟩ = some (.int .i64 v.f0) := (blk_cell K10.out 0).trans rfl; have he1 : w7.cell? ⟨g6, 1, none⟩ = some (.slice B v.f1.length cb) := (blk_cell K10.out 1).trans rfl)))
                clear hhas
                have hg := HG3.out
                by_cases c4 : e2 = 0
                · rw [if_pos c4] at hg
                  have HG4 := Aside0.mk hg
                  subst c4
                  clear hg
                  go_wp2_with (first | (go_at_call 41; go_must (refine (model_kind.calls k _ _ v.f1 a1 false _ _ (Kd.C_below CB.out BW.out) CBL.out (Glob.below GL.out BW.out) HE2.out).mono ?_; rintro e w8 ⟨rfl, hb⟩; have B8 := Aside0.mk hb; clear hb)))
                  go_roundw
                  case rel => exact ⟨q + 1, by omega, by go_num, ⟨by rw [HTK.out, List.map_append]; exact HG4.out⟩, ⟨by rw [HTK.out, model_rule.set_snoc]; exact own_of O7.out (B8.out.block _ (Nat.lt_of_lt_of_le HA.out.2.2.2.1 (Nat.le_trans B6.out.size GR7.out.size))), BW.out.trans (B8.out.mono BW.out.size), GMB, Nat.lt_of_lt_of_le HA.out.2.2.2.1 (Nat.le_trans B6.out.size (Nat.le_trans GR7.out.size B8.out.size)), trivial⟩⟩
                  case measure => simp [intOf]; omega
                · rw [if_neg c4] at hg
                  have c4' : (e2 != 0) = true := by simpa using c4
                  clear c4
                  cases hg
                  go_wp2_with (first | (go_at_call 41; go_must (refine (model_kind.calls k _ _ v.f1 a1 false _ _ (Kd.C_below CB.out BW.out) CBL.out (Glob.below GL.out BW.out) HE2.out).mono ?_; rintro e w8 ⟨rfl, hb⟩; have B8 := Aside0.mk hb; clear hb)))
                  go_ret
                  exact ⟨rfl, BW.out.trans (B8.out.mono BW.out.size)⟩
          · obtain rfl : q = l0_1.length := by omega
            have hg := HG.out
            rw [List.drop_length] at hg
            simp only [model_rule.go] at hg
            cases hg
            clear c1
            go_wp2
            go_ret
            exact ⟨rfl, HA.out.2.1⟩
      · rw [if_neg c2] at h
        exact absurd h (by simp)
    · rw [if_neg c1] at h
      have c1' : (e1 != 0) = true := by simpa using c1
      clear c1
      cases h
      go_enter Tryd.func31, Tryd.ntmps31
      go_wp2_with (first | ((with_reducible refine gate_dst (N := 2) rfl ?_); go_must (refine box_event ?hg (N := 2) ?hd (cs := #[(.slice A0_0 l0_0.length c0_0), (.slice A0_1 l0_1.length c0_1)]) (t := 42) ?hr ?_; (case hd => rfl); (case hg => rfl); (case hr => first | (go_simp; done) | (go_simp; rfl)); intro g2 hg w1 hbox hb; have K2 := Aside0.mk hbox; have B1 := Aside0.mk hb; clear hb hbox hg; have hz0 : w1.cell? ⟨g2, 0, none⟩ = some (.slice A0_0 l0_0.length c0_0) := (blk_cell K2.out 0).trans rfl; have hz1 : w1.cell? ⟨g2, 1, none⟩ = some (.slice A0_1 l0_1.length c0_1) := (blk_cell K2.out 1).trans rfl)) | (go_at_call 41; go_must (refine (model_kind.calls k _ _ l0_0 a1 true _ _ (Kd.C_below R0.out B1.out) L0.out (Glob.below GL.out B1.out) HE.out).mono ?_; rintro e w2 ⟨rfl, hb⟩; have K22 := Aside0.mk (blk_below K2.out hb); have B2 := Aside0.mk (below_step B1.out hb); clear hb; have hy0 : w2.cell? ⟨g2, 0, none⟩ = some (.slice A0_0 l0_0.length c0_0) := (blk_cell K22.out 0).trans rfl; have hy1 : w2.cell? ⟨g2, 1, none⟩ = some (.slice A0_1 l0_1.length c0_1) := (blk_cell K22.out 1).trans rfl)))
      go_ret
      exact ⟨rfl, B2.out⟩

end Go.Proofs.YteennleoieafiaaDoor.P
end
section
namespace Go.Proofs.YteennleoieafiaaDoor.Q
open Go.RowKit Go.Proofs.YteennleoieafiaaDoorW.PrintWords Go.Proofs.YteennleoieafiaaDoorW.PrintMore Go.Proofs.YteennleoieafiaaDoor.P
set_option linter.unusedVariables false
inductive Ty (vars : Int) : Bool → Tm → Prop
  | num (v : Int) (h0 : -1000 ≤ v) (h1 : v ≤ 1000) : Ty vars false (.leaf ⟨1, v⟩)
  | var (v : Int) (h0 : 0 ≤ v) (h1 : v < vars) : Ty vars false (.leaf ⟨2, v⟩)
  | yes (o : Int) (h : o = 11 ∨ o = 12) : Ty vars true (.leaf ⟨o, 0⟩)
  | arith (o : Int) (a b : Tm) (h : o = 3 ∨ o = 4 ∨ o = 5) (ha : Ty vars false a) (hb : Ty vars false b) : Ty vars false (.bin ⟨o, 0⟩ a b)
  | cmp (o : Int) (a b : Tm) (h : o = 6 ∨ o = 7) (ha : Ty vars false a) (hb : Ty vars false b) : Ty vars true (.bin ⟨o, 0⟩ a b)
  | not (a : Tm) (ha : Ty vars true a) : Ty vars true (.un ⟨10, 0⟩ a)
  | log (o : Int) (a b : Tm) (h : o = 8 ∨ o = 9) (ha : Ty vars true a) (hb : Ty vars true b) : Ty vars true (.bin ⟨o, 0⟩ a b)
theorem NumT.ty {vars : Int} {t : Tm} (h : NumT vars t) : Ty vars false t := by
  induction h with
  | num v h0 h1 => exact .num v (by omega) (by omega)
  | var v h0 h1 => exact .var v h0 h1
  | bin o a b h0 h1 _ _ iha ihb => exact .arith o a b (by omega) iha ihb
theorem TruthT.ty {vars : Int} {t : Tm} (h : TruthT vars t) : Ty vars true t := by
  induction h with
  | yes o h => exact .yes o h
  | cmp o a b h ha hb _ => exact .cmp o a b h ha.ty hb.ty
  | not a _ ih => exact .not a ih
  | log o a b h _ _ iha ihb => exact .log o a b h iha ihb
theorem Ty.ok {vars : Int} {b : Bool} {t : Tm} (h : Ty vars b t) : t.ok := by
  induction h with
  | num v => exact ⟨(by decide : (1 : Int) ≤ 1), (by decide : (1 : Int) ≤ 18), (by decide : polish_Parts.tab.getD (1 : Int).toNat 0 = 0)⟩
  | var v => exact ⟨(by decide : (1 : Int) ≤ 2), (by decide : (2 : Int) ≤ 18), (by decide : polish_Parts.tab.getD (2 : Int).toNat 0 = 0)⟩
  | yes o h => rcases h with rfl | rfl <;> exact ⟨by decide, by decide, by decide⟩
  | arith o a b h _ _ iha ihb => rcases h with rfl | rfl | rfl <;> exact ⟨by decide, by decide, by decide, iha, ihb⟩
  | cmp o a b h _ _ iha ihb => rcases h with rfl | rfl <;> exact ⟨by decide, by decide, by decide, iha, ihb⟩
  | not a _ ih => exact ⟨by decide, by decide, by decide, ih⟩
  | log o a b h _ _ iha ihb => rcases h with rfl | rfl <;> exact ⟨by decide, by decide, by decide, iha, ihb⟩
def opok (vars : Int) (o : Op) : Prop := 1 ≤ o.f0 ∧ o.f0 ≤ 12 ∧ (o.f0 = 1 → -1000 ≤ o.f1 ∧ o.f1 ≤ 1000) ∧ (o.f0 = 2 → 0 ≤ o.f1 ∧ o.f1 < vars) ∧ (o.f0 ≠ 1 → o.f0 ≠ 2 → o.f1 = 0)
theorem opok_of (vars o : Int) (h0 : 3 ≤ o) (h1 : o ≤ 12) : opok vars ⟨o, 0⟩ :=
  ⟨show 1 ≤ o by omega, h1, fun h => absurd (show o = 1 from h) (by omega), fun h => absurd (show o = 2 from h) (by omega), fun _ _ => rfl⟩
theorem Ty.ops {vars : Int} {b : Bool} {t : Tm} (h : Ty vars b t) : ∀ o ∈ t.flat, opok vars o := by
  induction h with
  | num v h0 h1 =>
    intro o ho
    obtain rfl := List.mem_singleton.mp ho
    exact ⟨show (1 : Int) ≤ 1 by decide, show (1 : Int) ≤ 12 by decide, fun _ => ⟨h0, h1⟩, fun h => absurd (show (1 : Int) = 2 from h) (by decide), fun h => absurd rfl h⟩
  | var v h0 h1 =>
    intro o ho
    obtain rfl := List.mem_singleton.mp ho
    exact ⟨show (1 : Int) ≤ 2 by decide, show (2 : Int) ≤ 12 by decide, fun h => absurd (show (2 : Int) = 1 from h) (by decide), fun _ => ⟨h0, h1⟩, fun _ h => absurd rfl h⟩
  | yes o h =>
    intro x hx
    obtain rfl := List.mem_singleton.mp hx
    exact opok_of vars o (by omega) (by omega)
  | arith o a b h _ _ iha ihb =>
    intro x hx
    simp only [Tm.flat, List.mem_cons, List.mem_append] at hx
    rcases hx with rfl | hx | hx
    · exact opok_of vars o (by omega) (by omega)
    · exact iha x hx
    · exact ihb x hx
  | cmp o a b h _ _ iha ihb =>
    intro x hx
    simp only [Tm.flat, List.mem_cons, List.mem_append] at hx
    rcases hx with rfl | hx | hx
    · exact opok_of vars o (by omega) (by omega)
    · exact iha x hx
    · exact ihb x hx
  | not a _ ih =>
    intro x hx
    simp only [Tm.flat, List.mem_cons] at hx
    rcases hx with rfl | hx
    · exact opok_of vars 10 (by decide) (by decide)
    · exact ih x hx
  | log o a b h _ _ iha ihb =>
    intro x hx
    simp only [Tm.flat, List.mem_cons, List.mem_append] at hx
    rcases hx with rfl | hx | hx
    · exact opok_of vars o (by omega) (by omega)
    · exact iha x hx
    · exact ihb x hx
def mk (o : Int) : Bool := decide (6 ≤ o)
def tk (o : Int) : Bool := decide (8 ≤ o)
theorem truth_f (o : Int) (h0 : 1 ≤ o) (h1 : o ≤ 12) : Ev (fun k => expr_truth.f k o) (mk o, tk o, true) := by
  have : o = 1 ∨ o = 2 ∨ o = 3 ∨ o = 4 ∨ o = 5 ∨ o = 6 ∨ o = 7 ∨ o = 8 ∨ o = 9 ∨ o = 10 ∨ o = 11 ∨ o = 12 := by omega
  refine ev_le 2 (fun k hk => ?_) (Ev.now _)
  obtain ⟨m, rfl⟩ : ∃ m, k = m + 2 := ⟨k - 2, by omega⟩
  rcases this with rfl | rfl | rfl | rfl | rfl | rfl | rfl | rfl | rfl | rfl | rfl | rfl <;> rfl
theorem op_f (vars : Int) (hv0 : 0 ≤ vars) (hv1 : vars ≤ 6) (o : Op) (h : opok vars o) : Ev (fun k => expr_op.f k o.f0 o.f1 vars) 0 := by
  obtain ⟨h0, h1, h2, h3, h4⟩ := h
  refine Ev.bind (truth_f o.f0 h0 h1) ?_
  simp only [if_true]
  by_cases c1 : o.f0 = 1
  · rw [if_pos c1]
    have := h2 c1
    rw [if_neg (by omega), if_neg (by omega)]
    exact Ev.now _
  · rw [if_neg c1]
    by_cases c2 : o.f0 = 2
    · rw [if_pos c2]
      have := h3 c2
      rw [if_neg (by omega), w64 (n := vars - 1) (by omega) (by omega), if_neg (by omega)]
      exact Ev.now _
    · rw [if_neg c2]
      have := h4 c1 c2
      rw [if_neg (by omega), if_neg (by omega)]
      exact Ev.now _
theorem check_ops (vars : Int) (hv0 : 0 ≤ vars) (hv1 : vars ≤ 6) (l : List Op) (es : List Int) (hl : l.length ≤ 1000) (h : ∀ o ∈ l, opok vars o) (r : Bool × Int) (hr : Ev (fun k => expr_Check.l1 k l es l (l.length : Int) 0) r) :
    Ev (fun k => expr_Check.l0 k l vars es l (l.length : Int) 0) r := by
  have hgo : ∀ (d i : Nat), i + d = l.length → Ev (fun k => expr_Check.l0 k l vars es l (l.length : Int) (i : Int)) r := by
    intro d
    induction d with
    | zero =>
      intro i hi
      refine Ev.step (f := fun k => expr_Check.l1 k l es l (l.length : Int) 0) (fun k => ?_) hr
      simp only [expr_Check.l0]
      rw [if_neg (by omega)]
    | succ d ih =>
      intro i hi
      have hil : i < l.length := by omega
      have hrd : rd_T35 l (i : Int) = l[i] := by simp [rd_T35, hil]
      refine Ev.step (f := fun k => (expr_op.f k l[i].f0 l[i].f1 vars).bind fun t => if t = 0 then expr_Check.l0 k l vars es l (l.length : Int) ((i + 1 : Nat) : Int) else some (false, t)) (fun k => ?_) ?_
      · simp only [expr_Check.l0, hrd]
        rw [if_pos (by omega), if_pos (by omega), if_pos (by omega), w64 (n := (i : Int) + 1) (by omega) (by omega)]
        rfl
      · refine Ev.bind (op_f vars hv0 hv1 _ (h _ (List.getElem_mem hil))) ?_
        simp only [if_true]
        exact ih (i + 1) (by omega)
  exact hgo l.length 0 (Nat.zero_add _)
theorem rt_of (o : Int) (h0 : 1 ≤ o) (h1 : o ≤ 12) (b : Bool) (hb : mk o = b) {t : Tm} (ht : t.rt.f0 = o) : 1 ≤ t.rt.f0 ∧ t.rt.f0 ≤ 12 ∧ mk t.rt.f0 = b := by
  rw [ht]; exact ⟨h0, h1, hb⟩
theorem Ty.rt {vars : Int} {b : Bool} {t : Tm} (h : Ty vars b t) : 1 ≤ t.rt.f0 ∧ t.rt.f0 ≤ 12 ∧ mk t.rt.f0 = b := by
  cases h with
  | num v => exact rt_of 1 (by decide) (by decide) _ rfl rfl
  | var v => exact rt_of 2 (by decide) (by decide) _ rfl rfl
  | yes o h => exact rt_of o (by omega) (by omega) _ (by rcases h with rfl | rfl <;> rfl) rfl
  | arith o a b h => exact rt_of o (by omega) (by omega) _ (by rcases h with rfl | rfl | rfl <;> rfl) rfl
  | cmp o a b h => exact rt_of o (by omega) (by omega) _ (by rcases h with rfl | rfl <;> rfl) rfl
  | not a => exact rt_of 10 (by decide) (by decide) _ rfl rfl
  | log o a b h => exact rt_of o (by omega) (by omega) _ (by rcases h with rfl | rfl <;> rfl) rfl
section
variable {vars : Int} {l : List Op} {es : List Int} {r : Bool × Int}
theorem l1_at {t : Tm} {p : Int} (h : Lies t p l es) (hl : l.length ≤ 1000) (h0 : 1 ≤ t.rt.f0) (h1 : t.rt.f0 ≤ 12) (hr : Ev (fun k => expr_Check.l2 k l es p (tk t.rt.f0) (p + 1) l (l.length : Int) p) r) :
    Ev (fun k => expr_Check.l1 k l es l (l.length : Int) p) r := by
  obtain ⟨q0, q1, q2⟩ := h.p0
  obtain ⟨e1, e2⟩ := h.rt
  have hs := t.size_pos
  refine Ev.step (f := fun k => (expr_truth.f k t.rt.f0).bind fun bt => expr_Check.l2 k l es p bt.2.1 (p + 1) l (l.length : Int) p) (fun k => ?_) (Ev.bind (truth_f _ h0 h1) hr)
  simp only [expr_Check.l1, e1]
  rw [if_pos (by omega), if_pos (by omega), if_pos (by omega), w64 (n := p + 1) (by omega) (by omega)]
theorem l2_end {p x : Int} {b : Bool} (h0 : 0 ≤ p) (h1 : p < es.length) (h2 : p ≤ 100000) (hx : ¬ x < rd es p) (hr : Ev (fun k => expr_Check.l1 k l es l (l.length : Int) (p + 1)) r) :
    Ev (fun k => expr_Check.l2 k l es p b x l (l.length : Int) p) r := by
  refine Ev.step (f := fun k => expr_Check.l1 k l es l (l.length : Int) (p + 1)) (fun k => ?_) hr
  simp only [expr_Check.l2]
  rw [if_pos (by omega), if_pos (by omega), if_neg hx, w64 (n := p + 1) (by omega) (by omega)]
theorem l2_part {p x : Int} {b : Bool} {a : Tm} (h : Lies a x l es) (h0 : 0 ≤ p) (h1 : p < es.length) (hx : x < rd es p) (ha0 : 1 ≤ a.rt.f0) (ha1 : a.rt.f0 ≤ 12) (hb : mk a.rt.f0 = b)
    (hr : Ev (fun k => expr_Check.l2 k l es p b (x + a.size) l (l.length : Int) p) r) : Ev (fun k => expr_Check.l2 k l es p b x l (l.length : Int) p) r := by
  obtain ⟨q0, q1, q2⟩ := h.p0
  obtain ⟨e1, e2⟩ := h.rt
  have hs := a.size_pos
  refine Ev.step (f := fun k => (expr_truth.f k a.rt.f0).bind fun bt => if (bt.1 != b) = true then some (false, 5) else expr_Check.l2 k l es p b (x + a.size) l (l.length : Int) p) (fun k => ?_) (Ev.bind (truth_f _ ha0 ha1) ?_)
  · simp only [expr_Check.l2, e1, e2]
    rw [if_pos (by omega), if_pos (by omega), if_pos hx, if_pos (by omega), if_pos (by omega)]
    congr 1
    funext bt
    rw [if_pos (show x < (es.length : Int) by omega)]
  · simp only [hb, bne_self_eq_false, Bool.false_eq_true, if_false]
    exact hr
theorem bin_parts {o : Op} {a b : Tm} {p : Int} {ba bb : Bool} (h : Lies (.bin o a b) p l es) (hl : l.length ≤ 1000) (h0 : 1 ≤ o.f0) (h1 : o.f0 ≤ 12) (ha : Ty vars ba a) (hb : Ty vars bb b) (h3 : ba = tk o.f0) (h4 : bb = tk o.f0)
    (hr : Ev (fun k => expr_Check.l1 k l es l (l.length : Int) (p + 1)) r) : Ev (fun k => expr_Check.l1 k l es l (l.length : Int) p) r := by
  obtain ⟨q0, q1, q2⟩ := h.p0
  obtain ⟨e1, e2⟩ := h.rt
  obtain ⟨a0, a1, a2⟩ := ha.rt
  obtain ⟨b0, b1, b2⟩ := hb.rt
  have sa := a.size_pos
  have sb := b.size_pos
  simp only [Tm.size] at q1 q2 e2
  refine l1_at h hl h0 h1 ?_
  refine l2_part h.left q0 (by omega) (by rw [e2]; omega) a0 a1 (a2.trans h3) ?_
  refine l2_part h.right q0 (by omega) (by rw [e2]; omega) b0 b1 (b2.trans h4) ?_
  exact l2_end q0 (by omega) (by omega) (by rw [e2]; omega) hr
theorem check_tm {b : Bool} {t : Tm} (h : Ty vars b t) : ∀ (p : Int), Lies t p l es → l.length ≤ 1000 → Ev (fun k => expr_Check.l1 k l es l (l.length : Int) (p + t.size)) r → Ev (fun k => expr_Check.l1 k l es l (l.length : Int) p) r := by
  have hleaf : ∀ (o : Op) (p : Int), 1 ≤ o.f0 → o.f0 ≤ 12 → Lies (.leaf o) p l es → l.length ≤ 1000 → Ev (fun k => expr_Check.l1 k l es l (l.length : Int) (p + (Tm.leaf o).size)) r → Ev (fun k => expr_Check.l1 k l es l (l.length : Int) p) r := by
    intro o p h0 h1 hp hl hr
    obtain ⟨q0, q1, q2⟩ := hp.p0
    obtain ⟨e1, e2⟩ := hp.rt
    simp only [Tm.size] at q1 q2 e2 hr
    exact l1_at hp hl h0 h1 (l2_end q0 (by omega) (by omega) (by rw [e2]; omega) hr)
  have hbin : ∀ (o : Op) (a b : Tm) (ba : Bool) (p : Int), 1 ≤ o.f0 → o.f0 ≤ 12 → ba = tk o.f0 → Ty vars ba a → Ty vars ba b → (∀ (p : Int), Lies a p l es → l.length ≤ 1000 → Ev (fun k => expr_Check.l1 k l es l (l.length : Int) (p + a.size)) r → Ev (fun k => expr_Check.l1 k l es l (l.length : Int) p) r) →
      (∀ (p : Int), Lies b p l es → l.length ≤ 1000 → Ev (fun k => expr_Check.l1 k l es l (l.length : Int) (p + b.size)) r → Ev (fun k => expr_Check.l1 k l es l (l.length : Int) p) r) → Lies (.bin o a b) p l es → l.length ≤ 1000 → Ev (fun k => expr_Check.l1 k l es l (l.length : Int) (p + (Tm.bin o a b).size)) r → Ev (fun k => expr_Check.l1 k l es l (l.length : Int) p) r := by
    intro o a b ba p h0 h1 h2 ha hb iha ihb hp hl hr
    refine bin_parts hp hl h0 h1 ha hb h2 h2 ?_
    refine iha (p + 1) hp.left hl ?_
    refine ihb (p + 1 + a.size) hp.right hl ?_
    have e : p + 1 + (a.size : Int) + (b.size : Int) = p + ((Tm.bin o a b).size : Int) := by simp only [Tm.size]; omega
    rw [e]
    exact hr
  induction h with
  | num v => exact fun p => hleaf _ p (show (1 : Int) ≤ 1 by decide) (show (1 : Int) ≤ 12 by decide)
  | var v => exact fun p => hleaf _ p (show (1 : Int) ≤ 2 by decide) (show (2 : Int) ≤ 12 by decide)
  | yes o h => exact fun p => hleaf _ p (show 1 ≤ o by omega) (show o ≤ 12 by omega)
  | arith o a b h ha hb iha ihb => exact fun p => hbin _ a b false p (show 1 ≤ o by omega) (show o ≤ 12 by omega) (by rcases h with rfl | rfl | rfl <;> rfl) ha hb iha ihb
  | cmp o a b h ha hb iha ihb => exact fun p => hbin _ a b false p (show 1 ≤ o by omega) (show o ≤ 12 by omega) (by rcases h with rfl | rfl <;> rfl) ha hb iha ihb
  | log o a b h ha hb iha ihb => exact fun p => hbin _ a b true p (show 1 ≤ o by omega) (show o ≤ 12 by omega) (by rcases h with rfl | rfl <;> rfl) ha hb iha ihb
  | not a ha ih =>
    intro p hp hl hr
    obtain ⟨q0, q1, q2⟩ := hp.p0
    obtain ⟨e1, e2⟩ := hp.rt
    obtain ⟨a0, a1, a2⟩ := ha.rt
    have sa := a.size_pos
    simp only [Tm.size] at q1 q2 e2
    refine l1_at hp hl (show (1 : Int) ≤ 10 by decide) (show (10 : Int) ≤ 12 by decide) ?_
    refine l2_part hp.un q0 (by omega) (by rw [e2]; omega) a0 a1 a2 ?_
    refine l2_end q0 (by omega) (by omega) (by rw [e2]; omega) ?_
    refine ih (p + 1) hp.un hl ?_
    have e : p + 1 + (a.size : Int) = p + ((Tm.un ⟨10, 0⟩ a).size : Int) := by simp only [Tm.size]; omega
    rw [e]
    exact hr
end
theorem check_from {vars : Int} (hv0 : 0 ≤ vars) (hv1 : vars ≤ 6) {t : Tm} (hk : t.ok) (ho : ∀ o ∈ t.flat, opok vars o) (hs : t.size ≤ 60) {r : Bool × Int} (hr : Ev (fun k => expr_Check.l1 k t.flat (t.ends 0) t.flat (t.flat.length : Int) 0) r) :
    Ev (fun k => expr_Check.f k t.flat vars) r := by
  unfold expr_Check.f
  simp only [if_neg (show ¬ vars < 0 by omega), decide_eq_false (show ¬ vars > 6 by omega)]
  refine Ev.step (f := fun k => (polish_Ends.f k t.flat).bind fun bt => if bt.2 = 0 then expr_Check.l0 k t.flat vars bt.1 t.flat (t.flat.length : Int) 0 else some (false, bt.2)) (fun k => ?_) (Ev.bind (ends_ok t hk hs) ?_)
  · simp only [expr_Check.j0, Bool.false_eq_true, if_false]
  · simp only [if_true]
    exact check_ops vars hv0 hv1 t.flat _ (by rw [t.flat_len]; omega) ho r hr
theorem check_good {vars : Int} (hv0 : 0 ≤ vars) (hv1 : vars ≤ 6) {b : Bool} {t : Tm} (h : Ty vars b t) (hs : t.size ≤ 60) : Ev (fun k => expr_Check.f k t.flat vars) (b, 0) := by
  have hl := t.flat_len
  have hp := t.size_pos
  obtain ⟨a0, a1, a2⟩ := h.rt
  refine check_from hv0 hv1 h.ok h.ops hs ?_
  refine check_tm h 0 (lies_whole t) (by omega) ?_
  refine Ev.step (f := fun k => (expr_truth.f k t.rt.f0).bind fun bt => some (bt.1, 0)) (fun k => ?_) (Ev.bind (truth_f _ a0 a1) ?_)
  · simp only [expr_Check.l1, (lies_whole t).rt.1]
    rw [if_neg (by omega), if_pos (by omega)]
  · simp only [a2]
    exact Ev.now _
end Go.Proofs.YteennleoieafiaaDoor.Q
end
