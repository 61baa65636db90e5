-- a walk, laid out by a program of this repo over the seat's translation
import Derived.Test.YtcoaeefmmnohkaaDoorF0
import Derived.WalkSpells
import Derived.StillTailTactics
import Derived.Deep.QuietTactic
import Derived.BigQuiet
namespace Go.Proofs.YtcoaeefmmnohkaaDoor.P
open Go.RowKit Go.Proofs.YtcoaeefmmnohkaaDoorW.PrintWords Go.Proofs.YtcoaeefmmnohkaaDoorW.PrintLast Go.Proofs.YtcoaeefmmnohkaaDoorW.PrintMore Go.Proofs.YtcoaeefmmnohkaaDoor.G
attribute [local go_sem] max2_int min2_int max_two min_two max_three min_three max_four min_four   -- for this text's walks alone
set_option linter.unusedVariables false
set_option linter.unusedSimpArgs false

/-! ### logic_pair_keeps: function 37 -/
--IMPORT Derived.WalkSpells
--IMPORT Derived.StillTailTactics
--IMPORT Derived.Deep.QuietTactic
--IMPORT Derived.BigQuiet
/-- An op's law: me, later, its first part now and at the next moment, its second part. -/
def klaw (o : Int) (me later a a' y : Bool) : Bool := if o = 14 then me == a' else if o = 17 then me == (a || later) else if o = 18 then me == (a && later) else if o = 15 then me == (y || a && later) else me == (y && (a || later))
def logic_pair_keeps.f (l0_0 : List Bool) (l0_1 : List Bool) (a1 : Int) (a2 : Int) (a3 : Int) : Option (Bool) := if 0 ≤ a2 ∧ a2 + 1 < (l0_0.length : Int) ∧ a2 + 1 < (l0_1.length : Int) ∧ a2 ≤ 1000000 ∧ 14 ≤ a1 ∧ a1 ≤ 18 ∧ (15 ≤ a1 → a1 ≤ 16 → 0 ≤ a3 ∧ a3 < (l0_0.length : Int)) then some (klaw a1 (rdOf false l0_0 a2) (rdOf false l0_1 a2) (rdOf false l0_0 (a2 + 1)) (rdOf false l0_1 (a2 + 1)) (rdOf false l0_0 a3)) else none
set_option maxHeartbeats 8000000 in
set_option maxRecDepth 100000 in
theorem logic_pair_keeps.calls (A0_0 : Option Addr) (c0_0 : Nat) (l0_0 : List Bool) (A0_1 : Option Addr) (c0_1 : Nat) (l0_1 : List Bool) (a1 : Int) (a2 : Int) (a3 : Int) (r : Bool) (w : World) (hr0_0 : Kd.C Kd.bool w A0_0 l0_0.length l0_0) (hc0_0 : l0_0.length ≤ c0_0) (hr0_1 : Kd.C Kd.bool w A0_1 l0_1.length l0_1) (hc0_1 : l0_1.length ≤ c0_1) (h : logic_pair_keeps.f l0_0 l0_1 a1 a2 a3 = some r) :
    Calls Tryd.prog 37 #[.agg #[.slice A0_0 l0_0.length c0_0, .slice A0_1 l0_1.length c0_1], .int .i64 a1, .int .i64 a2, .int .i64 a3] w fun e w' => e = .returned (.bool r) ∧ Below w.heap.size w w' := by
  unfold logic_pair_keeps.f at h
  by_cases c : 0 ≤ a2 ∧ a2 + 1 < (l0_0.length : Int) ∧ a2 + 1 < (l0_1.length : Int) ∧ a2 ≤ 1000000 ∧ 14 ≤ a1 ∧ a1 ≤ 18 ∧ (15 ≤ a1 → a1 ≤ 16 → 0 ≤ a3 ∧ a3 < (l0_0.length : Int))
  · rw [if_pos c] at h
    obtain rfl := Option.some.inj h
    obtain ⟨h0, h1, h2, h3, h4, h5, h6⟩ := c
    have R0 := Aside0.mk hr0_0
    have R1 := Aside0.mk hr0_1
    obtain ⟨ad, rfl, hz0⟩ := Kd.at_bool hr0_0 a2 h0 (by omega)
    obtain ⟨ae, rfl, hz1⟩ := Kd.at_bool hr0_1 a2 h0 (by omega)
    have e1 : wrap64 (a2 + 1) = a2 + 1 := by unfold wrap64; omega
    have e2 : IntKind.i64.wrap (a2 + 1) = a2 + 1 := by rw [i64_w]; exact e1
    have q0 : (0 ≤ a2) = True := eq_true h0
    have q1 : (0 ≤ a2 + 1) = True := eq_true (by omega)
    have q2 : (a2 < (l0_0.length : Int)) = True := eq_true (by omega)
    have q3 : (a2 < (l0_1.length : Int)) = True := eq_true (by omega)
    have q4 : (a2 + 1 < (l0_0.length : Int)) = True := eq_true h1
    have q5 : (a2 + 1 < (l0_1.length : Int)) = True := eq_true h2
    have HB := Aside0.mk (And.intro h0 (And.intro h1 h2))
    have H6 := Aside0.mk h6
    have HK := Aside0.mk (show a1 = 14 ∨ a1 = 15 ∨ a1 = 16 ∨ a1 = 17 ∨ a1 = 18 by omega)
    clear hr0_0 hr0_1 hc0_0 hc0_1 h hz0 hz1 h0 h1 h2 h3 h4 h5 h6
    obtain ⟨me, hme⟩ : ∃ x, rdOf false l0_0 a2 = x := ⟨_, rfl⟩
    obtain ⟨la, hla⟩ : ∃ x, rdOf false l0_1 a2 = x := ⟨_, rfl⟩
    obtain ⟨xa, hxa⟩ : ∃ x, rdOf false l0_0 (a2 + 1) = x := ⟨_, rfl⟩
    obtain ⟨xn, hxn⟩ : ∃ x, rdOf false l0_1 (a2 + 1) = x := ⟨_, rfl⟩
    obtain ⟨xy, hxy⟩ : ∃ x, rdOf false l0_0 a3 = x := ⟨_, rfl⟩
    rw [hme, hla, hxa, hxn, hxy]
    have M := Aside0.mk (And.intro hme (And.intro hla (And.intro hxa (And.intro hxn hxy))))
    clear hme hla hxa hxn hxy
    go_enter Tryd.func37, Tryd.ntmps37
    go_upto_region 1 with ((with_reducible refine gate_dst (N := 4) rfl ?_); go_must (refine box_event ?hg (N := 4) ?hd (cs := #[.slice (some ad) l0_0.length c0_0, .slice (some ae) l0_1.length c0_1]) (t := 77) ?hr ?_; (case hd => rfl); (case hg => rfl); (case hr => first | (go_simp; done) | (go_simp; rfl)); intro g4 hg4 w4 hbox hb; have KB := Aside0.mk hbox; have BB0 := Aside0.mk hb; clear hb hbox hg4))
    have k0 : w4.cell? ⟨g4, 0, none⟩ = some (.slice (some ad) l0_0.length c0_0) := (blk_cell KB.out 0).trans rfl
    have k1 : w4.cell? ⟨g4, 1, none⟩ = some (.slice (some ae) l0_1.length c0_1) := (blk_cell KB.out 1).trans rfl
    obtain ⟨_, ea, x0⟩ := Kd.at_bool (Kd.C_below R0.out BB0.out) a2 HB.out.1 (by have := HB.out; omega)
    cases ea
    obtain ⟨_, ea, x1⟩ := Kd.at_bool (Kd.C_below R1.out BB0.out) a2 HB.out.1 (by have := HB.out; omega)
    cases ea
    obtain ⟨_, ea, x2⟩ := Kd.at_bool (Kd.C_below R0.out BB0.out) (a2 + 1) (by have := HB.out; omega) HB.out.2.1
    cases ea
    obtain ⟨_, ea, x3⟩ := Kd.at_bool (Kd.C_below R1.out BB0.out) (a2 + 1) (by have := HB.out; omega) HB.out.2.2
    cases ea
    rw [M.out.1] at x0
    rw [M.out.2.1] at x1
    rw [M.out.2.2.1] at x2
    rw [M.out.2.2.2.1] at x3
    have X4 : (a1 = 15 ∨ a1 = 16) → w4.cell? (ad.add a3.toNat) = some (.bool xy) := by
      intro h
      have h6 := H6.out (by omega) (by omega)
      obtain ⟨_, ea, x4⟩ := Kd.at_bool (Kd.C_below R0.out BB0.out) a3 h6.1 h6.2
      cases ea
      rw [M.out.2.2.2.2] at x4
      exact x4
    have Q4 : (a1 = 15 ∨ a1 = 16) → (0 ≤ a3) = True ∧ (a3 < (l0_0.length : Int)) = True := fun h => by
      have h6 := H6.out (by omega) (by omega)
      exact ⟨eq_true h6.1, eq_true h6.2⟩
    have HX4 := Aside0.mk X4
    have HQ4 := Aside0.mk Q4
    clear X4 Q4
    have BB1 := Aside0.mk (show ∀ m, Below w.heap.size w (w4.drewN m) from fun m => pw_below_drewN BB0.out m)
    rcases HK.out with rfl | rfl | rfl | rfl | rfl
    · go_quiet (fail)
      go_wp2
      go_ret
      exact ⟨rfl, BB1.out _⟩
    · have x4 := HX4.out (.inl rfl)
      obtain ⟨q6, q7⟩ := HQ4.out (.inl rfl)
      cases xy <;> cases xa
      all_goals go_quiet (fail)
      all_goals go_wp2
      all_goals go_ret
      all_goals exact ⟨by cases me <;> cases la <;> rfl, BB1.out _⟩
    · have x4 := HX4.out (.inr rfl)
      obtain ⟨q6, q7⟩ := HQ4.out (.inr rfl)
      cases xy <;> cases xa
      all_goals go_quiet (fail)
      all_goals go_wp2
      all_goals go_ret
      all_goals exact ⟨by cases me <;> cases la <;> rfl, BB1.out _⟩
    · cases xa
      all_goals go_quiet (fail)
      all_goals go_wp2
      all_goals go_ret
      all_goals exact ⟨by cases me <;> cases la <;> rfl, BB1.out _⟩
    · cases xa
      all_goals go_quiet (fail)
      all_goals go_wp2
      all_goals go_ret
      all_goals exact ⟨by cases me <;> cases la <;> rfl, BB1.out _⟩
  · rw [if_neg c] at h
    exact absurd h (by simp)

end Go.Proofs.YtcoaeefmmnohkaaDoor.P
