/- For every input the law WordLonger returns true, and leaves its arguments as they were. Conditions: none but the given row's own. -/
import Derived.Test.YtcoaeefmmnohkaaDoorRows
import Derived.WalkKit
import Derived.ProofKit
import Derived.OpenShut
import Derived.ShutString
import Derived.ChangeOld
import Derived.Below
import Derived.SizedLaws
import Derived.LaidMore
import Derived.Lib.LaidTab
import Derived.Handed
import Derived.LaidHandle
import Derived.LaidLaws
import Derived.LaidByTextLater
import Derived.SevenTiedAt
import Derived.Test.YtcoaeefmmnohkaaDoorCards
import Derived.Test.YtcoaeefmmnohkaaDoorTie
import Derived.Test.YtcoaeefmmnohkaaDoorMLWordLonger
import Derived.Test.YtcoaeefmmnohkaaDoorMQWordLonger
import Derived.Test.YtcoaeefmmnohkaaDoorM4
namespace Go.Proofs.YtcoaeefmmnohkaaDoor.wordLonger
open Go.ChangeShapes Go.WideShapes Go.ChangeAt Go.RowKit Go.Proofs.YtcoaeefmmnohkaaDoorW.PrintWords Go.Proofs.YtcoaeefmmnohkaaDoor.P
open Go.ChangeMaps (open_string shut_string)
set_option linter.unusedVariables false
theorem own : ownKnob Tryd.prog.godebug = none := by kernel_rfl
theorem laidOut : laidOutB Tryd.prog = true := by kernel_rfl
/-- The door's own heap meets the condition. -/
theorem door_met (os : Os) (args : Array Value) : laidMetH Tryd.prog Rows.wordLongerRow.laid ((World.doorLaid Tryd.prog 400 os).forCall (fun _ _ => 0) ⟨#[], args, []⟩).memory :=
  laidMetH_of_parts3 (fuel := 8) (laidMet_of_run' 8 (by kernel_rfl) (by kernel_rfl)) (by kernel_rfl) (by kernel_rfl)
theorem of_laid {W : World} (h : laidMetH Tryd.prog Rows.wordLongerRow.laid W) : P.Glob W := by
  rw [MakeChecks.laidMetH_plain _ _ _ (by kernel_rfl)] at h
  have hT : Lib.TabIs Tryd.prog W "foretell/polish.parts" .i64 [-1, 0, 0, 2, 2, 2, 2, 2, 2, 2, 1, 0, 0, 0, 1, 2, 2, 1, 1] := Lib.tabIs_of_head (rest := []) (g := 0) (t := 94) (e := 3) (n := 19) (by kernel_rfl) (by kernel_rfl) Tryd.underlying94 Tryd.underlying3 (by kernel_rfl) (by kernel_rfl) h
  have hg : Tryd.prog.globalNamed "foretell/polish.parts" = some 0 := by kernel_rfl
  exact ⟨World.block_lt_of_cell? W _ (hT.cell hg 0 (by decide)), fun i hi => hT.cell hg i hi⟩
set_option maxRecDepth 100000 in
theorem lifted (os : Os) (started : os.Started) (H : Type) (enc : TypeId × Value → H) :
    ReturnsInHanded {} Tryd.checked os 9 .any (fun w args => (Rows.wordLongerSpec.pre enc Tryd.prog Tryd.f9 [] false w args ∧ laidMetH Tryd.prog Rows.wordLongerRow.laid w) ∧ sizedMet enc Tryd.prog Tryd.f9 (OpenSpec.ofChange Rows.wordLongerSpec) false w args) (Rows.wordLongerSpec.post enc Tryd.prog Tryd.f9 false true false false) := by
  refine returnsInHanded_of_change_and (C := Tryd.checked) (X := fun w _ => laidMetH Tryd.prog Rows.wordLongerRow.laid w) (fun _ _ _ hh h => h.of_heap hh) own started (by kernel_rfl) Tryd.func9
    (ChangeSpec.witness_shaped (enc := enc) (C := Tryd.checked) (os := os) (X := fun w _ => laidMetH Tryd.prog Rows.wordLongerRow.laid w) false (World.doorLaid Tryd.prog 400 os) #[.slice none 0 0, .agg #[.slice none 0 0, .slice none 0 0]] 8 rfl (World.shaped_of_RefB (by kernel_rfl) (by kernel_rfl)) (by kernel_rfl) (by kernel_rfl) (by kernel_rfl) (door_met os _)) ?_
  intro W base args ds gs before hval0 hW hcnd hsz0 hL _
  have hval : ∀ (j : Nat) t v, Tryd.f9.params[j]? = some t → args[j]? = some v → Value.okWide Tryd.prog W .any base t v := hval0
  have hW' := hW
  obtain ⟨p, q, hA0, hV, rfl, hfz, hnd⟩ := hW
  have hA : DataW.TrodAll enc Tryd.prog W 0 (fun _ => true) true Tryd.f9.params.toList args.toList ds p := hA0
  rw [Tryd.params9] at hA hval
  obtain ⟨v0, vs0, d0, ds0, p0, q0, hargs, rfl, rfl, h0, r0⟩ := trodAll_cons hA
  obtain ⟨v1, vs1, d1, ds1, p1, q1, rfl, rfl, rfl, h1, r1⟩ := trodAll_cons r0
  obtain ⟨rfl, rfl, rfl⟩ := trodAll_nil r1
  obtain rfl : args = #[v0, v1] := by cases args; simp_all
  obtain ⟨rfl, rfl⟩ := trodVars_none hV
  obtain ⟨aa0, len0, cap0, rfl⟩ := okWide_slice Tryd.underlying22 (hval 0 22 v0 rfl rfl)
  have k0 := h0
  have lt0 : ∀ x ∈ p0, x.block < W.heap.size := by obtain ⟨m, hm⟩ := k0; exact DataW.trod_lt m _ _ _ hm
  obtain ⟨fu0, hf0⟩ := h0
  obtain ⟨x0, hK0, w0⟩ := (O.opens_slice Tryd.underlying22 (by kernel_rfl) (show O.Opens Tryd.prog 79 k79 _ from O.opens_iso (O.opens_struct Tryd.underlying79 (by kernel_rfl) (by kernel_rfl) (O.opensF_cons (off := 0) (off' := 1) (t := 3) (by kernel_rfl) (by kernel_rfl) (O.opens_int Tryd.underlying3) (O.opensF_one (off := 1) (t := 3) (by kernel_rfl) (O.opens_int Tryd.underlying3)))) (fun x : S79 => (x.f0, x.f1)) (fun a => (⟨a.1, a.2⟩ : S79)) (fun _ => rfl))) hf0
  obtain ⟨A0, c0, he0, hc0, hr0⟩ := hK0
  obtain ⟨rfl, rfl, rfl⟩ := O.slice_inj he0
  obtain ⟨xs1, rfl⟩ := O.okWide_struct Tryd.underlying40 (hval 1 40 v1 rfl rfl)
  have k1 := h1
  have lt1 : ∀ x ∈ p1, x.block < W.heap.size := by obtain ⟨m, hm⟩ := k1; exact DataW.trod_lt m _ _ _ hm
  obtain ⟨fu1, hf1⟩ := h1
  obtain ⟨x1, hK1, w1⟩ := (show O.Opens Tryd.prog 40 k40 _ from O.opens_iso (O.opens_struct Tryd.underlying40 (by kernel_rfl) (by kernel_rfl) (O.opensF_cons (off := 0) (off' := 1) (t := 25) (by kernel_rfl) (by kernel_rfl) (O.opens_slice Tryd.underlying25 (by kernel_rfl) (O.opens_int Tryd.underlying3)) (O.opensF_one (off := 1) (t := 25) (by kernel_rfl) (O.opens_slice Tryd.underlying25 (by kernel_rfl) (O.opens_int Tryd.underlying3))))) (fun x : S40 => (x.f0, x.f1)) (fun a => (⟨a.1, a.2⟩ : S40)) (fun _ => rfl)) hf1
  obtain ⟨A1_0, c1_0, A1_1, c1_1, he1, hc1_0, hr1_0, hc1_1, hr1_1⟩ := k40_open hK1
  obtain rfl := O.agg_inj he1
  clear hA0 hval0 hsz0
  refine (P.foretellkeep_WordLonger.wlk Q.WordLonger _ _ x0 _ _ x1.f0 _ _ x1.f1 W hr0 hc0 hr1_0 hc1_0 hr1_1 hc1_1 w0 w1 (of_laid hL)).mono fun e W' ⟨he, bel⟩ => ?_
  subst he
  exact ⟨_, rfl, _, _, _, [], _, [], hW', trodAll_mk1 (shut_bool Tryd.underlying4 _), (trodAll_cons_mk (Below.trod laidOut (by kernel_rfl) (of_decide_eq_true (by kernel_rfl)) k0 bel lt0) (trodAll_cons_mk (Below.trod laidOut (by kernel_rfl) (of_decide_eq_true (by kernel_rfl)) k1 bel lt1) trodAll_mk0)), rfl, bel.frame _, fun h => by cases h⟩
theorem over : Rows.wordLongerRow.holds Tryd.pinned (OpenSpec.ofChange Rows.wordLongerSpec) :=
  OpenClaim.holds_of_wide 9 Tryd.f9 rfl rfl rfl rfl rfl rfl rfl ⟨rfl, rfl, rfl, rfl, rfl⟩ rfl rfl rfl rfl rfl (by kernel_rfl) Tryd.func9 (by kernel_rfl)
    (of_decide_eq_true (by kernel_rfl)) (by unfold Func.isWrapper; first | (rw [if_pos (by decide +kernel)]; kernel_rfl) | (rw [if_neg (by decide +kernel)]; exact ⟨rfl, rfl⟩))
    (fun os started H enc _ => lifted os started H enc)
theorem proved : Rows.WordLongerSaid := over
#print axioms proved
end Go.Proofs.YtcoaeefmmnohkaaDoor.wordLonger
namespace Go.Proofs.YtcoaeefmmnohkaaDoor
/-- The row, under a short name, for the claim. -/
theorem wordLonger_row : Rows.WordLongerSaid := wordLonger.proved
set_option maxRecDepth 100000 in
theorem wordLonger_holds : Rows.WordLongerCardSaid :=
  Claim7.holds_tied_plain_at .later [] [.data] true (true, "2dac120fdf3445cc4857ff0946fd12803a2392dda229b951150a57a239af68cc") true
    wordLonger_row (fun _ h => by cases h) (by kernel_rfl) (fun _ h => by cases h) wordLonger_row_tie rfl ⟨rfl, rfl⟩ (by kernel_rfl) rfl
    (fun f fn hf hfn => by
      obtain rfl : f = 9 := Option.some.inj ((show Tryd.prog.funcNamed "foretell/foretellkeep.WordLonger" = some 9 by kernel_rfl).symm.trans hf) |>.symm
      obtain rfl : fn = Tryd.f9 := (Option.some.inj (Tryd.func9.symm.trans hfn)).symm
      exact ⟨by kernel_rfl, fun j t ht => by
        rw [Tryd.params9] at ht
        rcases j with _ | _ | j
        · obtain rfl : 22 = t := by simpa using ht
          exact (show Tryd.prog.wantsStandIn 22 = false by kernel_rfl)
        · obtain rfl : 40 = t := by simpa using ht
          exact (show Tryd.prog.wantsStandIn 40 = false by kernel_rfl)
        · simp at ht⟩)
    (by kernel_rfl)
end Go.Proofs.YtcoaeefmmnohkaaDoor
