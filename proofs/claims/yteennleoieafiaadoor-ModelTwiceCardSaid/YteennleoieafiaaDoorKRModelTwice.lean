/- For every input the law ModelTwice returns true, and leaves its arguments as they were. Conditions: none but the given row's own. -/
import Derived.Test.YteennleoieafiaaDoorRows
import Derived.WalkKit
import Derived.ProofKit
import Derived.OpenShut
import Derived.ShutString
import Derived.ChangeOld
import Derived.Below
import Derived.SizedLaws
import Derived.LaidMore
import Derived.Lib.LaidTab
import Derived.Handed
import Derived.LaidHandle
import Derived.LaidLaws
import Derived.LaidByTextLater
import Derived.SevenTiedAt
import Derived.Test.YteennleoieafiaaDoorCards
import Derived.Test.YteennleoieafiaaDoorTie
import Derived.Test.YteennleoieafiaaDoorKLModelTwice
import Derived.Test.YteennleoieafiaaDoorKQModelTwice
import Derived.Test.YteennleoieafiaaDoorK5
namespace Go.Proofs.YteennleoieafiaaDoor.modelTwice
open Go.ChangeShapes Go.WideShapes Go.ChangeAt Go.RowKit Go.Proofs.YteennleoieafiaaDoorW.PrintWords Go.Proofs.YteennleoieafiaaDoor.P
open Go.ChangeMaps (open_string shut_string)
set_option linter.unusedVariables false
theorem own : ownKnob Tryd.prog.godebug = none := by kernel_rfl
theorem laidOut : laidOutB Tryd.prog = true := by kernel_rfl
/-- The door's own heap meets the condition. -/
theorem door_met (os : Os) (args : Array Value) : laidMetH Tryd.prog Rows.modelTwiceRow.laid ((World.doorLaid Tryd.prog 400 os).forCall (fun _ _ => 0) ⟨#[], args, []⟩).memory :=
  laidMetH_of_parts3 (fuel := 8) (laidMet_of_run' 8 (by kernel_rfl) (by kernel_rfl)) (by kernel_rfl) (by kernel_rfl)
theorem of_laid {W : World} (h : laidMetH Tryd.prog Rows.modelTwiceRow.laid W) : P.Glob W := by
  rw [MakeChecks.laidMetH_plain _ _ _ (by kernel_rfl)] at h
  have hT : Lib.TabIs Tryd.prog W "foretell/polish.parts" .i64 [-1, 0, 0, 2, 2, 2, 2, 2, 2, 2, 1, 0, 0, 0, 1, 2, 2, 1, 1] := Lib.tabIs_of_head (rest := []) (g := 0) (t := 135) (e := 3) (n := 19) (by kernel_rfl) (by kernel_rfl) Tryd.underlying135 Tryd.underlying3 (by kernel_rfl) (by kernel_rfl) h
  have hg : Tryd.prog.globalNamed "foretell/polish.parts" = some 0 := by kernel_rfl
  exact ⟨World.block_lt_of_cell? W _ (hT.cell hg 0 (by decide)), fun i hi => hT.cell hg i hi⟩
set_option maxRecDepth 100000 in
theorem lifted (os : Os) (started : os.Started) (H : Type) (enc : TypeId × Value → H) :
    ReturnsInHanded {} Tryd.checked os 3 .any (fun w args => (Rows.modelTwiceSpec.pre enc Tryd.prog Tryd.f3 [] false w args ∧ laidMetH Tryd.prog Rows.modelTwiceRow.laid w) ∧ sizedMet enc Tryd.prog Tryd.f3 (OpenSpec.ofChange Rows.modelTwiceSpec) false w args) (Rows.modelTwiceSpec.post enc Tryd.prog Tryd.f3 false true false false) := by
  refine returnsInHanded_of_change_and (C := Tryd.checked) (X := fun w _ => laidMetH Tryd.prog Rows.modelTwiceRow.laid w) (fun _ _ _ hh h => h.of_heap hh) own started (by kernel_rfl) Tryd.func3
    (ChangeSpec.witness_shaped (enc := enc) (C := Tryd.checked) (os := os) (X := fun w _ => laidMetH Tryd.prog Rows.modelTwiceRow.laid w) false (World.doorLaid Tryd.prog 400 os) #[.agg #[.int .i64 0, .int .i64 0, .int .i64 0, .int .i64 0, .int .i64 0, .int .i64 0, .slice none 0 0], .int .i64 0] 8 rfl (World.shaped_of_RefB (by kernel_rfl) (by kernel_rfl)) (by kernel_rfl) (by kernel_rfl) (by kernel_rfl) (door_met os _)) ?_
  intro W base args ds gs before hval0 hW hcnd hsz0 hL _
  have hval : ∀ (j : Nat) t v, Tryd.f3.params[j]? = some t → args[j]? = some v → Value.okWide Tryd.prog W .any base t v := hval0
  have hW' := hW
  obtain ⟨p, q, hA0, hV, rfl, hfz, hnd⟩ := hW
  have hA : DataW.TrodAll enc Tryd.prog W 0 (fun _ => true) true Tryd.f3.params.toList args.toList ds p := hA0
  rw [Tryd.params3] at hA hval
  obtain ⟨v0, vs0, d0, ds0, p0, q0, hargs, rfl, rfl, h0, r0⟩ := trodAll_cons hA
  obtain ⟨v1, vs1, d1, ds1, p1, q1, rfl, rfl, rfl, h1, r1⟩ := trodAll_cons r0
  obtain ⟨rfl, rfl, rfl⟩ := trodAll_nil r1
  obtain rfl : args = #[v0, v1] := by cases args; simp_all
  obtain ⟨rfl, rfl⟩ := trodVars_none hV
  obtain ⟨xs0, rfl⟩ := O.okWide_struct Tryd.underlying25 (hval 0 25 v0 rfl rfl)
  have k0 := h0
  have lt0 : ∀ x ∈ p0, x.block < W.heap.size := by obtain ⟨m, hm⟩ := k0; exact DataW.trod_lt m _ _ _ hm
  obtain ⟨fu0, hf0⟩ := h0
  obtain ⟨x0, hK0, w0⟩ := (show O.Opens Tryd.prog 25 k25 _ from O.opens_iso (O.opens_struct Tryd.underlying25 (by kernel_rfl) (by kernel_rfl) (O.opensF_cons (off := 0) (off' := 2) (t := 22) (by kernel_rfl) (by kernel_rfl) (show O.Opens Tryd.prog 22 k22 _ from O.opens_iso (O.opens_array Tryd.underlying22 (by kernel_rfl) (by kernel_rfl) (O.opensF_cons (off := 0) (off' := 1) (t := 3) (by kernel_rfl) (by kernel_rfl) (O.opens_int Tryd.underlying3) (O.opensF_one (off := 1) (t := 3) (by kernel_rfl) (O.opens_int Tryd.underlying3)))) (fun x : S22 => (x.f0, x.f1)) (fun a => (⟨a.1, a.2⟩ : S22)) (fun _ => rfl)) (O.opensF_cons (off := 2) (off' := 4) (t := 22) (by kernel_rfl) (by kernel_rfl) (show O.Opens Tryd.prog 22 k22 _ from O.opens_iso (O.opens_array Tryd.underlying22 (by kernel_rfl) (by kernel_rfl) (O.opensF_cons (off := 0) (off' := 1) (t := 3) (by kernel_rfl) (by kernel_rfl) (O.opens_int Tryd.underlying3) (O.opensF_one (off := 1) (t := 3) (by kernel_rfl) (O.opens_int Tryd.underlying3)))) (fun x : S22 => (x.f0, x.f1)) (fun a => (⟨a.1, a.2⟩ : S22)) (fun _ => rfl)) (O.opensF_cons (off := 4) (off' := 6) (t := 22) (by kernel_rfl) (by kernel_rfl) (show O.Opens Tryd.prog 22 k22 _ from O.opens_iso (O.opens_array Tryd.underlying22 (by kernel_rfl) (by kernel_rfl) (O.opensF_cons (off := 0) (off' := 1) (t := 3) (by kernel_rfl) (by kernel_rfl) (O.opens_int Tryd.underlying3) (O.opensF_one (off := 1) (t := 3) (by kernel_rfl) (O.opens_int Tryd.underlying3)))) (fun x : S22 => (x.f0, x.f1)) (fun a => (⟨a.1, a.2⟩ : S22)) (fun _ => rfl)) (O.opensF_one (off := 6) (t := 23) (by kernel_rfl) (O.opens_slice Tryd.underlying23 (by kernel_rfl) (show O.Opens Tryd.prog 65 k65 _ from O.opens_iso (O.opens_struct Tryd.underlying65 (by kernel_rfl) (by kernel_rfl) (O.opensF_cons (off := 0) (off' := 1) (t := 63) (by kernel_rfl) (by kernel_rfl) (O.opens_slice Tryd.underlying63 (by kernel_rfl) (show O.Opens Tryd.prog 97 k97 _ from O.opens_iso (O.opens_struct Tryd.underlying97 (by kernel_rfl) (by kernel_rfl) (O.opensF_cons (off := 0) (off' := 1) (t := 3) (by kernel_rfl) (by kernel_rfl) (O.opens_int Tryd.underlying3) (O.opensF_one (off := 1) (t := 3) (by kernel_rfl) (O.opens_int Tryd.underlying3)))) (fun x : S97 => (x.f0, x.f1)) (fun a => (⟨a.1, a.2⟩ : S97)) (fun _ => rfl))) (O.opensF_cons (off := 1) (off' := 2) (t := 3) (by kernel_rfl) (by kernel_rfl) (O.opens_int Tryd.underlying3) (O.opensF_cons (off := 2) (off' := 3) (t := 63) (by kernel_rfl) (by kernel_rfl) (O.opens_slice Tryd.underlying63 (by kernel_rfl) (show O.Opens Tryd.prog 97 k97 _ from O.opens_iso (O.opens_struct Tryd.underlying97 (by kernel_rfl) (by kernel_rfl) (O.opensF_cons (off := 0) (off' := 1) (t := 3) (by kernel_rfl) (by kernel_rfl) (O.opens_int Tryd.underlying3) (O.opensF_one (off := 1) (t := 3) (by kernel_rfl) (O.opens_int Tryd.underlying3)))) (fun x : S97 => (x.f0, x.f1)) (fun a => (⟨a.1, a.2⟩ : S97)) (fun _ => rfl))) (O.opensF_one (off := 3) (t := 4) (by kernel_rfl) (O.opens_bool Tryd.underlying4)))))) (fun x : S65 => (x.f0, x.f1, x.f2, x.f3)) (fun a => (⟨a.1, a.2.1, a.2.2.1, a.2.2.2⟩ : S65)) (fun _ => rfl)))))))) (fun x : S25 => (x.f0, x.f1, x.f2, x.f3)) (fun a => (⟨a.1, a.2.1, a.2.2.1, a.2.2.2⟩ : S25)) (fun _ => rfl)) hf0
  obtain ⟨A0_6, c0_6, he0, hc0_6, hr0_6⟩ := k25_open hK0
  obtain rfl := O.agg_inj he0
  obtain ⟨a1, rfl, rfl, rfl, w1⟩ := open_int Tryd.underlying3 (hval 1 3 v1 rfl rfl) h1
  clear hA0 hval0 hsz0
  refine (P.foretellkeep_ModelTwice.wlk Q.ModelTwice x0.f0.f0 x0.f0.f1 x0.f1.f0 x0.f1.f1 x0.f2.f0 x0.f2.f1 _ _ x0.f3 a1 W hr0_6 hc0_6 w0 w1 (of_laid hL)).mono fun e W' ⟨he, bel⟩ => ?_
  subst he
  exact ⟨_, rfl, _, _, _, [], _, [], hW', trodAll_mk1 (shut_bool Tryd.underlying4 _), (trodAll_cons_mk (Below.trod laidOut (by kernel_rfl) (of_decide_eq_true (by kernel_rfl)) k0 bel lt0) (trodAll_cons_mk (shut_int Tryd.underlying3 w1) trodAll_mk0)), rfl, bel.frame _, fun h => by cases h⟩
theorem over : Rows.modelTwiceRow.holds Tryd.pinned (OpenSpec.ofChange Rows.modelTwiceSpec) :=
  OpenClaim.holds_of_wide 3 Tryd.f3 rfl rfl rfl rfl rfl rfl rfl ⟨rfl, rfl, rfl, rfl, rfl⟩ rfl rfl rfl rfl rfl (by kernel_rfl) Tryd.func3 (by kernel_rfl)
    (of_decide_eq_true (by kernel_rfl)) (by unfold Func.isWrapper; first | (rw [if_pos (by decide +kernel)]; kernel_rfl) | (rw [if_neg (by decide +kernel)]; exact ⟨rfl, rfl⟩))
    (fun os started H enc _ => lifted os started H enc)
theorem proved : Rows.ModelTwiceSaid := over
#print axioms proved
end Go.Proofs.YteennleoieafiaaDoor.modelTwice
namespace Go.Proofs.YteennleoieafiaaDoor
/-- The row, under a short name, for the claim. -/
theorem modelTwice_row : Rows.ModelTwiceSaid := modelTwice.proved
set_option maxRecDepth 100000 in
theorem modelTwice_holds : Rows.ModelTwiceCardSaid :=
  Claim7.holds_tied_plain_at .later [] [.data] true (true, "b8fca553d6bfb2ba13257c56cc630a009e6b6d6c281e5a5a7f3d0eb14f0a0fd2") true
    modelTwice_row (fun _ h => by cases h) (by kernel_rfl) (fun _ h => by cases h) modelTwice_row_tie rfl ⟨rfl, rfl⟩ (by kernel_rfl) rfl
    (fun f fn hf hfn => by
      obtain rfl : f = 3 := Option.some.inj ((show Tryd.prog.funcNamed "foretell/foretellkeep.ModelTwice" = some 3 by kernel_rfl).symm.trans hf) |>.symm
      obtain rfl : fn = Tryd.f3 := (Option.some.inj (Tryd.func3.symm.trans hfn)).symm
      exact ⟨by kernel_rfl, fun j t ht => by
        rw [Tryd.params3] at ht
        rcases j with _ | _ | j
        · obtain rfl : 25 = t := by simpa using ht
          exact (show Tryd.prog.wantsStandIn 25 = false by kernel_rfl)
        · obtain rfl : 3 = t := by simpa using ht
          exact (show Tryd.prog.wantsStandIn 3 = false by kernel_rfl)
        · simp at ht⟩)
    (by kernel_rfl)
end Go.Proofs.YteennleoieafiaaDoor
