/- For every input the law LassoGoes returns true, and leaves its arguments as they were. Conditions: none but the given row's own. -/
import Derived.Test.YtpkigkmkolbiiaaRows
import Derived.WalkKit
import Derived.ProofKit
import Derived.OpenShut
import Derived.ShutString
import Derived.ChangeOld
import Derived.Below
import Derived.SizedLaws
import Derived.Test.YtpkigkmkolbiiaaKLLassoGoes
import Derived.Test.YtpkigkmkolbiiaaKQLassoGoes
import Derived.Test.YtpkigkmkolbiiaaK3
namespace Go.Proofs.Ytpkigkmkolbiiaa.lassoGoes
open Go.ChangeShapes Go.WideShapes Go.ChangeAt Go.RowKit Go.Proofs.YtpkigkmkolbiiaaW.PrintWords Go.Proofs.Ytpkigkmkolbiiaa.P
open Go.ChangeMaps (open_string shut_string)
set_option linter.unusedVariables false
theorem own : ownKnob Try.prog.godebug = none := by kernel_rfl
theorem laidOut : laidOutB Try.prog = true := by kernel_rfl
set_option maxRecDepth 100000 in
theorem lifted (os : Os) (started : os.Started) (H : Type) (enc : TypeId × Value → H) :
    ReturnsInHanded {} Try.checked os 8 .any (Rows.lassoGoesSpec.pre6 enc Try.prog Try.f8 Rows.lassoGoesRow.domain false) (Rows.lassoGoesSpec.post enc Try.prog Try.f8 false true false false) := by
  refine returnsInHanded_of_change_sized (C := Try.checked) own started (by kernel_rfl) Try.func8
    (ChangeSpec.witness6 (enc := enc) (C := Try.checked) false ⟨#[], #[.agg #[.slice none 0 0, .slice none 0 0, .int .i64 0, .int .i64 0]], []⟩ 8 (by kernel_rfl) (by kernel_rfl) (by kernel_rfl) (by kernel_rfl)) ?_
  intro W base args ds gs before hval0 hW hcnd hsz0 _
  have hval : ∀ (j : Nat) t v, Try.f8.params[j]? = some t → args[j]? = some v → Value.okWide Try.prog W .any base t v := hval0
  have hW' := hW
  obtain ⟨p, q, hA0, hV, rfl, hfz, hnd⟩ := hW
  have hA : DataW.TrodAll enc Try.prog W 0 (fun _ => true) true Try.f8.params.toList args.toList ds p := hA0
  rw [Try.params8] at hA hval
  obtain ⟨v0, vs0, d0, ds0, p0, q0, hargs, rfl, rfl, h0, r0⟩ := trodAll_cons hA
  obtain ⟨rfl, rfl, rfl⟩ := trodAll_nil r0
  obtain rfl : args = #[v0] := by cases args; simp_all
  obtain ⟨rfl, rfl⟩ := trodVars_none hV
  obtain ⟨xs0, rfl⟩ := O.okWide_struct Try.underlying25 (hval 0 25 v0 rfl rfl)
  have k0 := h0
  have lt0 : ∀ x ∈ p0, x.block < W.heap.size := by obtain ⟨m, hm⟩ := k0; exact DataW.trod_lt m _ _ _ hm
  obtain ⟨fu0, hf0⟩ := h0
  obtain ⟨x0, hK0, w0⟩ := (show O.Opens Try.prog 25 k25 _ from O.opens_iso (O.opens_struct Try.underlying25 (by kernel_rfl) (by kernel_rfl) (O.opensF_cons (off := 0) (off' := 1) (t := 22) (by kernel_rfl) (by kernel_rfl) (O.opens_slice Try.underlying22 (by kernel_rfl) (O.opens_slice Try.underlying23 (by kernel_rfl) (O.opens_int Try.underlying3))) (O.opensF_cons (off := 1) (off' := 2) (t := 23) (by kernel_rfl) (by kernel_rfl) (O.opens_slice Try.underlying23 (by kernel_rfl) (O.opens_int Try.underlying3)) (O.opensF_cons (off := 2) (off' := 3) (t := 3) (by kernel_rfl) (by kernel_rfl) (O.opens_int Try.underlying3) (O.opensF_one (off := 3) (t := 3) (by kernel_rfl) (O.opens_int Try.underlying3)))))) (fun x : S25 => (x.f0, x.f1, x.f2, x.f3)) (fun a => (⟨a.1, a.2.1, a.2.2.1, a.2.2.2⟩ : S25)) (fun _ => rfl)) hf0
  obtain ⟨A0_0, c0_0, A0_1, c0_1, he0, hc0_0, hr0_0, hc0_1, hr0_1⟩ := k25_open hK0
  obtain rfl := O.agg_inj he0
  clear hA0 hval0 hsz0
  refine (P.foretellkeep_LassoGoes.wlk Q.LassoGoes _ _ x0.f0 _ _ x0.f1 x0.f2 x0.f3 W hr0_0 hc0_0 hr0_1 hc0_1 w0).mono fun e W' ⟨he, bel⟩ => ?_
  subst he
  exact ⟨_, rfl, _, _, _, [], _, [], hW', trodAll_mk1 (shut_bool Try.underlying4 _), (trodAll_cons_mk (Below.trod laidOut (by kernel_rfl) (of_decide_eq_true (by kernel_rfl)) k0 bel lt0) trodAll_mk0), rfl, bel.frame _, fun h => by cases h⟩
theorem over : Rows.lassoGoesRow.holds Try.pinned (OpenSpec.ofChange Rows.lassoGoesSpec) :=
  OpenClaim.holds_of_wide 8 Try.f8 rfl rfl rfl rfl rfl rfl rfl ⟨rfl, rfl, rfl, rfl, rfl⟩ rfl rfl rfl rfl rfl (by kernel_rfl) Try.func8 (by kernel_rfl)
    (of_decide_eq_true (by kernel_rfl)) (by unfold Func.isWrapper; first | (rw [if_pos (by decide +kernel)]; kernel_rfl) | (rw [if_neg (by decide +kernel)]; exact ⟨rfl, rfl⟩))
    (fun os started H enc _ => lifted os started H enc)
theorem proved : Rows.LassoGoesSaid := over
#print axioms proved
end Go.Proofs.Ytpkigkmkolbiiaa.lassoGoes
namespace Go.Proofs.Ytpkigkmkolbiiaa
/-- The row, under a short name, for the claim. -/
theorem lassoGoes_holds : Rows.LassoGoesSaid := lassoGoes.proved
end Go.Proofs.Ytpkigkmkolbiiaa
