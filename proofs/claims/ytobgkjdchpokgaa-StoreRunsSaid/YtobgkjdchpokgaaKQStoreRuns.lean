/- The law StoreRuns: each run is shorter than the one before it; what is loose fills no run. -/
import Derived.Test.YtobgkjdchpokgaaKLStoreRuns
import Derived.Test.YtobgkjdchpokgaaK14
namespace Go.Proofs.Ytobgkjdchpokgaa.Q
open Go.RowKit Go.Proofs.YtobgkjdchpokgaaW.PrintWords Go.Proofs.YtobgkjdchpokgaaW.PrintMore Go.Proofs.Ytobgkjdchpokgaa.P
set_option linter.unusedVariables false
theorem runs_l0 {lo : List Int} {rn : List (List Int)} {ks : List Int} (h : Kept lo rn ks) : ∀ (d i : Nat), i + d = rn.length → Ev (fun k => foretellkeep_StoreRuns.l0 k ks true (((lo ++ (rn.take i).flatten).length : Nat) : Int) (i : Int) lo rn) true := by
  obtain ⟨m, hb, hkl⟩ := h.bin
  have hrn := h.sane.runs
  have hf := h.sane.few
  have hdv : ∀ r ∈ rn, 8 ∣ r.length := fun r hr => hb.dvd _ (by rw [List.mem_reverse]; exact List.mem_map_of_mem hr)
  have hdec : (rn.map List.length).Pairwise (fun a b => b < a) := List.pairwise_reverse.mp (hb.rise (by omega))
  intro d
  induction d with
  | zero =>
    intro i hi
    rw [List.take_of_length_le (by omega)]
    have e := h.perm.length_eq
    unfold allK at e
    refine Ev.step (f := fun _ => some true) (fun k => ?_) (Ev.now _)
    rw [foretellkeep_StoreRuns.l0, if_neg (by omega), if_pos rfl, if_pos (by omega)]
    congr 1
    rw [beq_iff_eq]
    omega
  | succ d ih =>
    intro i hi
    have hil : i < rn.length := by omega
    have hm := List.getElem_mem hil
    have hih := ih (i + 1) (by omega)
    have hp := pre_len h.sane (i := i + 1) (by omega)
    rw [take_flat hil, ← List.append_assoc, List.length_append] at hih hp
    have h8 := hdv _ hm
    refine Ev.step (fun k => ?_) hih
    rw [foretellkeep_StoreRuns.l0, if_pos (by omega), if_pos (by omega), rdL hil, if_pos (by omega), w64 (n := ((lo ++ (rn.take i).flatten).length : Int) + (rn[i].length : Int)) (by omega) (by omega), w64 (n := (i : Int) + 1) (by omega) (by omega)]
    by_cases c : (i : Int) > 0
    · obtain ⟨j, rfl⟩ : ∃ j, i = j + 1 := ⟨i - 1, by omega⟩
      have e : wrap64 (((j + 1 : Nat) : Int) - 1) = (j : Int) := by rw [show ((j + 1 : Nat) : Int) - 1 = (j : Int) by omega]; exact w64 (n := (j : Int)) (by omega) (by omega)
      have hlt := List.pairwise_iff_getElem.mp hdec j (j + 1) (by rw [List.length_map]; omega) (by rw [List.length_map]; omega) (by omega)
      rw [List.getElem_map, List.getElem_map] at hlt
      rw [if_pos c, e, if_pos (by omega), if_pos (by omega), rdL (show j < rn.length by omega), if_neg (by omega)]
      rfl
    · rw [if_neg c]
      rfl
theorem StoreRuns : P.foretellkeep_StoreRuns.Pur := by
  intro l0 ⟨hl, hw⟩
  obtain ⟨lo, rn, ks, hs, st⟩ := stocked_is hw
  have h0 := runs_l0 st.kept rn.length 0 (Nat.zero_add _)
  rw [List.take_zero, List.flatten_nil, List.append_nil] at h0
  have h1 : Ev (fun k => foretellkeep_StoreRuns.f k l0) true := Ev.bind hs h0
  obtain ⟨K, h⟩ := h1
  exact ⟨K, h K (Nat.le_refl _)⟩
end Go.Proofs.Ytobgkjdchpokgaa.Q
