/- The law StoreOnce: what was added is there once, and nothing else is. -/
import Derived.Test.YtobgkjdchpokgaaKLStoreOnce
import Derived.Test.YtobgkjdchpokgaaK14
namespace Go.Proofs.Ytobgkjdchpokgaa.Q
open Go.RowKit Go.Proofs.YtobgkjdchpokgaaW.PrintWords Go.Proofs.YtobgkjdchpokgaaW.PrintMore Go.Proofs.Ytobgkjdchpokgaa.P
set_option linter.unusedVariables false
theorem once_l0 {ks : List Int} (hl : ks.length ≤ 1000) (hn : ks.Nodup) : ∀ (d i : Nat), i + d = (srt ks).length → Ev (fun k => foretellkeep_StoreOnce.l0 k ks (srt ks) (i : Int)) true := by
  have hr := List.pairwise_iff_getElem.mp (nodup_rise hn)
  have hsl := srt_len ks
  intro d
  induction d with
  | zero =>
    intro i hi
    refine Ev.step (f := fun _ => some true) (fun k => ?_) (Ev.now _)
    rw [foretellkeep_StoreOnce.l0, if_neg (by omega)]
  | succ d ih =>
    intro i hi
    have hil : i < (srt ks).length := by omega
    have hm : (srt ks)[i] ∈ ks := (srt_mem ks _).mp (List.getElem_mem hil)
    have hh := hasx_is ks (srt ks)[i] (by omega)
    rw [decide_eq_true hm] at hh
    refine Ev.step (f := fun k => (foretellkeep_has.f k ks (srt ks)[i]).bind fun t => if t = true then foretellkeep_StoreOnce.l0 k ks (srt ks) ((i + 1 : Nat) : Int) else some false) (fun k => ?_) (Ev.bind hh ?_)
    · rw [foretellkeep_StoreOnce.l0, if_pos (by omega), w64 (n := (i : Int) + 1) (by omega) (by omega)]
      by_cases c : (i : Int) > 0
      · obtain ⟨j, rfl⟩ : ∃ j, i = j + 1 := ⟨i - 1, by omega⟩
        have e : wrap64 (((j + 1 : Nat) : Int) - 1) = (j : Int) := by rw [show ((j + 1 : Nat) : Int) - 1 = (j : Int) by omega]; exact w64 (n := (j : Int)) (by omega) (by omega)
        have hlt := hr j (j + 1) (by omega) hil (by omega)
        rw [if_pos c, e, if_pos (by omega), if_pos (by omega), if_pos (by omega), rd_eq (show j < (srt ks).length by omega), rd_eq hil, if_neg (by omega)]
        rfl
      · rw [if_neg c, if_pos (by omega), rd_eq hil]
        rfl
    · simp only [if_true]
      exact ih (i + 1) (by omega)
theorem StoreOnce : P.foretellkeep_StoreOnce.Pur := by
  intro l0 a1 ⟨hl, hw⟩ ha
  obtain ⟨lo, rn, ks, hs, st⟩ := stocked_is hw
  have hfew := st.few
  have p0 := pk_lo a1 (m := 500) (by decide)
  have p1 := pk_hi a1 (m := 500) (by decide)
  have hk : keyOk (pk a1 500) := ⟨p0, by omega⟩
  have hh := has_is' st.kept.sane hk
  have e : decide (pk a1 500 ∈ allK lo rn) = decide (pk a1 500 ∈ ks) := by rw [decide_eq_decide]; exact st.kept.perm.mem_iff
  rw [e] at hh
  have hj : Ev (fun k => foretellkeep_StoreOnce.j0 k ks (srt ks) (((srt ks).length : Int) != (ks.length : Int))) true := by
    refine Ev.step (fun k => ?_) (once_l0 (by omega) st.kept.nodup (srt ks).length 0 (Nat.zero_add _))
    rw [srt_len, foretellkeep_StoreOnce.j0, if_neg (by simp)]
    rfl
  have h1 : Ev (fun k => foretellkeep_StoreOnce.f k l0 a1) true := by
    refine Ev.bind hs ?_
    simp only [picked_is (m := 500) ha (by decide), Option.bind_some]
    refine Ev.bind hh ?_
    refine Ev.bind st.kept.all ?_
    simp only [if_true]
    refine Ev.bind (hasx_is ks (pk a1 500) (by omega)) ?_
    simp only [bne_self_eq_false, Bool.false_eq_true, if_false]
    exact hj
  obtain ⟨K, h⟩ := h1
  exact ⟨K, h K (Nat.le_refl _)⟩
end Go.Proofs.Ytobgkjdchpokgaa.Q
