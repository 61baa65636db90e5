/- The plain law of TapeTorn: of a torn tape just the whole records are read. -/
import Derived.Test.YtaologjglealoaaLTapeTorn
import Derived.Test.YtaologjglealoaaQTape
namespace Go.Proofs.Ytaologjglealoaa.Q
open Go.RowKit Go.Proofs.YtaologjglealoaaW.PrintWords Go.Proofs.YtaologjglealoaaW.PrintMore Go.Proofs.Ytaologjglealoaa.P
set_option linter.unusedVariables false
theorem TapeTorn : P.foretellkeep_TapeTorn.Pur := by
  intro l a1 hl h1
  obtain ⟨hlen, hw⟩ := hl
  have hmx : maxLen = 9223372036854775807 := rfl
  have hsm := encs_small (rcds l 10) (rcds_small l 10)
  have hrl := rcds_len l 10
  rw [hrl] at hsm
  have hok := rcds_ok l 10
  have hbb := encs_bytes (rcds l 10)
  have hss := rcds_small l 10
  have ht := taped_is hw
  generalize rcds l 10 = rs at *
  refine Ev.rounds ?_
  unfold foretellkeep_TapeTorn.f
  refine Ev.bind ht ?_
  have hwp : wrap64 (((encs_ rs).length : Int) + 1) = ((encs_ rs).length : Int) + 1 := w64 (by omega) (by omega)
  simp only [hwp]
  rw [picked_is h1 (by omega)]
  refine Ev.bind (Ev.now _) ?_
  obtain ⟨k, hk⟩ := Int.eq_ofNat_of_zero_le (pk_lo a1 (m := ((encs_ rs).length : Int) + 1) (by omega))
  have hk1 := pk_hi a1 (m := ((encs_ rs).length : Int) + 1) (by omega)
  rw [hk] at hk1 ⊢
  obtain ⟨j, hj, hj2, hj3, hj4⟩ := rec_take rs hok k (by omega)
  simp only [if_pos (show (0 : Int) ≤ (k : Int) by omega), if_pos (show (k : Int) ≤ ((encs_ rs).length : Int) by omega), Int.toNat_natCast]
  refine Ev.bind (read_is (bytes_take hbb k) (by rw [List.length_take]; omega) (by omega) (by omega)) ?_
  have hjl : (rs.take j).length = j := by rw [List.length_take]; omega
  simp only [hj2, if_true, hjl, if_pos (show ((encs_ (rs.take j)).length : Int) ≤ (k : Int) by omega), if_pos (show (j : Int) ≤ (rs.length : Int) by omega), if_pos (show (0 : Int) ≤ (j : Int) by omega)]
  refine Ev.bind (sameLists_is (by rw [hjl]; omega) (fun x hx => by have := hss x (List.mem_of_mem_take hx); omega)) ?_
  simp only [if_true]
  refine ev_some ?_
  by_cases hjr : j = rs.length
  · have := hj4.1 hjr
    subst hjr; subst this
    simp
  · have hne : ¬ k = (encs_ rs).length := fun h => hjr (hj4.2 h)
    have e1 : ((j : Int) == (rs.length : Int)) = false := beq_eq_false_iff_ne.mpr (by omega)
    have e2 : ((k : Int) == ((encs_ rs).length : Int)) = false := beq_eq_false_iff_ne.mpr (by omega)
    rw [e1, e2]
    rfl
end Go.Proofs.Ytaologjglealoaa.Q
