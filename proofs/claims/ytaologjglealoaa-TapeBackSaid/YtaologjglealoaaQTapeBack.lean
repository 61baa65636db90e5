/- The plain law of TapeBack: records are read as they were written. -/
import Derived.Test.YtaologjglealoaaLTapeBack
import Derived.Test.YtaologjglealoaaQTape
namespace Go.Proofs.Ytaologjglealoaa.Q
open Go.RowKit Go.Proofs.YtaologjglealoaaW.PrintWords Go.Proofs.YtaologjglealoaaW.PrintMore Go.Proofs.Ytaologjglealoaa.P
set_option linter.unusedVariables false
theorem rec_all (l : List (List Int)) (n : Nat) : rec (encs_ (rcds l n)) = (rcds l n, (encs_ (rcds l n)).length) := by
  have h := rec_encs (rcds l n) [] (rcds_ok l n)
  rw [List.append_nil, rec_none (b := []) (by unfold pf; rw [if_pos (by simp)])] at h
  simpa using h
theorem TapeBack : P.foretellkeep_TapeBack.Pur := by
  intro l hl
  obtain ⟨hlen, hw⟩ := hl
  have hmx : maxLen = 9223372036854775807 := rfl
  have hsm := encs_small (rcds l 10) (rcds_small l 10)
  rw [rcds_len] at hsm
  refine Ev.rounds ?_
  unfold foretellkeep_TapeBack.f
  refine Ev.bind (taped_is hw) (Ev.bind (read_is (b := encs_ (rcds l 10)) (s := 0) (encs_bytes _) (by omega) (by omega) (by omega)) ?_)
  simp only [rec_all, if_true]
  refine Ev.bind (sameLists_is (by rw [rcds_len]; omega) (fun x hx => by have := rcds_small l 10 x hx; omega)) ?_
  simp only [if_true]
  by_cases h0 : (l.length : Int) = 0
  · simp only [if_pos h0]
    exact Ev.now _
  · simp only [if_neg h0]
    refine ev_some (decide_eq_true ?_)
    have h1 : l ≠ [] := fun h => h0 (by rw [h]; rfl)
    obtain ⟨z, zs, rfl⟩ := List.exists_cons_of_ne_nil h1
    have he : encs_ (rcds (z :: zs) 10) = enc (rcd z) ++ encs_ ((zs.take 9).map rcd) := rfl
    rw [he, List.length_append, enc_len]
    omega
end Go.Proofs.Ytaologjglealoaa.Q
