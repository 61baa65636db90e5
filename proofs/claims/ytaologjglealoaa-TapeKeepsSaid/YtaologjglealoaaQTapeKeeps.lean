/- The plain law of TapeKeeps: what was synced is read behind every crash. -/
import Derived.Test.YtaologjglealoaaLTapeKeeps
import Derived.Test.YtaologjglealoaaQTape
namespace Go.Proofs.Ytaologjglealoaa.Q
open Go.RowKit Go.Proofs.YtaologjglealoaaW.PrintWords Go.Proofs.YtaologjglealoaaW.PrintMore Go.Proofs.Ytaologjglealoaa.P
set_option linter.unusedVariables false
theorem sync_is {b : List Int} {s : Int} (hbl : b.length ≤ 1048576) (h0 : 0 ≤ s) (h1 : s ≤ b.length) : tape_Sync.f b s = some (b, (b.length : Int), 0) := by
  unfold tape_Sync.f
  rw [open_is h0 h1 hbl, Option.bind_some]
  simp
theorem crash_is {b : List Int} {s : Nat} {keep : Nat} (hbl : b.length ≤ 1048576) (h1 : s ≤ b.length) : tape_Crash.f b (s : Int) (keep : Int) = some (b.take (s + min keep (b.length - s)), ((s + min keep (b.length - s) : Nat) : Int), 0) := by
  unfold tape_Crash.f
  rw [open_is (by omega) (by omega) hbl, Option.bind_some]
  simp only [if_true]
  have e : wrap64 ((s : Int) + (mn (keep : Int) (wrap64 ((b.length : Int) - (s : Int))))) = ((s + min keep (b.length - s) : Nat) : Int) := by
    rw [w64 (n := (b.length : Int) - (s : Int)) (by omega) (by omega), mn_eq, w64 (by omega) (by omega)]
    omega
  rw [if_neg (by omega), e, if_pos (by omega), if_pos (by omega), Int.toNat_natCast]
/-- Behind the first records, of what is left of the others. -/
theorem rec_cut (rs ms : List (List Int)) (h1 : oks rs) (h2 : oks ms) (m : Nat) (hm : m ≤ (encs_ ms).length) : ∃ j, j ≤ ms.length ∧ rec ((encs_ (rs ++ ms)).take ((encs_ rs).length + m)) = (rs ++ ms.take j, (encs_ (rs ++ ms.take j)).length) ∧ (encs_ (rs ++ ms.take j)).length ≤ (encs_ rs).length + m ∧ (encs_ (rs ++ ms)).take (encs_ (rs ++ ms.take j)).length = encs_ (rs ++ ms.take j) := by
  obtain ⟨j, hj, hj2, hj3, _⟩ := rec_take ms h2 m hm
  have he : ∀ a b : List (List Int), encs_ (a ++ b) = encs_ a ++ encs_ b := fun a b => by simp [encs_]
  refine ⟨j, hj, ?_, ?_, ?_⟩
  · rw [he, List.take_length_add_append, rec_encs _ _ h1, hj2, he, List.length_append]
  · rw [he, List.length_append]; omega
  · have h3 : rs ++ ms = (rs ++ ms.take j) ++ ms.drop j := by rw [List.append_assoc, List.take_append_drop]
    conv => lhs; rw [h3, he (rs ++ ms.take j) (ms.drop j)]
    rw [List.take_left]
theorem keeps_more (more last : List (List Int)) (rs : List (List Int)) (x3 : List Int) (a2 : Int) (h2 : (Lit.int .i64 a2).wf = true) (hw : ∀ z ∈ more, z.length ≤ maxLen ∧ ∀ y ∈ z, (Lit.int .i64 y).wf = true)
    (hx : x3.length ≤ maxLen ∧ ∀ y ∈ x3, (Lit.int .i64 y).wf = true) (hok : oks rs) (hss : ∀ x ∈ rs, x.length ≤ 12) (hrl : rs.length ≤ 10) (d : Nat) : ∀ (i : Nat), i + d = min 8 more.length →
    Ev (fun k => foretellkeep_TapeKeeps.l0 k more a2 x3 rs true 0 (rs ++ rcds more i) (i : Int) (encs_ (rs ++ rcds more i)) ((encs_ rs).length : Int)) true := by
  have hmx : maxLen = 9223372036854775807 := rfl
  have he : ∀ a b : List (List Int), encs_ (a ++ b) = encs_ a ++ encs_ b := fun a b => by simp [encs_]
  have hs1 := encs_small rs hss
  induction d with
  | zero =>
    intro i hi
    have hs2 := encs_small (rcds more i) (rcds_small more i)
    have hs3 := rcds_len more i
    have hs4 := rcds_ok more i
    have hs5 := rcds_small more i
    have hs6 : i ≤ 8 := by omega
    have hc : Ev (fun k => foretellkeep_TapeKeeps.j1 k more a2 x3 rs true 0 (rs ++ rcds more i) (i : Int) false (encs_ (rs ++ rcds more i)) ((encs_ rs).length : Int)) true := by
      generalize rcds more i = ms at hs2 hs3 hs4 hs5 ⊢
      obtain ⟨keep, hk⟩ := Int.eq_ofNat_of_zero_le (pk_lo a2 (m := 200) (by omega))
      have hk1 := pk_hi a2 (m := 200) (by omega)
      rw [hk] at hk1
      have hall : (encs_ (rs ++ ms)).length = (encs_ rs).length + (encs_ ms).length := by rw [he, List.length_append]
      obtain ⟨j, hj, hj2, hj3, hj4⟩ := rec_cut rs ms hok hs4 (min keep (encs_ ms).length) (by omega)
      have hcr := crash_is (b := encs_ (rs ++ ms)) (s := (encs_ rs).length) (keep := keep) (by omega) (by omega)
      rw [show (encs_ (rs ++ ms)).length - (encs_ rs).length = (encs_ ms).length by omega] at hcr
      have hn : (encs_ rs).length + min keep (encs_ ms).length ≤ (encs_ (rs ++ ms)).length := by omega
      generalize hnn : (encs_ rs).length + min keep (encs_ ms).length = n at *
      have hcl : ((encs_ (rs ++ ms)).take n).length = n := by rw [List.length_take]; omega
      have hcb : bytes ((encs_ (rs ++ ms)).take n) := bytes_take (encs_bytes _) _
      have hgok : oks (rs ++ ms.take j) := fun r hr => by
        rcases List.mem_append.1 hr with h | h
        · exact hok r h
        · exact hs4 r (List.mem_of_mem_take h)
      have hgs : ∀ x ∈ rs ++ ms.take j, x.length ≤ 12 := fun r hr => by
        rcases List.mem_append.1 hr with h | h
        · exact hss r h
        · exact hs5 r (List.mem_of_mem_take h)
      have htk : (rs ++ ms).take (rs ++ ms.take j).length = rs ++ ms.take j := by
        have h3 : rs ++ ms = (rs ++ ms.take j) ++ ms.drop j := by rw [List.append_assoc, List.take_append_drop]
        conv => lhs; rw [h3]
        rw [List.take_left]
      have hg1 : rs.length ≤ (rs ++ ms.take j).length := by rw [List.length_append]; omega
      have hg2 : (rs ++ ms.take j).length ≤ (rs ++ ms).length := by rw [List.length_append, List.length_append, List.length_take]; omega
      have hg3 : (rs ++ ms).length ≤ 18 := by rw [List.length_append]; omega
      have hrt : ((encs_ (rs ++ ms)).take n).take (encs_ (rs ++ ms.take j)).length = encs_ (rs ++ ms.take j) := by
        rw [List.take_take, Nat.min_eq_left (by omega), hj4]
      have hgl := encs_small _ hgs
      have hrecg : rec (encs_ (rs ++ ms.take j)) = (rs ++ ms.take j, (encs_ (rs ++ ms.take j)).length) := by
        have h := rec_encs _ [] hgok
        rw [List.append_nil, rec_none (b := []) (by unfold pf; rw [if_pos (by simp)])] at h
        simpa using h
      have hmin : min (n : Int) ((encs_ (rs ++ ms.take j)).length : Int) = ((encs_ (rs ++ ms.take j)).length : Int) := by omega
      generalize hgg : rs ++ ms.take j = gs at *
      generalize hal : rs ++ ms = al at *
      have hrd := rcd_len x3
      have hro := rcd_ok x3
      have hrec3 := record_is hx.2 hx.1
      generalize rcd x3 = r3 at hrd hro hrec3
      have hlast : Ev (fun k => foretellkeep_TapeKeeps.j2 k x3 gs false (encs_ gs) ((encs_ gs).length : Int)) true := by
        refine Ev.step (fun k => by simp only [foretellkeep_TapeKeeps.j2]; rw [if_neg (by decide)]) ?_
        refine Ev.bind hrec3 (Ev.bind (write_ok (by omega) (by omega) hro (by omega) (by omega)) ?_)
        have hgok2 : oks (gs ++ [r3]) := fun r hr => by
          rcases List.mem_append.1 hr with h | h
          · exact hgok r h
          · rw [List.mem_singleton] at h; subst h; exact ⟨hro, by omega⟩
        have hrec2 : rec (encs_ (gs ++ [r3])) = (gs ++ [r3], (encs_ (gs ++ [r3])).length) := by
          have h := rec_encs _ [] hgok2
          rw [List.append_nil, rec_none (b := []) (by unfold pf; rw [if_pos (by simp)])] at h
          simpa using h
        have hel := enc_len r3
        have hsn := encs_snoc gs r3
        have hsl : (encs_ gs ++ enc r3).length = (encs_ gs).length + (enc r3).length := List.length_append
        refine Ev.bind (read_is (b := encs_ gs ++ enc r3) (s := ((encs_ gs).length : Int)) (bytes_append (encs_bytes _) (enc_bytes _)) (by omega) (by omega) (by omega)) ?_
        simp only [← hsn, hrec2, if_true]
        have hl1 : (gs ++ [r3]).length = gs.length + 1 := by simp
        rw [hl1, w64 (by omega) (by omega), List.take_left' (by simp)]
        simp only [if_pos (show ((gs.length + 1 : Nat) : Int) = (gs.length : Int) + 1 by omega), if_pos (show (0 : Int) ≤ (gs.length : Int) by omega), if_pos (show (gs.length : Int) ≤ ((gs.length + 1 : Nat) : Int) by omega)]
        refine Ev.bind (sameLists_is (by omega) (fun x hx => by have := hgs x hx; omega)) ?_
        simp only [if_true, if_pos (show (gs.length : Int) < ((gs.length + 1 : Nat) : Int) by omega)]
        rw [rd3_eq (by rw [hl1]; omega), List.getElem_append_right (by omega)]
        simp only [Nat.sub_self, List.getElem_cons_zero]
        exact Ev.bind (sameInts_is (by omega)) (Ev.now _)
      refine Ev.step (fun k => by simp only [foretellkeep_TapeKeeps.j1]; rw [if_neg (by decide)]) ?_
      rw [picked_is h2 (by decide), hk]
      refine Ev.bind (Ev.now _) ?_
      rw [hcr]
      refine Ev.bind (Ev.now _) ?_
      refine Ev.bind (repair_is (b := (encs_ al).take n) (s := (n : Int)) hcb (by omega) (by omega) (by omega)) ?_
      simp only [hj2, hrt, hmin]
      refine Ev.bind (read_is (b := encs_ gs) (s := ((encs_ gs).length : Int)) (encs_bytes _) (by omega) (by omega) (by omega)) ?_
      simp only [hrecg, if_true, if_neg (show ¬ ((gs.length : Int) < (rs.length : Int)) by omega), if_neg (show ¬ ((gs.length : Int) > (al.length : Int)) by omega), if_pos (show (0 : Int) ≤ (gs.length : Int) by omega), if_pos (show (gs.length : Int) ≤ (al.length : Int) by omega), Int.toNat_natCast, htk]
      refine Ev.bind (sameLists_is (by omega) (fun x hx => by have := hgs x hx; omega)) ?_
      simp only [Bool.not_true]
      exact hlast
    refine Ev.step (fun k => ?_) hc
    simp only [foretellkeep_TapeKeeps.l0]
    by_cases hc' : (i : Int) < (more.length : Int)
    · rw [if_pos hc', decide_eq_false (by omega)]
    · rw [if_neg hc']
  | succ d ih =>
    intro i hi
    have hil : i < more.length := by omega
    have hs2 := encs_small (rcds more i) (rcds_small more i)
    have hs3 := rcds_len more i
    have hrd := rcd_len more[i]
    obtain ⟨hz1, hz2⟩ := hw more[i] (List.getElem_mem hil)
    have hall : (encs_ (rs ++ rcds more i)).length = (encs_ rs).length + (encs_ (rcds more i)).length := by rw [he, List.length_append]
    have hlen : (rs ++ rcds more i).length ≤ 18 := by rw [List.length_append]; omega
    have hs : rcds more i ++ [rcd more[i]] = rcds more (i + 1) := by
      unfold rcds
      rw [List.take_succ_eq_append_getElem hil, List.map_append]
      rfl
    refine Ev.step (f := fun k => foretellkeep_TapeKeeps.j1 k more a2 x3 rs true 0 (rs ++ rcds more i) (i : Int) true (encs_ (rs ++ rcds more i)) ((encs_ rs).length : Int)) (fun k => ?_) ?_
    · simp only [foretellkeep_TapeKeeps.l0]
      rw [if_pos (by omega), decide_eq_true (by omega)]
    · refine Ev.step (fun k => by simp only [foretellkeep_TapeKeeps.j1, if_true]; rw [if_pos (by omega), if_pos (by omega), rd3_eq hil]) ?_
      refine Ev.bind (record_is hz2 hz1) (Ev.bind (write_ok (by omega) (by omega) (rcd_ok _) (by omega) (by omega)) ?_)
      simp only [if_true, List.nil_append, if_pos (show ([] : List (List Int)).length + (rs ++ rcds more i).length < 5864062014805 by simp only [List.length_nil]; omega)]
      refine Ev.bind (Ev.now _) ?_
      simp only [if_pos (show (rs ++ rcds more i).length < 5864062014805 by omega)]
      rw [w64 (by omega) (by omega), List.append_assoc, hs, ← encs_snoc, List.append_assoc, hs]
      exact ih (i + 1) (by omega)
theorem TapeKeeps : P.foretellkeep_TapeKeeps.Pur := by
  intro l more a2 last hl hm h2 hla
  obtain ⟨hlen, hw⟩ := hl
  have hsm := encs_small (rcds l 10) (rcds_small l 10)
  have hrl := rcds_len l 10
  refine Ev.rounds ?_
  unfold foretellkeep_TapeKeeps.f
  refine Ev.bind (taped_is hw) ?_
  simp only
  rw [sync_is (by omega) (by omega) (by omega)]
  refine Ev.bind (Ev.now _) ?_
  have := keeps_more more [] (rcds l 10) last a2 h2 hm.2 hla (rcds_ok l 10) (rcds_small l 10) (by omega) (min 8 more.length) 0 (by omega)
  simpa [rcds] using this
end Go.Proofs.Ytaologjglealoaa.Q
