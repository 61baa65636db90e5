/- The law StoreGrows: as many runs as the keys' eighths have ones; all keys come back. -/
import Derived.Test.YtobgkjdchpokgaaKLStoreGrows
import Derived.Test.YtobgkjdchpokgaaK13
namespace Go.Proofs.Ytobgkjdchpokgaa.Q
open Go.RowKit Go.Proofs.YtobgkjdchpokgaaW.PrintWords Go.Proofs.YtobgkjdchpokgaaW.PrintMore Go.Proofs.Ytobgkjdchpokgaa.P
set_option linter.unusedVariables false
/-- So many keys that follow each other. -/
def seqI (b : Int) (n : Nat) : List Int := (List.range n).map fun i : Nat => b + (i : Int)
theorem seqI_len (b : Int) (n : Nat) : (seqI b n).length = n := by simp [seqI]
theorem seqI_succ (b : Int) (n : Nat) : seqI b (n + 1) = seqI b n ++ [b + (n : Int)] := by simp [seqI, List.range_succ]
theorem seqI_get (b : Int) {n i : Nat} (h : i < (seqI b n).length) : (seqI b n)[i] = b + (i : Int) := by simp [seqI]
theorem seqI_mem {b x : Int} {n : Nat} (h : x ∈ seqI b n) : b ≤ x ∧ x < b + (n : Int) := by
  unfold seqI at h
  obtain ⟨i, hi, rfl⟩ := List.mem_map.mp h
  have := List.mem_range.mp hi
  omega
theorem seqI_rise (b : Int) (n : Nat) : (seqI b n).Pairwise (· < ·) := by
  refine List.pairwise_iff_getElem.mpr (fun i j hi hj h => ?_)
  rw [seqI_get, seqI_get]
  omega
theorem grow_l1 {b n : Int} {lo : List Int} {rn : List (List Int)} {e : Bool} {u m : Nat} {L : List Nat} (h : Bin u m L) (hu : 0 < u) : ∀ (acc : Nat), acc + L.length ≤ 1000 → m ≤ 1000 → Ev (fun k => foretellkeep_StoreGrows.l1 k b n ((acc + L.length : Nat) : Int) 0 lo rn) e → Ev (fun k => foretellkeep_StoreGrows.l1 k b n (acc : Int) (m : Int) lo rn) e := by
  induction h with
  | nil u => intro acc ha hm he; exact he
  | @even u m L h ih =>
    intro acc ha hm he
    by_cases c : m = 0
    · subst c
      have := h.zero (by omega)
      subst this
      exact he
    · refine Ev.step (fun k => ?_) (ih (by omega) acc ha (by omega) he)
      rw [foretellkeep_StoreGrows.l1, if_pos (by omega), Int.tmod_eq_emod_of_nonneg (by omega), Int.tdiv_eq_ediv_of_nonneg (by omega), w64 (n := (acc : Int) + ((2 * m : Nat) : Int) % 2) (by omega) (by omega), w64 (n := ((2 * m : Nat) : Int) / 2) (by omega) (by omega), show (acc : Int) + ((2 * m : Nat) : Int) % 2 = (acc : Int) by omega, show ((2 * m : Nat) : Int) / 2 = (m : Int) by omega]
  | @odd u m L h ih =>
    intro acc ha hm he
    rw [List.length_cons] at ha he
    refine Ev.step (fun k => ?_) (ih (by omega) (acc + 1) (by omega) (by omega) (by rw [show acc + 1 + L.length = acc + (L.length + 1) by omega]; exact he))
    rw [foretellkeep_StoreGrows.l1, if_pos (by omega), Int.tmod_eq_emod_of_nonneg (by omega), Int.tdiv_eq_ediv_of_nonneg (by omega), w64 (n := (acc : Int) + ((2 * m + 1 : Nat) : Int) % 2) (by omega) (by omega), w64 (n := ((2 * m + 1 : Nat) : Int) / 2) (by omega) (by omega), show (acc : Int) + ((2 * m + 1 : Nat) : Int) % 2 = ((acc + 1 : Nat) : Int) by omega, show ((2 * m + 1 : Nat) : Int) / 2 = (m : Int) by omega]
theorem grow_l0 {a1 : Int} (ha : (Lit.int .i64 a1).wf = true) {n : Nat} (hn : n ≤ 200) : ∀ (d i : Nat) (lo : List Int) (rn : List (List Int)), i + d = n → Kept lo rn (seqI (pk a1 1000) i) → Ev (fun k => foretellkeep_StoreGrows.l0 k a1 (n : Int) (i : Int) lo rn) true := by
  have p0 := pk_lo a1 (m := 1000) (by decide)
  have p1 := pk_hi a1 (m := 1000) (by decide)
  intro d
  induction d with
  | zero =>
    intro i lo rn hi hk
    obtain rfl : i = n := by omega
    obtain ⟨m, hb, hkl⟩ := hk.bin
    rw [seqI_len] at hkl
    have hf := hk.sane.few
    have es : srt (seqI (pk a1 1000) i) = seqI (pk a1 1000) i := srt_rise (seqI_rise _ _)
    have hall := hk.all
    rw [es] at hall
    have hrl : ((rn.map List.length).reverse).length = rn.length := by simp
    have hle : rn.length ≤ 1000 := by
      have h1 := flat_count hk.sane.ne
      have h2 := hk.perm.length_eq
      rw [seqI_len] at h2
      unfold allK at h2
      rw [List.length_append] at h2
      omega
    have hfin : Ev (fun k => foretellkeep_StoreGrows.l1 k a1 (i : Int) (rn.length : Int) 0 lo rn) true := by
      refine Ev.step (f := fun k => (store_All.f k lo rn).bind fun bt440 => (if bt440.2 = 0 then (if (rn.length : Int) = (rn.length : Int) then (if (bt440.1.length : Int) = (i : Int) then (if (i : Int) = 0 then (some true) else (if 0 < (bt440.1.length : Int) then ((foretellkeep_picked.f a1 1000).bind fun t445 => (if (rd bt440.1 0) = t445 then (if 0 ≤ (wrap64 ((i : Int) - 1)) then (if (wrap64 ((i : Int) - 1)) < (bt440.1.length : Int) then (some ((rd bt440.1 (wrap64 ((i : Int) - 1))) == (wrap64 ((wrap64 ((rd bt440.1 0) + (i : Int))) - 1)))) else (none)) else (none)) else (some false))) else (none))) else (some false)) else (some false)) else (some false))) (fun k => ?_) (Ev.bind hall ?_)
      · rw [foretellkeep_StoreGrows.l1, if_neg (by omega)]
      · simp only [if_true, seqI_len]
        by_cases c : i = 0
        · simp only [if_pos (show (i : Int) = 0 by omega)]
          exact Ev.now _
        · obtain ⟨j, rfl⟩ : ∃ j, i = j + 1 := ⟨i - 1, by omega⟩
          have r0 : rd (seqI (pk a1 1000) (j + 1)) 0 = pk a1 1000 := by
            have := rd_eq (l := seqI (pk a1 1000) (j + 1)) (i := 0) (by rw [seqI_len]; omega)
            rw [seqI_get] at this
            simpa using this
          have rj : rd (seqI (pk a1 1000) (j + 1)) (j : Int) = pk a1 1000 + (j : Int) := by rw [rd_eq (by rw [seqI_len]; omega), seqI_get]
          have ej : wrap64 (((j + 1 : Nat) : Int) - 1) = (j : Int) := by rw [show ((j + 1 : Nat) : Int) - 1 = (j : Int) by omega]; exact w64 (n := (j : Int)) (by omega) (by omega)
          refine Ev.congr (fun k => ?_) (Ev.now _)
          rw [if_neg (by omega), if_pos (by omega), picked_is (m := 1000) ha (by decide), Option.bind_some, r0, if_pos rfl, ej, if_pos (by omega), if_pos (by omega), rj, w64 (n := pk a1 1000 + ((j + 1 : Nat) : Int)) (by omega) (by omega), w64 (by omega) (by omega)]
          congr 1
          rw [beq_iff_eq]
          omega
    have hl1 := grow_l1 (b := a1) (n := (i : Int)) (lo := lo) (rn := rn) (e := true) hb (by omega) 0 (by omega) (by omega) (by rw [hrl, Nat.zero_add]; exact hfin)
    refine Ev.step (fun k => ?_) hl1
    rw [foretellkeep_StoreGrows.l0, if_neg (by omega), Int.tdiv_eq_ediv_of_nonneg (by omega), w64 (n := (i : Int) / 8) (by omega) (by omega), show (i : Int) / 8 = (m : Int) by omega]
    rfl
  | succ d ih =>
    intro i lo rn hi hk
    have hm : pk a1 1000 + (i : Int) ∉ seqI (pk a1 1000) i := fun h => by have := seqI_mem h; omega
    obtain ⟨lo2, rn2, h1, h2⟩ := add_new hk (n := pk a1 1000 + (i : Int)) ⟨by omega, by omega⟩ hm (by rw [seqI_len]; omega)
    rw [← seqI_succ] at h2
    refine Ev.step (f := fun k => (store_Add.f k lo rn (pk a1 1000 + (i : Int))).bind fun bt431 => (if bt431.2.2.2 = 0 then (if bt431.2.2.1 = true then (foretellkeep_StoreGrows.l0 k a1 (n : Int) ((i + 1 : Nat) : Int) bt431.1 bt431.2.1) else (some false)) else (some false))) (fun k => ?_) (Ev.bind h1 ?_)
    · rw [foretellkeep_StoreGrows.l0, if_pos (by omega), picked_is (m := 1000) ha (by decide), Option.bind_some, w64 (n := pk a1 1000 + (i : Int)) (by omega) (by omega), w64 (n := (i : Int) + 1) (by omega) (by omega)]
      rfl
    · simp only [if_true]
      exact ih (i + 1) lo2 rn2 (by omega) h2
theorem StoreGrows : P.foretellkeep_StoreGrows.Pur := by
  intro a0 a1 h0 h1
  have p0 := pk_lo a0 (m := 200) (by decide)
  have p1 := pk_hi a0 (m := 200) (by decide)
  have e : pk a0 200 = (((pk a0 200).toNat : Nat) : Int) := by omega
  have hg := grow_l0 h1 (n := (pk a0 200).toNat) (by omega) (pk a0 200).toNat 0 [] [] (Nat.zero_add _) kept_nil
  rw [← e] at hg
  have h2 : Ev (fun k => foretellkeep_StoreGrows.f k a0 a1) true := by
    refine Ev.congr (fun k => ?_) hg
    unfold foretellkeep_StoreGrows.f
    rw [picked_is (m := 200) h0 (by decide)]
    rfl
  obtain ⟨K, h⟩ := h2
  exact ⟨K, h K (Nat.le_refl _)⟩
end Go.Proofs.Ytobgkjdchpokgaa.Q
