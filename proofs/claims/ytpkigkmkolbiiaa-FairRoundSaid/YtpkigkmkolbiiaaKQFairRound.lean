/- The plain law of FairRound: a ring that meets all is fair; without a way back it is not. -/
import Derived.Test.YtpkigkmkolbiiaaKLFairRound
import Derived.Test.YtpkigkmkolbiiaaK16
namespace Go.Proofs.Ytpkigkmkolbiiaa.Q
open Go.RowKit Go.Proofs.YtpkigkmkolbiiaaW.PrintWords Go.Proofs.YtpkigkmkolbiiaaW.PrintMore Go.Proofs.Ytpkigkmkolbiiaa.P
set_option linter.unusedVariables false
namespace Ring
def sv (K m i : Nat) : Int := if K < m ∧ i + 1 = K then ((2 ^ m - 1 : Nat) : Int) else if i < m then ((2 ^ i : Nat) : Int) else 0
def sps (i : Nat) : List S45 := (List.range i).map fun (j : Nat) => (⟨(j : Int), 0⟩ : S45)
def nxs (K i : Nat) : List (List Int) := (List.range i).map fun (j : Nat) => [(((j + 1) % K : Nat) : Int)]
def mss (K m i : Nat) : List Int := (List.range i).map fun (j : Nat) => sv K m j
theorem sps_len (i : Nat) : (sps i).length = i := by simp [sps]
theorem nxs_len (K i : Nat) : (nxs K i).length = i := by simp [nxs]
theorem mss_len (K m i : Nat) : (mss K m i).length = i := by simp [mss]
theorem sps_succ (i : Nat) : sps (i + 1) = sps i ++ [(⟨(i : Int), 0⟩ : S45)] := by simp [sps, List.range_succ]
theorem nxs_succ (K i : Nat) : nxs K (i + 1) = nxs K i ++ [[(((i + 1) % K : Nat) : Int)]] := by simp [nxs, List.range_succ]
theorem mss_succ (K m i : Nat) : mss K m (i + 1) = mss K m i ++ [sv K m i] := by simp [mss, List.range_succ]
theorem row_at {K i j : Nat} (h : j < i) : rd_L1 (nxs K i) (j : Int) = [(((j + 1) % K : Nat) : Int)] := by
  rw [rdL_eq (by rw [nxs_len]; exact h)]
  simp [nxs]
theorem row_out {nx : List (List Int)} {u : Int} (h : nx.length ≤ u.toNat) : rd_L1 nx u = [] := by
  unfold rd_L1
  rw [List.getD_eq_getElem?_getD, List.getElem?_eq_none h]
  rfl
theorem row_set {nx : List (List Int)} {i u : Int} {l : List Int} (h0 : 0 ≤ i) (h1 : i < nx.length) (hu : 0 ≤ u) : rd_L1 (nx.set i.toNat l) u = if u = i then l else rd_L1 nx u := by
  unfold rd_L1
  rw [List.getD_eq_getElem?_getD, List.getD_eq_getElem?_getD, List.getElem?_set]
  by_cases c : u = i
  · subst c
    rw [if_pos rfl, if_pos rfl, if_pos (by omega)]
    rfl
  · rw [if_neg (by omega), if_neg c]
theorem met_at {K m i j : Nat} (h : j < i) : rd (mss K m i) (j : Int) = sv K m j := by
  rw [rd_eq (by rw [mss_len]; exact h)]
  simp [mss]
theorem pow_lt3 {i m : Nat} (h : i < m) : 2 ^ i < 2 ^ m := Nat.pow_lt_pow_right (by decide) h
theorem sv_rng {K m i : Nat} : 0 ≤ sv K m i ∧ sv K m i < ((2 ^ m : Nat) : Int) := by
  have hp : 0 < 2 ^ m := Nat.two_pow_pos m
  unfold sv
  by_cases c : K < m ∧ i + 1 = K
  · rw [if_pos c]; omega
  · rw [if_neg c]
    by_cases d : i < m
    · rw [if_pos d]; exact ⟨Int.natCast_nonneg _, Int.ofNat_lt.2 (pow_lt3 d)⟩
    · rw [if_neg d]; omega
theorem go_on {K m i : Nat} (hi : i < K) (hK : K ≤ 10) (hm : m ≤ 3) (k : Nat) : foretellkeep_FairRound.l0 (k + 1) (K : Int) (m : Int) (i : Int) (sps i) 1 (nxs K i) (mss K m i) (m : Int) = foretellkeep_FairRound.l0 k (K : Int) (m : Int) ((i + 1 : Nat) : Int) (sps (i + 1)) 1 (nxs K (i + 1)) (mss K m (i + 1)) (m : Int) := by
  have h1 : (i : Int) < (K : Int) := by omega
  have h2 : (0 : Int) ≤ (i : Int) := by omega
  have h3 : (0 : Int) ≤ (m : Int) := by omega
  have h4 : (sps i).length < 8796093022208 := by rw [sps_len]; omega
  have h5 : ¬ (K : Int) = 0 := by omega
  have h6 : (nxs K i).length < 5864062014805 := by rw [nxs_len]; omega
  have h7 : (mss K m i).length < 17592186044416 := by rw [mss_len]; omega
  have e1 : wrap64 ((K : Int) - 1) = (K : Int) - 1 := w64 (by omega) (by omega)
  have e2 : wrap64 ((i : Int) + 1) = ((i + 1 : Nat) : Int) := w64 (by omega) (by omega)
  have e3 : Int.tmod ((i + 1 : Nat) : Int) (K : Int) = (((i + 1) % K : Nat) : Int) := by rw [Int.tmod_eq_emod_of_nonneg (by omega)]; simp
  have e4 : shl .i64 1 (m : Int) = ((2 ^ m : Nat) : Int) := by rw [shl_pow (by omega) (by omega), Int.toNat_natCast]
  have hpm : 0 < 2 ^ m := Nat.two_pow_pos m
  have hp3 : 2 ^ m ≤ 2 ^ 3 := Nat.pow_le_pow_right (by decide) hm
  have e5 : wrap64 (((2 ^ m : Nat) : Int) - 1) = ((2 ^ m - 1 : Nat) : Int) := by rw [w64 (by omega) (by omega)]; omega
  by_cases a1 : (i : Int) < (m : Int)
  · have e6 : shl .i64 1 (i : Int) = ((2 ^ i : Nat) : Int) := by rw [shl_pow (by omega) (by omega), Int.toNat_natCast]
    by_cases a2 : (K : Int) < (m : Int)
    · by_cases a3 : (i : Int) = (K : Int) - 1
      · have hs : sv K m i = ((2 ^ m - 1 : Nat) : Int) := by unfold sv; rw [if_pos ⟨by omega, by omega⟩]
        simp only [foretellkeep_FairRound.l0, e1, e2, e3, e4, e5, if_pos h1, if_pos a1, if_pos h2, if_pos a2, if_pos a3, if_pos h3, if_pos h4, if_neg h5, if_pos h6, if_pos h7, sps_succ, nxs_succ, mss_succ, hs]
      · have hs : sv K m i = ((2 ^ i : Nat) : Int) := by unfold sv; rw [if_neg (by omega), if_pos (by omega)]
        simp only [foretellkeep_FairRound.l0, e1, e2, e3, e6, if_pos h1, if_pos a1, if_pos h2, if_pos a2, if_neg a3, if_pos h3, if_pos h4, if_neg h5, if_pos h6, if_pos h7, sps_succ, nxs_succ, mss_succ, hs]
    · have hs : sv K m i = ((2 ^ i : Nat) : Int) := by unfold sv; rw [if_neg (by omega), if_pos (by omega)]
      simp only [foretellkeep_FairRound.l0, e1, e2, e3, e6, if_pos h1, if_pos a1, if_pos h2, if_neg a2, if_pos h3, if_pos h4, if_neg h5, if_pos h6, if_pos h7, sps_succ, nxs_succ, mss_succ, hs]
  · by_cases a2 : (K : Int) < (m : Int)
    · omega
    · have hs : sv K m i = 0 := by unfold sv; rw [if_neg (by omega), if_neg (by omega)]
      simp only [foretellkeep_FairRound.l0, e1, e2, e3, if_pos h1, if_neg a1, if_pos h2, if_neg a2, if_pos h3, if_pos h4, if_neg h5, if_pos h6, if_pos h7, sps_succ, nxs_succ, mss_succ, hs]
theorem up {K j : Nat} (h : j < K) : Rch (nxs K K) 0 (j : Int) := by
  induction j with
  | zero => exact Rch.refl _
  | succ j ih =>
    refine (ih (by omega)).tail ?_
    rw [row_at (by omega), Nat.mod_eq_of_lt (by omega)]
    simp
theorem down {K : Nat} (d : Nat) : ∀ j, j + d + 1 = K → Rch (nxs K K) (j : Int) 0 := by
  induction d with
  | zero =>
    intro j hj
    refine (Rch.refl _).tail ?_
    rw [row_at (by omega), show j + 1 = K by omega, Nat.mod_self]
    simp
  | succ d ih =>
    intro j hj
    refine Rch.trans ((Rch.refl _).tail ?_) (ih (j + 1) (by omega))
    rw [row_at (by omega), Nat.mod_eq_of_lt (by omega)]
    simp
theorem all {K a b : Nat} (ha : a < K) (hb : b < K) : Rch (nxs K K) (a : Int) (b : Int) := (down (K - 1 - a) a (by omega)).trans (up hb)
theorem graph {K m : Nat} (hK0 : 0 < K) (hK : K ≤ 10) (hm : m ≤ 3) {nx : List (List Int)} (hl : nx.length = K) (hr : ∀ a : Nat, a < K → ∀ b ∈ rd_L1 nx (a : Int), 0 ≤ b ∧ b < (K : Int)) (h2 : ∀ a : Int, (rd_L1 nx a).length ≤ 1) : Gs K (sps K) 1 nx (mss K m K) (m : Int) := by
  refine ⟨⟨hl, by omega, fun a a0 a1 b hb => hr a.toNat (by omega) b (by rw [Int.toNat_of_nonneg a0]; exact hb), fun a => by have := h2 a; omega⟩, sps_len K, by omega, by omega, mss_len K m K, by omega, by omega, fun i i0 i1 => ?_⟩
  have e := met_at (K := K) (m := m) (show i.toNat < K by omega)
  rw [Int.toNat_of_nonneg i0] at e
  rw [e, shl_pow (by omega) (by omega), Int.toNat_natCast]
  exact sv_rng
theorem bit_some {K m b : Nat} (hK0 : 0 < K) (hb : b < m) : ∃ u, u < K ∧ (sv K m u).toNat.testBit b = true := by
  have hall : K < m → (sv K m (K - 1)).toNat.testBit b = true := fun h => by
    unfold sv
    rw [if_pos ⟨h, by omega⟩, Int.toNat_natCast, Nat.testBit_two_pow_sub_one]
    exact decide_eq_true hb
  by_cases c : K ≤ b
  · exact ⟨K - 1, by omega, hall (by omega)⟩
  · by_cases d : K < m ∧ b + 1 = K
    · exact ⟨K - 1, by omega, hall d.1⟩
    · refine ⟨b, by omega, ?_⟩
      unfold sv
      rw [if_neg d, if_pos hb, Int.toNat_natCast, Nat.testBit_two_pow_self]
theorem one (K : Nat) (a : Int) : (rd_L1 (nxs K K) a).length ≤ 1 := by
  by_cases c : (nxs K K).length ≤ a.toNat
  · rw [row_out c]; simp
  · rw [nxs_len] at c
    unfold rd_L1
    rw [List.getD_eq_getElem?_getD, List.getElem?_eq_getElem (by rw [nxs_len]; omega)]
    simp [nxs]
end Ring
open Ring in
theorem FairRound : P.foretellkeep_FairRound.Pur := by
  intro a0 a1 w0 w1
  have p0 := picked_is (m := 10) w0 (by decide)
  have p1 := picked_is (m := 4) w1 (by decide)
  have q0 := pk_lo a0 (m := 10) (by decide)
  have q1 := pk_hi a0 (m := 10) (by decide)
  have q2 := pk_lo a1 (m := 4) (by decide)
  have q3 := pk_hi a1 (m := 4) (by decide)
  obtain ⟨K, hK⟩ : ∃ K : Nat, (K : Int) = 1 + pk a0 10 := ⟨(1 + pk a0 10).toNat, by omega⟩
  obtain ⟨m, hm⟩ : ∃ m : Nat, (m : Int) = pk a1 4 := ⟨(pk a1 4).toNat, by omega⟩
  have hK0 : 0 < K := by omega
  have hK1 : K ≤ 10 := by omega
  have hm1 : m ≤ 3 := by omega
  have g1 : Gs K (sps K) 1 (nxs K K) (mss K m K) (m : Int) := graph hK0 hK1 hm1 (nxs_len K K) (fun a ha b hb => by
    rw [row_at ha] at hb
    obtain rfl := List.mem_singleton.1 hb
    have := Nat.mod_lt (a + 1) hK0
    omega) (one K)
  have hlK : ((K : Int) - 1) < (nxs K K).length := by rw [nxs_len]; omega
  have hrs : ∀ u : Int, 0 ≤ u → rd_L1 ((nxs K K).set ((K : Int) - 1).toNat []) u = if u = (K : Int) - 1 then [] else rd_L1 (nxs K K) u := fun u hu => row_set (by omega) hlK hu
  have h1s : ∀ a : Int, (rd_L1 ((nxs K K).set ((K : Int) - 1).toNat []) a).length ≤ 1 := fun a => by
    by_cases ha : 0 ≤ a
    · rw [hrs a ha]
      split
      · simp
      · exact one K a
    · have e : rd_L1 ((nxs K K).set ((K : Int) - 1).toNat []) a = rd_L1 ((nxs K K).set ((K : Int) - 1).toNat []) 0 := by unfold rd_L1; rw [show a.toNat = (0 : Int).toNat by omega]
      rw [e, hrs 0 (by omega)]
      split
      · simp
      · exact one K 0
  have hup : ∀ u : Int, 0 ≤ u → u < (K : Int) → ∀ b ∈ rd_L1 ((nxs K K).set ((K : Int) - 1).toNat []) u, u < b ∧ b < (K : Int) := fun u u0 u1 b hb => by
    rw [hrs u u0] at hb
    by_cases c : u = (K : Int) - 1
    · rw [if_pos c] at hb; exact absurd hb (by simp)
    · rw [if_neg c] at hb
      have e := row_at (K := K) (show u.toNat < K by omega)
      rw [Int.toNat_of_nonneg u0] at e
      rw [e, Nat.mod_eq_of_lt (by omega)] at hb
      obtain rfl := List.mem_singleton.1 hb
      omega
  have g2 : Gs K (sps K) 1 ((nxs K K).set ((K : Int) - 1).toNat []) (mss K m K) (m : Int) := graph hK0 hK1 hm1 (by rw [List.length_set, nxs_len]) (fun a ha b hb => by have := hup (a : Int) (by omega) (by omega) b hb; omega) h1s
  have hGF : GF K (nxs K K) 1 (mss K m K) (m : Int) 0 := by
    refine ⟨by omega, by omega, ⟨0, ⟨by omega, by omega⟩, Rch.refl _⟩, ?_, fun b hb => ?_⟩
    · refine ⟨(((0 + 1) % K : Nat) : Int), ?_, all (Nat.mod_lt _ hK0) hK0⟩
      have e := row_at (K := K) (i := K) (j := 0) hK0
      rw [show ((0 : Nat) : Int) = 0 from rfl] at e
      rw [e]
      simp
    · obtain ⟨u, hu, hbit⟩ := bit_some (K := K) hK0 (show b < m by omega)
      refine ⟨(u : Int), all hK0 hu, all hu hK0, ?_⟩
      unfold bitOf
      rw [met_at hu]
      exact hbit
  have hf1 : Ev (fun k => scc_Fair.f k (sps K) 1 (nxs K K) (mss K m K) (m : Int)) (0, 0) := by
    rcases Fair_sem g1 (fun l hl => by
      obtain ⟨j, _, rfl⟩ := List.mem_map.1 hl
      simp) with ⟨i, e, hi, hmin⟩ | ⟨_, hno⟩
    · have hi0 := hi.r0
      have hi1 := hi.r1
      obtain ⟨j, rfl⟩ : ∃ j : Nat, (j : Int) = i := ⟨i.toNat, by omega⟩
      have := hmin 0 hGF ⟨all (by omega) hK0, all hK0 (by omega)⟩
      obtain rfl : j = 0 := by omega
      exact e
    · exact absurd hGF (hno 0)
  have hf2 : Ev (fun k => scc_Fair.f k (sps K) 1 ((nxs K K).set ((K : Int) - 1).toNat []) (mss K m K) (m : Int)) (0, 11) := by
    rcases Fair_sem g2 (fun l hl => by
      rcases List.mem_or_eq_of_mem_set hl with hl | rfl
      · obtain ⟨j, _, rfl⟩ := List.mem_map.1 hl
        simp
      · simp) with ⟨i, e, hi, _⟩ | ⟨e, _⟩
    · exfalso
      obtain ⟨k, hk, hr⟩ := hi.loop
      have hle : ∀ b, Rch ((nxs K K).set ((K : Int) - 1).toNat []) k b → k ≤ b ∧ b < (K : Int) := by
        have h1 := hup i hi.r0 hi.r1 k hk
        have h0 := hi.r0
        intro b hb
        induction hb with
        | refl => omega
        | tail _ hc ih => have := hup _ (by omega) ih.2 _ hc; omega
      have h1 := hup i hi.r0 hi.r1 k hk
      have := (hle i hr).1
      omega
    · exact e
  have hend : Ev (fun k => foretellkeep_FairRound.l0 k (K : Int) (m : Int) (K : Int) (sps K) 1 (nxs K K) (mss K m K) (m : Int)) true := by
    refine Ev.step (fun k => ?_) (Ev.bind hf1 (f := fun k bt246 => (if 0 ≤ (K : Int) - 1 then (if (K : Int) - 1 < ((nxs K K).length : Int) then ((scc_Fair.f k (sps K) 1 ((nxs K K).set ((K : Int) - 1).toNat ([] : List Int)) (mss K m K) (m : Int)).bind fun bt249 => (if bt246.2 = 0 then (if bt246.1 = 0 then (some (bt249.2 == 11)) else (some false)) else (some false))) else (none)) else (none))) ?_)
    · simp only [foretellkeep_FairRound.l0]
      rw [if_neg (by omega), w64 (n := (K : Int) - 1) (by omega) (by omega)]
    · simp only [if_pos (show (0 : Int) ≤ (K : Int) - 1 by omega), if_pos hlK, if_true]
      exact Ev.bind hf2 (Ev.now _)
  have hl : ∀ (d i : Nat), i + d = K → Ev (fun k => foretellkeep_FairRound.l0 k (K : Int) (m : Int) (i : Int) (sps i) 1 (nxs K i) (mss K m i) (m : Int)) true := by
    intro d
    induction d with
    | zero =>
      intro i hi
      obtain rfl : i = K := by omega
      exact hend
    | succ d ih => intro i hi; exact Ev.step (fun k => go_on (by omega) hK1 hm1 k) (ih (i + 1) (by omega))
  refine Ev.rounds ?_
  unfold foretellkeep_FairRound.f
  simp only [p0, p1, Option.bind_some]
  rw [w64 (n := 1 + pk a0 10) (by omega) (by omega), ← hK, ← hm]
  exact hl K 0 (by omega)
end Go.Proofs.Ytpkigkmkolbiiaa.Q
