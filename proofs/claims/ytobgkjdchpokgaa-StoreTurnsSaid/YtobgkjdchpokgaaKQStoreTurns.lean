/- The law StoreTurns: it does not matter in which order keys came, of what there is. -/
import Derived.Test.YtobgkjdchpokgaaKLStoreTurns
import Derived.Test.YtobgkjdchpokgaaK14
import Derived.Test.YtobgkjdchpokgaaK15
namespace Go.Proofs.Ytobgkjdchpokgaa.Q
open Go.RowKit Go.Proofs.YtobgkjdchpokgaaW.PrintWords Go.Proofs.YtobgkjdchpokgaaW.PrintMore Go.Proofs.Ytobgkjdchpokgaa.P
set_option linter.unusedVariables false
theorem sub_mem : ∀ {a b : List Int}, a.Nodup → (∀ x ∈ a, x ∈ b) → b.length ≤ a.length → ∀ x ∈ b, x ∈ a
  | [], b, _, _, hl, x, hx => by
    have : b = [] := List.eq_nil_of_length_eq_zero (by simpa using hl)
    rw [this] at hx
    cases hx
  | y :: a, b, hn, hs, hl, x, hx => by
    obtain ⟨n1, n2⟩ := List.nodup_cons.mp hn
    have hy := hs y List.mem_cons_self
    have hle := List.length_erase_of_mem hy
    rw [List.length_cons] at hl
    by_cases c : x = y
    · rw [c]; exact List.mem_cons_self
    · refine List.mem_cons_of_mem _ (sub_mem (b := b.erase y) n2 (fun z hz => ?_) (by omega) x ((List.mem_erase_of_ne c).mpr hx))
      have hzy : z ≠ y := fun e => n1 (e ▸ hz)
      exact (List.mem_erase_of_ne hzy).mpr (hs z (List.mem_cons_of_mem _ hz))
theorem nodup_inj {l : List Int} (h : l.Nodup) {i j : Nat} (hi : i < l.length) (hj : j < l.length) (e : l[i] = l[j]) : i = j := by
  have hp := List.pairwise_iff_getElem.mp h
  rcases Nat.lt_trichotomy i j with c | c | c
  · exact absurd e (hp i j hi hj c)
  · exact c
  · exact absurd e.symm (hp j i hj hi c)
/-- Which key comes as the i-th. -/
def at7 (n c i : Nat) : Nat := (i * 7 + c) % n
theorem at7_inj {n c i j : Nat} (h7 : n % 7 ≠ 0) (hi : i < n) (hj : j < i) : at7 n c i ≠ at7 n c j := by
  intro h
  unfold at7 at h
  have h1 : n ∣ (i * 7 + c) - (j * 7 + c) := Nat.dvd_of_mod_eq_zero (Nat.sub_mod_eq_zero_of_mod_eq h)
  rw [show (i * 7 + c) - (j * 7 + c) = 7 * (i - j) by omega] at h1
  have hc : Nat.Coprime n 7 := by
    rw [Nat.coprime_comm]
    unfold Nat.Coprime
    have h2 : Nat.gcd 7 n ∣ 7 := Nat.gcd_dvd_left 7 n
    have h3 : Nat.gcd 7 n ∣ n := Nat.gcd_dvd_right 7 n
    have h4 : Nat.gcd 7 n ≤ 7 := Nat.le_of_dvd (by decide) h2
    have h5 : 0 < Nat.gcd 7 n := Nat.gcd_pos_of_pos_left n (by decide)
    generalize Nat.gcd 7 n = g at h2 h3 h4 h5
    obtain ⟨a, ha⟩ := h2
    obtain ⟨b, hb⟩ := h3
    have hg : g = 1 ∨ g = 2 ∨ g = 3 ∨ g = 4 ∨ g = 5 ∨ g = 6 ∨ g = 7 := by omega
    rcases hg with rfl | rfl | rfl | rfl | rfl | rfl | rfl <;> omega
  have h6 := hc.dvd_of_dvd_mul_left h1
  have := Nat.le_of_dvd (by omega) h6
  omega
structure Turn (ks : List Int) (c i : Nat) (qs : List Int) : Prop where
  got : ∀ x, x ∈ qs ↔ ∃ j, j < i ∧ ∃ h : at7 ks.length c j < ks.length, x = ks[at7 ks.length c j]
  len : ks.length % 7 ≠ 0 → qs.length = i
  few : qs.length ≤ i
theorem Turn.zero (ks : List Int) (c : Nat) : Turn ks c 0 [] := ⟨fun x => ⟨fun h => (List.not_mem_nil h).elim, fun ⟨j, h, _⟩ => (by omega)⟩, fun _ => rfl, Nat.le_refl _⟩
theorem turn_l0 {l ks lo : List Int} {rn : List (List Int)} {a1 : Int} (ha : (Lit.int .i64 a1).wf = true) (st : Stock l lo rn ks) {c : Nat} (hc : pk a1 100 = (c : Int)) : ∀ (d i : Nat) (qs lo2 : List Int) (rn2 : List (List Int)), i + d = ks.length → Kept lo2 rn2 qs → Turn ks c i qs →
    Ev (fun k => foretellkeep_StoreTurns.l0 k l a1 ks true (ks.length : Int) (i : Int) lo rn lo2 rn2) true := by
  have hfew := st.few
  have c1 := pk_hi a1 (m := 100) (by decide)
  intro d
  induction d with
  | zero =>
    intro i qs lo2 rn2 hi hk ht
    have e7 : Int.tmod (ks.length : Int) 7 = (ks.length : Int) % 7 := Int.tmod_eq_emod_of_nonneg (by omega)
    have hlast : (((l.length : Int) == 0) == (((srt ks).length : Int) == 0)) = true := by
      rw [srt_len]
      have e := st.none
      by_cases q : l = []
      · rw [e.mpr q, q]; rfl
      · have q2 : ks ≠ [] := fun h => q (e.mp h)
        have := List.length_pos_iff.mpr q
        have := List.length_pos_iff.mpr q2
        rw [beq_false_of_ne (a := (l.length : Int)) (by omega), beq_false_of_ne (a := (ks.length : Int)) (by omega)]
        rfl
    refine Ev.step (f := fun k => (store_All.f k lo rn).bind fun bt408 => ((store_All.f k lo2 rn2).bind fun bt412 => (if bt408.2 = 0 then (if bt412.2 = 0 then (if Int.tmod (ks.length : Int) 7 = 0 then (some (((l.length : Int) == 0) == ((bt408.1.length : Int) == 0))) else ((foretellkeep_sameInts.f k bt408.1 bt412.1).bind fun t416 => (if t416 = true then (some (((l.length : Int) == 0) == ((bt408.1.length : Int) == 0))) else (some false)))) else (some false)) else (some false)))) (fun k => ?_) (Ev.bind st.kept.all (Ev.bind hk.all ?_))
    · rw [foretellkeep_StoreTurns.l0, if_neg (by omega)]
      simp only [if_true]
    · simp only [if_true]
      by_cases q : ks.length % 7 = 0
      · refine Ev.congr (fun k => ?_) (Ev.now _)
        rw [e7, if_pos (by omega), hlast]
      · have e : srt qs = srt ks := by
          refine rise_ext (nodup_rise hk.nodup) (nodup_rise st.kept.nodup) (fun x => ?_)
          rw [srt_mem, srt_mem]
          have hsub : ∀ x ∈ qs, x ∈ ks := fun x hx => by
            obtain ⟨j, _, hj, rfl⟩ := (ht.got x).mp hx
            exact List.getElem_mem hj
          exact ⟨hsub x, sub_mem hk.nodup hsub (by rw [ht.len q]; omega) x⟩
        rw [e, e7]
        simp only [if_neg (show ¬ (ks.length : Int) % 7 = 0 by omega)]
        refine Ev.bind (sameInts_is (by rw [srt_len]; omega)) ?_
        simp only [if_true, hlast]
        exact Ev.now _
  | succ d ih =>
    intro i qs lo2 rn2 hi hk ht
    have hil : i < ks.length := by omega
    have hpos : 0 < ks.length := by omega
    have hat : at7 ks.length c i < ks.length := Nat.mod_lt _ hpos
    have hkey := st.key _ (List.getElem_mem hat)
    have ei : Int.tmod (wrap64 (wrap64 ((i : Int) * 7) + (c : Int))) (ks.length : Int) = ((at7 ks.length c i : Nat) : Int) := by
      rw [w64 (n := (i : Int) * 7) (by omega) (by omega), w64 (n := (i : Int) * 7 + (c : Int)) (by omega) (by omega), Int.tmod_eq_emod_of_nonneg (by omega)]
      unfold at7
      rw [Int.natCast_emod]
      simp
    have hstep : ∀ {b : Bool} {lo3 : List Int} {rn3 : List (List Int)}, Ev (fun k => store_Add.f k lo2 rn2 ks[at7 ks.length c i]) (lo3, rn3, b, 0) → (b = false → ks.length % 7 = 0) → Ev (fun k => foretellkeep_StoreTurns.l0 k l a1 ks true (ks.length : Int) ((i + 1 : Nat) : Int) lo rn lo3 rn3) true → Ev (fun k => foretellkeep_StoreTurns.l0 k l a1 ks true (ks.length : Int) (i : Int) lo rn lo2 rn2) true := fun {b} {lo3} {rn3} h1 h2 h3 => by
      refine Ev.step (f := fun k => (store_Add.f k lo2 rn2 ks[at7 ks.length c i]).bind fun bt419 => (if bt419.2.2.2 = 0 then (if (bt419.2.2.1 == false) = true then (if (Int.tmod (ks.length : Int) 7) = 0 then (foretellkeep_StoreTurns.l0 k l a1 ks true (ks.length : Int) ((i + 1 : Nat) : Int) lo rn bt419.1 bt419.2.1) else (some false)) else (foretellkeep_StoreTurns.l0 k l a1 ks true (ks.length : Int) ((i + 1 : Nat) : Int) lo rn bt419.1 bt419.2.1)) else (some false))) (fun k => ?_) (Ev.bind h1 ?_)
      · rw [foretellkeep_StoreTurns.l0, if_pos (by omega), picked_is (m := 100) ha (by decide), hc, Option.bind_some, if_neg (by omega), ei, if_pos (by omega), if_pos (by omega), rd_eq hat, w64 (n := (i : Int) + 1) (by omega) (by omega)]
        rfl
      · simp only [if_true]
        cases b with
        | true => exact h3
        | false =>
          have q := h2 rfl
          simp only [beq_self_eq_true, if_true, if_pos (show Int.tmod (ks.length : Int) 7 = 0 by rw [Int.tmod_eq_emod_of_nonneg (by omega)]; omega)]
          exact h3
    by_cases hm : ks[at7 ks.length c i] ∈ qs
    · obtain ⟨j, hj, hj2, e⟩ := (ht.got _).mp hm
      have e2 : at7 ks.length c i = at7 ks.length c j := nodup_inj st.kept.nodup hat hj2 e
      have q : ks.length % 7 = 0 := Classical.byContradiction fun q => at7_inj q hil hj e2
      refine hstep (add_old hk ⟨hkey.1, by omega⟩ hm) (fun _ => q) (ih (i + 1) qs lo2 rn2 (by omega) hk ⟨fun x => (ht.got x).trans ⟨fun ⟨j, h1, h2⟩ => ⟨j, by omega, h2⟩, fun ⟨j2, h1, h2, h3⟩ => ?_⟩, fun h => absurd q h, by have := ht.few; omega⟩)
      by_cases q2 : j2 = i
      · subst q2
        exact ⟨j, hj, hj2, h3.trans e⟩
      · exact ⟨j2, by omega, h2, h3⟩
    · have hql := ht.few
      obtain ⟨lo3, rn3, h1, h2⟩ := add_new hk ⟨hkey.1, by omega⟩ hm (by omega)
      refine hstep h1 (fun h => by cases h) (ih (i + 1) _ lo3 rn3 (by omega) h2 ⟨fun x => ?_, fun h => by rw [List.length_append, List.length_singleton, ht.len h], by rw [List.length_append, List.length_singleton]; omega⟩)
      rw [List.mem_append, List.mem_singleton, ht.got]
      constructor
      · rintro (⟨j, h1, h2⟩ | h)
        · exact ⟨j, by omega, h2⟩
        · exact ⟨i, by omega, hat, h⟩
      · rintro ⟨j, h1, h2, h3⟩
        by_cases q2 : j = i
        · subst q2
          exact .inr h3
        · exact .inl ⟨j, by omega, h2, h3⟩
theorem StoreTurns : P.foretellkeep_StoreTurns.Pur := by
  intro l0 a1 ⟨hl, hw⟩ ha
  obtain ⟨lo, rn, ks, hs, st⟩ := stocked_is hw
  have p0 := pk_lo a1 (m := 100) (by decide)
  have h1 : Ev (fun k => foretellkeep_StoreTurns.f k l0 a1) true := Ev.bind hs (turn_l0 ha st (c := (pk a1 100).toNat) (by omega) ks.length 0 [] [] [] (Nat.zero_add _) kept_nil (Turn.zero _ _))
  obtain ⟨K, h⟩ := h1
  exact ⟨K, h K (Nat.le_refl _)⟩
end Go.Proofs.Ytobgkjdchpokgaa.Q
