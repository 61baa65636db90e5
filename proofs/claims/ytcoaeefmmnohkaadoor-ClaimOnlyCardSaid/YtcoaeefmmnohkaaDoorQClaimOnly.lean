/- The plain law of ClaimOnly: there is no other such line: one that differs breaks a law, or waits for ever. -/
import Derived.Test.YtcoaeefmmnohkaaDoorLClaimOnly
import Derived.Test.YtcoaeefmmnohkaaDoorQLines
namespace Go.Proofs.YtcoaeefmmnohkaaDoor.Q
open Go.RowKit Go.Proofs.YtcoaeefmmnohkaaDoorW.PrintWords Go.Proofs.YtcoaeefmmnohkaaDoorW.PrintMore Go.Proofs.YtcoaeefmmnohkaaDoor.P
set_option linter.unusedVariables false
theorem only_l1 {stem loop : List (List Bool)} {t : Tm} {m : Nat → Nat} {mine places : List Int} {D : Bool} (hx : ∀ x ∈ stem ++ loop, x.length = 3) (h1 : 1 ≤ loop.length) (hn : (stem ++ loop).length ≤ 100) (h : FormT 3 t) (hs : t.size ≤ 60) (ht : t.tempo ≤ 6) (hm : ∀ i, i < (stem ++ loop).length → m i < 2 ^ t.tempo)
    (hl : mine.length = (stem ++ loop).length) (hp : places.length = t.tempo) (hv : ∀ i, i < (stem ++ loop).length → rd mine (i : Int) = ((m i : Nat) : Int)) (hD : D = true ↔ ¬ Fits (stem ++ loop) stem.length (Bm m) 0 t) :
    ∀ (d i N : Nat) (F : Bool), i + d = (stem ++ loop).length → Met stem loop t m i N → (F = true ↔ ∀ i', i' < i → keepT (xl (stem ++ loop) i') (xl (stem ++ loop) (nx (stem ++ loop).length stem.length i')) (Bm m i') (Bm m (nx (stem ++ loop).length stem.length i')) 0 t = true) →
    Ev (fun k => foretellkeep_ClaimOnly.l1 k t.flat places ((stem ++ loop).length : Int) (stem ++ loop) mine D (N : Int) F (i : Int) stem loop) true := by
  have hbk : stem.length < (stem ++ loop).length := by rw [List.length_append]; omega
  intro d
  induction d with
  | zero =>
    intro i N F hi hM hk
    have hil : i = (stem ++ loop).length := by omega
    subst hil
    refine Ev.step (f := fun _ => some true) (fun k => ?_) (Ev.now _)
    simp only [foretellkeep_ClaimOnly.l1]
    rw [if_neg (by omega), hp, full_val ht]
    have key : (F && ((N : Int) == ((2 ^ t.tempo - 1 : Nat) : Int))) = !D := by
      have e1 : ((N : Int) == ((2 ^ t.tempo - 1 : Nat) : Int)) = true ↔ N = 2 ^ t.tempo - 1 := by rw [beq_iff_eq]; omega
      have e2 : (F && ((N : Int) == ((2 ^ t.tempo - 1 : Nat) : Int))) = true ↔ Fits (stem ++ loop) stem.length (Bm m) 0 t := by
        rw [Bool.and_eq_true, e1, hk, hM.full]
        exact Iff.rfl
      cases hDD : D with
      | true =>
        cases hq : (F && ((N : Int) == ((2 ^ t.tempo - 1 : Nat) : Int))) with
        | false => rfl
        | true => exact absurd (e2.mp hq) (hD.mp hDD)
      | false =>
        refine e2.mpr (Classical.byContradiction fun hq => ?_)
        rw [hD.mpr hq] at hDD
        exact absurd hDD (by decide)
    cases F with
    | true =>
      rw [Bool.true_and] at key
      rw [if_pos rfl, key, beq_self_eq_true]
    | false =>
      rw [Bool.false_and] at key
      rw [if_neg (by decide), ← key]
      rfl
  | succ d ih =>
    intro i N F hi hM hk
    have hil : i < (stem ++ loop).length := by omega
    have hkl := nx_lt (i := i) hbk
    obtain ⟨M, hM1, hM2, hM3⟩ := meets_at hx h hs ht hm hil
    have hf := follows_at hx h hs ht hm hil hkl
    have hk' : (F && keepT (xl (stem ++ loop) i) (xl (stem ++ loop) (nx (stem ++ loop).length stem.length i)) (Bm m i) (Bm m (nx (stem ++ loop).length stem.length i)) 0 t) = true ↔ ∀ i', i' < i + 1 → keepT (xl (stem ++ loop) i') (xl (stem ++ loop) (nx (stem ++ loop).length stem.length i')) (Bm m i') (Bm m (nx (stem ++ loop).length stem.length i')) 0 t = true := by
      rw [Bool.and_eq_true, hk]
      constructor
      · rintro ⟨a, b⟩ i' hi'
        by_cases e : i' = i
        · subst e; exact b
        · exact a i' (by omega)
      · exact fun q => ⟨fun i' hi' => q i' (by omega), q i (by omega)⟩
    generalize hkk : nx (stem ++ loop).length stem.length i = kk at *
    generalize hyes : keepT (xl (stem ++ loop) i) (xl (stem ++ loop) kk) (Bm m i) (Bm m kk) 0 t = yes at *
    have HW1 := Aside0.mk (show wrap64 ((i : Int) + 1) = ((i + 1 : Nat) : Int) from w64 (n := (i : Int) + 1) (by omega) (by omega))
    have hj4 : Ev (fun k => foretellkeep_ClaimOnly.j5 k t.flat places ((stem ++ loop).length : Int) (stem ++ loop) mine D (N : Int) F (i : Int) (kk : Int) stem loop) true := by
      have g1 : (0 : Int) ≤ (i : Int) := by omega
      have g2 : (i : Int) < ((stem ++ loop).length : Int) := by omega
      have g3 : (i : Int) < (mine.length : Int) := by omega
      have g5 : (0 : Int) ≤ (kk : Int) := by omega
      have g6 : (kk : Int) < ((stem ++ loop).length : Int) := by omega
      have g7 : (kk : Int) < (mine.length : Int) := by omega
      refine Ev.step (f := fun k => (logic_Follows.f k t.flat (xl (stem ++ loop) i) ((m i : Nat) : Int) (xl (stem ++ loop) kk) ((m kk : Nat) : Int)).bind fun bt515 => (logic_Meets.f k t.flat (xl (stem ++ loop) i) ((m i : Nat) : Int)).bind fun bt519 => if bt515.2 = 0 then foretellkeep_ClaimOnly.j6 k t.flat places ((stem ++ loop).length : Int) (stem ++ loop) mine D (N : Int) F (i : Int) bt515.1 bt519.1 (bt519.2 != 0) stem loop else foretellkeep_ClaimOnly.j6 k t.flat places ((stem ++ loop).length : Int) (stem ++ loop) mine D (N : Int) F (i : Int) bt515.1 bt519.1 true stem loop) (fun k => ?_) ?_
      · simp only [foretellkeep_ClaimOnly.j5, if_pos g1, if_pos g2, if_pos g3, if_pos g5, if_pos g6, if_pos g7, rdL_xl, hv i hil, hv kk hkl]
      · refine Ev.bind hf (Ev.bind hM3 ?_)
        simp only [if_true, bne_self_eq_false]
        have h64 := pow_le6 ht
        by_cases c : stem.length ≤ i
        · refine Ev.step (fun k => ?_) (ih (i + 1) (N ||| M) (F && yes) (by omega) (hM.go c hM1 hM2) hk')
          simp only [foretellkeep_ClaimOnly.j6]
          rw [if_neg (by simp)]
          cases F with
          | true => rw [if_pos rfl, if_pos (by omega), HW1.out, or_nat N M (by have := hM.1; omega) (by omega)]; rfl
          | false => rw [if_neg (by decide), if_pos (by omega), HW1.out, or_nat N M (by have := hM.1; omega) (by omega)]; rfl
        · refine Ev.step (fun k => ?_) (ih (i + 1) N (F && yes) (by omega) (hM.stay (by omega)) hk')
          simp only [foretellkeep_ClaimOnly.j6]
          rw [if_neg (by simp)]
          cases F with
          | true => rw [if_pos rfl, if_neg (by omega), HW1.out]; rfl
          | false => rw [if_neg (by decide), if_neg (by omega), HW1.out]; rfl
    refine Ev.step (fun k => ?_) hj4
    simp only [foretellkeep_ClaimOnly.l1, HW1.out]
    rw [if_pos (by omega)]
    unfold nx at hkk
    by_cases c : i + 1 < (stem ++ loop).length
    · rw [if_pos c] at hkk
      rw [if_neg (by omega), ← hkk]
    · rw [if_neg c] at hkk
      rw [if_pos (by omega), ← hkk]
theorem rd_set {l : List Int} {i j : Nat} {v : Int} (hi : i < l.length) : rd (l.set i v) (j : Int) = if j = i then v else rd l (j : Int) := by
  unfold rd
  rw [Int.toNat_natCast, List.getD_eq_getElem?_getD, List.getElem?_set, List.getD_eq_getElem?_getD]
  by_cases c : j = i
  · subst c; rw [if_pos rfl, if_pos rfl, if_pos hi]; rfl
  · rw [if_neg c, if_neg (fun h => c h.symm)]
theorem only_l0 {stem loop : List (List Bool)} {t : Tm} {cn : Nat → Nat} {other l places : List Int} (ho : intsWf other) (hx : ∀ x ∈ stem ++ loop, x.length = 3) (h1 : 1 ≤ loop.length) (hn : (stem ++ loop).length ≤ 100) (h : FormT 3 t) (hs : t.size ≤ 60) (ht : t.tempo ≤ 6)
    (hc : ∀ i, i < (stem ++ loop).length → cn i < 2 ^ t.tempo) (hcs : ∀ (i j : Nat) (s : Tm), i < (stem ++ loop).length → t.asub[j]? = some s → ((cn i).testBit j = true ↔ s.says (uw (stem ++ loop) stem.length i)))
    (hl : l.length = (stem ++ loop).length) (hp : places.length = t.tempo) (hv : ∀ i, i < (stem ++ loop).length → rd l (i : Int) = ((cn i : Nat) : Int)) :
    ∀ (d i : Nat) (mine : List Int) (D : Bool), i + d = (stem ++ loop).length → mine.length = (stem ++ loop).length → (∀ i', i' < (stem ++ loop).length → ∃ v : Nat, rd mine (i' : Int) = (v : Int) ∧ v < 2 ^ t.tempo) → (∀ i', i ≤ i' → i' < (stem ++ loop).length → rd mine (i' : Int) = rd l (i' : Int)) → (D = true ↔ ∃ i' : Nat, i' < i ∧ rd mine (i' : Int) ≠ rd l (i' : Int)) →
    Ev (fun k => foretellkeep_ClaimOnly.l0 k other t.flat l places ((stem ++ loop).length : Int) (stem ++ loop) mine D (i : Int) stem loop) true := by
  have h64 := pow_le6 ht
  have hend : ∀ (i : Nat) (mine : List Int) (D : Bool), i ≤ (stem ++ loop).length → mine.length = (stem ++ loop).length → (∀ i', i' < (stem ++ loop).length → ∃ v : Nat, rd mine (i' : Int) = (v : Int) ∧ v < 2 ^ t.tempo) → (∀ i', i ≤ i' → i' < (stem ++ loop).length → rd mine (i' : Int) = rd l (i' : Int)) → (D = true ↔ ∃ i' : Nat, i' < i ∧ rd mine (i' : Int) ≠ rd l (i' : Int)) →
      Ev (fun k => foretellkeep_ClaimOnly.j3 k t.flat places ((stem ++ loop).length : Int) (stem ++ loop) mine D stem loop) true := by
    intro i mine D hi hml hme heq hD
    have hmv : ∀ i', i' < (stem ++ loop).length → rd mine (i' : Int) = (((rd mine (i' : Int)).toNat : Nat) : Int) ∧ (rd mine (i' : Int)).toNat < 2 ^ t.tempo := by
      intro i' hi'
      obtain ⟨v, e1, e2⟩ := hme i' hi'
      rw [e1, Int.toNat_natCast]
      exact ⟨rfl, e2⟩
    have hD2 : D = true ↔ ¬ Fits (stem ++ loop) stem.length (Bm fun i => (rd mine (i : Int)).toNat) 0 t := by
      rw [fits_iff h1 h ht hc hcs (fun i hi => (hmv i hi).2), hD]
      constructor
      · rintro ⟨i', a, b⟩ q
        have e1 := hmv i' (by omega)
        have e2 := hv i' (by omega)
        have e3 := q i' (by omega)
        exact b (by rw [e1.1, e2, e3])
      · intro q
        refine Classical.byContradiction fun hn' => q (fun i' hi' => ?_)
        have e2 := hv i' hi'
        have e4 : rd mine (i' : Int) = rd l (i' : Int) := by
          by_cases c : i' < i
          · exact Classical.byContradiction fun hne => hn' ⟨i', c, hne⟩
          · exact heq i' (by omega) hi'
        rw [e4, e2, Int.toNat_natCast]
    refine Ev.step (fun k => ?_) (only_l1 (places := places) (D := D) hx h1 hn h hs ht (fun i hi => (hmv i hi).2) hml hp (fun i hi => (hmv i hi).1) hD2 (stem ++ loop).length 0 0 true (Nat.zero_add _) Met.zero ⟨fun _ i' hi' => by omega, fun _ => rfl⟩)
    rw [foretellkeep_ClaimOnly.j3]
    rfl
  intro d
  induction d with
  | zero =>
    intro i mine D hi hml hme heq hD
    refine Ev.step (fun k => ?_) (hend i mine D (by omega) hml hme heq hD)
    simp only [foretellkeep_ClaimOnly.l0]
    rw [if_neg (by omega)]
  | succ d ih =>
    intro i mine D hi hml hme heq hD
    by_cases c : i < other.length
    · have hpos : (0 : Int) < ((2 ^ t.tempo : Nat) : Int) := by have := Nat.two_pow_pos t.tempo; omega
      have hp2 := picked_is (rd_wf ho i c) hpos
      have b0 := pk_lo (rd other (i : Int)) hpos
      have b1 := pk_hi (rd other (i : Int)) hpos
      generalize pk (rd other (i : Int)) ((2 ^ t.tempo : Nat) : Int) = v at *
      have hil : i < mine.length := by omega
      have hset : ∀ j : Nat, rd (mine.set i v) (j : Int) = if j = i then v else rd mine (j : Int) := fun j => rd_set hil
      have hD' : (D || (rd (mine.set i v) (i : Int) != rd l (i : Int))) = true ↔ ∃ i' : Nat, i' < i + 1 ∧ rd (mine.set i v) (i' : Int) ≠ rd l (i' : Int) := by
        rw [Bool.or_eq_true, hD, bne_iff_ne]
        constructor
        · rintro (⟨i', a, b⟩ | q)
          · exact ⟨i', by omega, by rw [hset, if_neg (by omega)]; exact b⟩
          · exact ⟨i, by omega, q⟩
        · rintro ⟨i', a, b⟩
          by_cases e : i' = i
          · subst e; exact .inr b
          · rw [hset, if_neg e] at b
            exact .inl ⟨i', by omega, b⟩
      have hrec := ih (i + 1) (mine.set i v) (D || (rd (mine.set i v) (i : Int) != rd l (i : Int))) (by omega) (by rw [List.length_set]; exact hml) (fun i' hi' => by
          by_cases e : i' = i
          · exact ⟨v.toNat, by rw [hset, if_pos e]; omega, by omega⟩
          · rw [hset, if_neg e]; exact hme i' hi') (fun i' h1' h2' => by rw [hset, if_neg (by omega)]; exact heq i' (by omega) h2') hD'
      have HW1 := Aside0.mk (show wrap64 ((i : Int) + 1) = ((i + 1 : Nat) : Int) from w64 (n := (i : Int) + 1) (by omega) (by omega))
      have hj2 : Ev (fun k => foretellkeep_ClaimOnly.j2 k other t.flat l places ((stem ++ loop).length : Int) (stem ++ loop) (mine.set i v) D (i : Int) stem loop) true := by
        refine Ev.step (fun k => ?_) hrec
        simp only [foretellkeep_ClaimOnly.j2, HW1.out]
        cases D with
        | true => rw [if_pos rfl]; rfl
        | false => rw [if_neg (by decide), if_pos (by omega), if_pos (by rw [List.length_set]; omega), if_pos (by omega)]; rfl
      refine Ev.step (fun k => ?_) hj2
      simp only [foretellkeep_ClaimOnly.l0, hp, shl_pow t.tempo ht, hp2, Option.bind_some, Int.toNat_natCast]
      rw [if_pos (by omega), if_pos (by omega), if_pos (by omega), if_pos (by omega)]
    · refine Ev.step (fun k => ?_) (hend i mine D (by omega) hml hme heq hD)
      simp only [foretellkeep_ClaimOnly.l0]
      rw [if_pos (by omega), if_neg (by omega)]
theorem ClaimOnly : P.foretellkeep_ClaimOnly.Pur := by
  intro x s0 s1 other ⟨_, hx⟩ ⟨⟨_, hs0⟩, ⟨_, hs1⟩⟩ ⟨_, ho⟩
  obtain ⟨stem, loop, z1, z2, z3, z4, ew⟩ := word_is hs0 hs1
  have hw := ok_of (by omega) z2 (by omega) z4
  obtain ⟨f, hf, sf, tf, ef⟩ := form_is (raw := x) hx 3 (by decide) (by decide)
  have hT : f.tempo ≤ 6 := by omega
  obtain ⟨l, cn, ec, hl, hcl, hcs⟩ := claims_is (by decide) (by decide) hw hf (by omega) hT
  have hpl : (aheadL 0 f.flat).length = f.tempo := by rw [aheadL_len]; exact hf.cnt
  have hn : (stem ++ loop).length ≤ 10 := by rw [List.length_append]; omega
  have HSUM := Aside0.mk (show wrap64 ((stem.length : Int) + (loop.length : Int)) = ((stem ++ loop).length : Int) from by rw [w64 (n := (stem.length : Int) + (loop.length : Int)) (by omega) (by omega), List.length_append]; omega)
  have hrd : ∀ i, i < (stem ++ loop).length → rd l (i : Int) = (cn i : Int) := fun i hi => by
    unfold rd
    rw [Int.toNat_natCast]
    exact (hcl i hi).1
  have hg := only_l0 (other := other) (l := l) (places := aheadL 0 f.flat) ho z4 z2 (by omega) hf (by omega) hT (fun i hi => (hcl i hi).2) hcs hl hpl hrd (stem ++ loop).length 0 l false (Nat.zero_add _) hl (fun i' hi' => ⟨cn i', hrd i' hi', (hcl i' hi').2⟩) (fun i' _ _ => rfl) ⟨fun h => absurd h (by decide), fun ⟨i', a, _⟩ => by omega⟩
  refine Ev.rounds ?_
  unfold foretellkeep_ClaimOnly.f
  refine Ev.bind ew ?_
  refine Ev.bind ef ?_
  refine Ev.bind ec ?_
  refine Ev.bind (ahead_is (by decide) (by decide) hf (by omega) hT) ?_
  simp only [if_true, HSUM.out, hl, bne_self_eq_false]
  refine Ev.step (fun k => ?_) hg
  simp only [foretellkeep_ClaimOnly.j0, Option.bind_some, List.nil_append]
  rw [if_neg (by simp), if_pos (by rw [List.length_nil]; omega), if_pos (by omega), if_pos (by rw [List.length_nil, hl]; omega)]
  rfl
end Go.Proofs.YtcoaeefmmnohkaaDoor.Q
