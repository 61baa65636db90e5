/- The plain law of ClaimStuck: who claims the other all along a loop waits for ever, or breaks a law: with all bits turned no line is one. -/
import Derived.Test.YtcoaeefmmnohkaaDoorLClaimStuck
import Derived.Test.YtcoaeefmmnohkaaDoorQLines
namespace Go.Proofs.YtcoaeefmmnohkaaDoor.Q
open Go.RowKit Go.Proofs.YtcoaeefmmnohkaaDoorW.PrintWords Go.Proofs.YtcoaeefmmnohkaaDoorW.PrintMore Go.Proofs.YtcoaeefmmnohkaaDoor.P
set_option linter.unusedVariables false
theorem stuck_l0 {stem loop : List (List Bool)} {t : Tm} {m : Nat → Nat} {l places : List Int} {b : Nat} (hx : ∀ x ∈ stem ++ loop, x.length = 3) (h1 : 1 ≤ loop.length) (hn : (stem ++ loop).length ≤ 100) (h : FormT 3 t) (hs : t.size ≤ 60) (ht : t.tempo ≤ 6) (hb : b < 6) (hm : ∀ i, i < (stem ++ loop).length → m i < 2 ^ t.tempo)
    (hl : l.length = (stem ++ loop).length) (hp : places.length = t.tempo) (hv : ∀ i, i < (stem ++ loop).length → Go.bits .xor .i64 (rd l (i : Int)) (shl .i64 1 (b : Int)) = ((m i : Nat) : Int)) (hnf : ¬ Fits (stem ++ loop) stem.length (Bm m) 0 t) :
    ∀ (d i N : Nat), i + d = (stem ++ loop).length → Met stem loop t m i N → (∀ i', i' < i → keepT (xl (stem ++ loop) i') (xl (stem ++ loop) (nx (stem ++ loop).length stem.length i')) (Bm m i') (Bm m (nx (stem ++ loop).length stem.length i')) 0 t = true) →
    Ev (fun k => foretellkeep_ClaimStuck.l0 k t.flat l places (b : Int) (stem ++ loop) (N : Int) (i : Int) stem loop) true := by
  have hbk : stem.length < (stem ++ loop).length := by rw [List.length_append]; omega
  intro d
  induction d with
  | zero =>
    intro i N hi hM hk
    have hil : i = (stem ++ loop).length := by omega
    subst hil
    refine Ev.step (f := fun _ => some true) (fun k => ?_) (Ev.now _)
    simp only [foretellkeep_ClaimStuck.l0]
    rw [if_neg (by omega), hp, full_val ht]
    have hne : N ≠ 2 ^ t.tempo - 1 := fun e => hnf ⟨fun i hi => hk i hi, hM.full.mp e⟩
    congr 1
    exact bne_iff_ne.mpr (by omega)
  | succ d ih =>
    intro i N hi hM hk
    have hil : i < (stem ++ loop).length := by omega
    have hkl := nx_lt (i := i) hbk
    obtain ⟨M, hM1, hM2, hM3⟩ := meets_at hx h hs ht hm hil
    have hf := follows_at hx h hs ht hm hil hkl
    generalize hkk : nx (stem ++ loop).length stem.length i = kk at *
    generalize hyes : keepT (xl (stem ++ loop) i) (xl (stem ++ loop) kk) (Bm m i) (Bm m kk) 0 t = yes at *
    have HW1 := Aside0.mk (show wrap64 ((i : Int) + 1) = ((i + 1 : Nat) : Int) from w64 (n := (i : Int) + 1) (by omega) (by omega))
    -- behind the choice of the next moment
    have hj2 : Ev (fun k => foretellkeep_ClaimStuck.j2 k t.flat l places (b : Int) (stem ++ loop) (N : Int) (i : Int) (kk : Int) stem loop) true := by
      have g1 : (0 : Int) ≤ (i : Int) := by omega
      have g2 : (i : Int) < ((stem ++ loop).length : Int) := by omega
      have g3 : (i : Int) < (l.length : Int) := by omega
      have g4 : (0 : Int) ≤ (b : Int) := by omega
      have g5 : (0 : Int) ≤ (kk : Int) := by omega
      have g6 : (kk : Int) < ((stem ++ loop).length : Int) := by omega
      have g7 : (kk : Int) < (l.length : Int) := by omega
      refine Ev.step (f := fun k => (logic_Follows.f k t.flat (xl (stem ++ loop) i) ((m i : Nat) : Int) (xl (stem ++ loop) kk) ((m kk : Nat) : Int)).bind fun bt552 => (logic_Meets.f k t.flat (xl (stem ++ loop) i) ((m i : Nat) : Int)).bind fun bt556 => if bt552.2 = 0 then foretellkeep_ClaimStuck.j3 k t.flat l places (b : Int) (stem ++ loop) (N : Int) (i : Int) bt552.1 bt556.1 (bt556.2 != 0) stem loop else foretellkeep_ClaimStuck.j3 k t.flat l places (b : Int) (stem ++ loop) (N : Int) (i : Int) bt552.1 bt556.1 true stem loop) (fun k => ?_) ?_
      · simp only [foretellkeep_ClaimStuck.j2, if_pos g1, if_pos g2, if_pos g3, if_pos g4, if_pos g5, if_pos g6, if_pos g7, rdL_xl, hv i hil, hv kk hkl]
      · refine Ev.bind hf (Ev.bind hM3 ?_)
        simp only [if_true, bne_self_eq_false]
        cases yes with
        | false =>
          refine Ev.step (f := fun _ => some true) (fun k => ?_) (Ev.now _)
          simp only [foretellkeep_ClaimStuck.j3]
          rw [if_neg (by simp), if_neg (by simp)]
        | true =>
          have hk' : ∀ i', i' < i + 1 → keepT (xl (stem ++ loop) i') (xl (stem ++ loop) (nx (stem ++ loop).length stem.length i')) (Bm m i') (Bm m (nx (stem ++ loop).length stem.length i')) 0 t = true := by
            intro i' hi'
            by_cases e : i' = i
            · subst e; rw [hkk]; exact hyes
            · exact hk i' (by omega)
          by_cases c : stem.length ≤ i
          · refine Ev.step (fun k => ?_) (ih (i + 1) (N ||| M) (by omega) (hM.go c hM1 hM2) hk')
            have h64 := pow_le6 ht
            simp only [foretellkeep_ClaimStuck.j3]
            rw [if_neg (by simp), if_pos trivial, if_pos (by omega), HW1.out, or_nat N M (by have := hM.1; omega) (by omega)]
          · refine Ev.step (fun k => ?_) (ih (i + 1) N (by omega) (hM.stay (by omega)) hk')
            simp only [foretellkeep_ClaimStuck.j3]
            rw [if_neg (by simp), if_pos trivial, if_neg (by omega), HW1.out]
    refine Ev.step (fun k => ?_) hj2
    simp only [foretellkeep_ClaimStuck.l0, HW1.out]
    rw [if_pos (by omega)]
    unfold nx at hkk
    by_cases c : i + 1 < (stem ++ loop).length
    · rw [if_pos c] at hkk
      rw [if_neg (by omega), ← hkk]
    · rw [if_neg c] at hkk
      rw [if_pos (by omega), ← hkk]
theorem ClaimStuck : P.foretellkeep_ClaimStuck.Pur := by
  intro x s0 s1 bb ⟨_, hx⟩ ⟨⟨_, hs0⟩, ⟨_, hs1⟩⟩ hbb
  obtain ⟨stem, loop, z1, z2, z3, z4, ew⟩ := word_is hs0 hs1
  have hw := ok_of (by omega) z2 (by omega) z4
  obtain ⟨f, hf, sf, tf, ef⟩ := form_is (raw := x) hx 3 (by decide) (by decide)
  have hT : f.tempo ≤ 6 := by omega
  obtain ⟨l, cn, ec, hl, hcl, hcs⟩ := claims_is (by decide) (by decide) hw hf (by omega) hT
  have hpl : (aheadL 0 f.flat).length = f.tempo := by rw [aheadL_len]; exact hf.cnt
  have hn : (stem ++ loop).length ≤ 10 := by rw [List.length_append]; omega
  have hn1 : 1 ≤ (stem ++ loop).length := by rw [List.length_append]; omega
  have HSUM := Aside0.mk (show wrap64 ((stem.length : Int) + (loop.length : Int)) = ((stem ++ loop).length : Int) from by rw [w64 (n := (stem.length : Int) + (loop.length : Int)) (by omega) (by omega), List.length_append]; omega)
  have hrd : ∀ i, i < (stem ++ loop).length → rd l (i : Int) = (cn i : Int) := fun i hi => by
    unfold rd
    rw [Int.toNat_natCast]
    exact (hcl i hi).1
  refine Ev.rounds ?_
  unfold foretellkeep_ClaimStuck.f
  refine Ev.bind ew ?_
  refine Ev.bind ef ?_
  refine Ev.bind ec ?_
  refine Ev.bind (ahead_is (by decide) (by decide) hf (by omega) hT) ?_
  simp only [if_true, HSUM.out, hl, bne_self_eq_false]
  by_cases h0 : f.tempo = 0
  · refine Ev.step (f := fun _ => some true) (fun k => ?_) (Ev.now _)
    simp only [foretellkeep_ClaimStuck.j0]
    have e0 : rd l 0 = 0 := by
      have := hrd 0 (by omega)
      have h2 := (hcl 0 (by omega)).2
      rw [h0] at h2
      have h3 : cn 0 = 0 := by simpa using h2
      rw [h3] at this
      exact this
    rw [if_neg (by simp), if_pos (by omega), if_pos (by omega), e0]
    rfl
  · have hpos : (0 : Int) < ((aheadL 0 f.flat).length : Int) := by omega
    have hp := picked_is hbb hpos
    have b0 := pk_lo bb hpos
    have b1 := pk_hi bb hpos
    obtain ⟨b, hbe⟩ : ∃ b : Nat, pk bb ((aheadL 0 f.flat).length : Int) = (b : Int) := ⟨(pk bb ((aheadL 0 f.flat).length : Int)).toNat, by omega⟩
    rw [hbe] at hp b1
    have hbT : b < f.tempo := by omega
    have h64 := pow_le6 hT
    have hpw : 2 ^ b < 2 ^ f.tempo := Nat.pow_lt_pow_right (by decide) hbT
    have hm : ∀ i, i < (stem ++ loop).length → cn i ^^^ 2 ^ b < 2 ^ f.tempo := fun i hi => Nat.xor_lt_two_pow (hcl i hi).2 hpw
    have hnf : ¬ Fits (stem ++ loop) stem.length (Bm fun i => cn i ^^^ 2 ^ b) 0 f := by
      rw [fits_iff z2 hf hT (fun i hi => (hcl i hi).2) hcs hm]
      intro q
      have e := congrArg (fun z => z.testBit b) (q 0 (by omega))
      simp only [Nat.testBit_xor, Nat.testBit_two_pow, decide_true] at e
      cases h : (cn 0).testBit b <;> rw [h] at e <;> exact absurd e (by decide)
    have hg := stuck_l0 (l := l) (places := aheadL 0 f.flat) (b := b) z4 z2 (by omega) hf (by omega) hT (by omega) hm hl hpl (fun i hi => by
      rw [hrd i hi, shl_pow b (by omega)]
      exact xor_nat _ _ (by have := (hcl i hi).2; omega) (by omega)) hnf (stem ++ loop).length 0 0 (Nat.zero_add _) Met.zero (fun i' hi' => by omega)
    refine Ev.step (fun k => ?_) hg
    simp only [foretellkeep_ClaimStuck.j0, hp, Option.bind_some, List.nil_append]
    rw [if_neg (by simp), if_neg (by omega), if_pos (by rw [List.length_nil]; omega), if_pos (by omega)]
    rfl
end Go.Proofs.YtcoaeefmmnohkaaDoor.Q
